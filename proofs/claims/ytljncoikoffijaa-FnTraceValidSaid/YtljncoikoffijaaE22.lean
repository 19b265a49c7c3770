/-
  Draws: a graph and a trace. No conditions.
-/
import Derived.Test.YtljncoikoffijaaE21
namespace Go.Proofs.Ytljncoikoffijaa.Vm
open Go
set_option linter.unusedVariables false
set_option linter.unusedSimpArgs false
set_option maxRecDepth 200000

structure TQ where
  pl : List Int
  q : Int
  pb : Nat
  cp : Nat
  j : Nat
  H : Hp
def TQi (ys : List UInt8) (b : Nat) (p0 : Int) (n : Nat) (x : TQ) : Prop := 1 ≤ x.pl.length ∧ x.pl.length ≤ 70 ∧ (∀ k, k < x.pl.length → 0 ≤ nth x.pl k ∧ nth x.pl k < n) ∧ p0 ≤ x.q ∧ x.q ≤ p0 + (x.pl.length - 1) * 80 ∧ ¬ b = x.pb ∧ x.cp ≤ x.pl.length + x.j ∧ x.H b = some [.list ys.length (cat cY ys), .int .i64 x.q] ∧ x.H x.pb = some (cat cI x.pl ++ List.replicate x.j .any)
theorem GraphOk.inner {a : List Ints2} {b : List (List Int)} (h : GraphOk a b) {v : Int} (h0 : 0 ≤ v) (h1 : v < b.length) : v.toNat < b.length ∧ 1 ≤ (nth b v.toNat).length ∧ (nth b v.toNat).length ≤ 60 ∧ ∀ z ∈ nth b v.toNat, 0 ≤ z ∧ z < b.length := by
  obtain ⟨n1, n2, n3, n4, n5⟩ := h.next
  obtain ⟨g1, g2, g3, g4, g5⟩ := h
  have hv : v.toNat < b.length := by omega
  obtain ⟨k1, k2⟩ := g5 v.toNat hv
  have := k2.len
  refine ⟨hv, k1, by omega, fun z hz => ?_⟩
  obtain ⟨k, q1, q2⟩ := mem_idx hz
  have := n1 v.toNat hv k q1
  rw [q2] at this; exact this
set_option maxHeartbeats 4000000 in
noncomputable def l8Trace_enc : List Int × List Int → D := sP
attribute [go_sem] l8Trace_enc
theorem l8Trace_flat (x : List Int × List Int) : dat (l8Trace_enc x) = l8Trace_enc x := by simp [go_sem]
def l8Trace_good (a : List Ints2) (bb : List (List Int)) : List Int × List Int → Prop := fun x => x.1.length ≤ 71 ∧ x.2.length ≤ 71
def l8Trace_gd (a : List Ints2) (bb : List (List Int)) (x : (List Int × List Int) × D) : Prop := l8Trace_good a bb x.1 ∧ dat x.2 = l8Trace_enc x.1
noncomputable def l8Trace_selD (a : List Ints2) (bb : List (List Int)) (p : Int) (c : Any) : ((List Int × List Int) × D) × Int := dsel (l8Trace_gd a bb) ((([], []) : List Int × List Int), l8Trace_enc (([], []))) 6000 p c
noncomputable def l8Trace_sel (a : List Ints2) (bb : List (List Int)) (p : Int) (c : Any) : (List Int × List Int) × Int := ((l8Trace_selD a bb p c).1.1, (l8Trace_selD a bb p c).2)
theorem l8Trace_okD (a : List Ints2) (bb : List (List Int))  (p : Int) (c : Any) : (l8Trace_good a bb (l8Trace_sel a bb p c).1 ∧ p ≤ (l8Trace_sel a bb p c).2 ∧ (l8Trace_sel a bb p c).2 ≤ p + 6000) ∧ dat (l8Trace_selD a bb p c).1.2 = l8Trace_enc (l8Trace_sel a bb p c).1 := by
  have hx : l8Trace_good a bb (([], [])) := by simp [l8Trace_good]
  have h := dsel_ok (good := l8Trace_gd a bb) (x0 := ((([], []) : List Int × List Int), l8Trace_enc (([], [])))) ⟨hx, l8Trace_flat _⟩ (K := 6000) (by omega) (p := p) c
  exact ⟨⟨h.1.1, h.2.1, h.2.2⟩, h.1.2⟩
theorem l8Trace_ok (a : List Ints2) (bb : List (List Int))  (p : Int) (c : Any) : l8Trace_good a bb (l8Trace_sel a bb p c).1 ∧ p ≤ (l8Trace_sel a bb p c).2 ∧ (l8Trace_sel a bb p c).2 ≤ p + 6000 := (l8Trace_okD a bb  p c).1
theorem l8Trace_ret (a : List Ints2) (bb : List (List Int)) (ys : List UInt8) (p : Int) (b : Nat) {e_ : Exit} {S_ : St} (x : List Int × List Int) (p' : Int) (he_ : e_ = .ret ∨ e_ = .normal)
    (h1 : (takeRes Try.prog S_ Try.f82.results.toList).1 ∧ dat (resD (takeRes Try.prog S_ Try.f82.results.toList).2.1) = l8Trace_enc x ∧ (takeRes Try.prog S_ Try.f82.results.toList).2.2.H b = some [li cY ys, .int .i64 p']) (hg : l8Trace_good a bb x) (h2 : p ≤ p' ∧ p' ≤ p + 6000) :
    retR Try.prog Try.f82 (fun c => ((l8Trace_selD a bb p c).1.2, one b [li cY ys, .int .i64 (l8Trace_selD a bb p c).2])) e_ S_ :=
  ret_draw (good := l8Trace_gd a bb) (enc := fun x : (List Int × List Int) × D => x.2) (cells := fun q => [li cY ys, .int .i64 q]) (x, resD (takeRes Try.prog S_ Try.f82.results.toList).2.1) p' he_ ⟨h1.1, rfl, h1.2.2⟩ ⟨hg, h1.2.1⟩ h2
set_option maxHeartbeats 8000000 in
theorem l8Trace_spec (ys : List UInt8) (p : Int) (b : Nat) (a : List Ints2) (bb : List (List Int)) (hl : ys.length ≤ 2000) (h0_ : 0 ≤ p) (hp_ : p + 6000 ≤ 1000000)  : SpecR Try.prog 82 [.ptr b 0, .st [li cP a, li cL bb]] (one b [li cY ys, .int .i64 p]) (fun c => ((l8Trace_selD a bb p c).1.2, one b [li cY ys, .int .i64 (l8Trace_selD a bb p c).2])) := by
  refine SpecR.of_walk Try.func82 rfl (by simp [Try.f82]) fun B => ?_
  cases hg : Vm.B (GraphOk a bb); rotate_left; (have hG : GraphOk a bb := (by rw [B_iff] at hg; exact hg)); rotate_left
  all_goals (repeat' (first
    | refine AW_seq ?_
    | refine AW_region (id := 0) Γe38_ok [] (by kernel_rfl) ?_; simp  [-List.getD_eq_getElem?_getD, -List.drop_one, ↓splitB_true, ↓splitB_false, go_sem]; try (refine AW_shut 3 ?_; simp [go_sem])
    | refine AW_region (id := 1) Γe38_ok [] (by kernel_rfl) ?_; simp  [-List.getD_eq_getElem?_getD, -List.drop_one, ↓splitB_true, ↓splitB_false, go_sem, hg]
    | refine AW_region (id := 2) Γe38_ok [] (by kernel_rfl) ?_; simp  [-List.getD_eq_getElem?_getD, -List.drop_one, ↓splitB_true, ↓splitB_false, go_sem]
    | refine AW_region (id := 3) Γe38_ok [] (by kernel_rfl) ?_; simp  [-List.getD_eq_getElem?_getD, -List.drop_one, ↓splitB_true, ↓splitB_false, go_sem]; try ((refine AW_mat 5 rfl fun pb cp jx hp hc hd => ?_); (have n1 : ¬ b = pb := (by rintro rfl; simp [upd] at hp)); (clear hp); (refine AW_gen (fun H1 => H1 b = some [.list ys.length (cat cY ys), .int .i64 (p)] ∧ H1 pb = some (cat cI [0] ++ List.replicate jx .any)) ⟨by simp [upd, n1, Ne.symm n1], by simp [upd, n1, Ne.symm n1, cat_one, cI]⟩ fun H1 ⟨w1, w2⟩ => ?_); (have hb0 : 1 ≤ bb.length := (by have := hG.1; have := hG.2.2.1; omega)))
    | ((obtain ⟨x1, x2, x3, x4, x5, x7, x8, x9, x10⟩ := hx); (have xl : x.pl.length - 1 < x.pl.length := (by omega)); (have xw := wrap_in (x := (x.pl.length : Int) - 1) (by omega) (by omega)); (have xt : ((x.pl.length : Int) - 1).toNat = x.pl.length - 1 := (by omega)); (obtain ⟨at_, hat⟩ : ∃ at_, nth x.pl (x.pl.length - 1) = at_ := ⟨_, rfl⟩); (have y0 := x3 (x.pl.length - 1) xl); (rw [hat] at y0); (obtain ⟨y1, y2, y3, y4⟩ := hG.inner y0.1 y0.2); (obtain ⟨g3, g4⟩ := pkI_range ys (p := x.q) (by omega) (n := ((nth bb at_.toNat).length : Int)) (by omega)); (have g5 : (pkI ys x.q (nth bb at_.toNat).length).toNat < (nth bb at_.toNat).length := (by omega)); (have g6 := y4 _ (nth_mem g5))); refine AW_region_snap (id := 4) Γe38_ok mixed [(x.pb, cat cI x.pl ++ List.replicate x.j D.any)] [] [5, 3] (by kernel_rfl) (by kernel_rfl) (by simp [-List.getD_eq_getElem?_getD, -List.drop_one, ↓splitB_true, ↓splitB_false, go_sem, x9, x10, x7, Ne.symm x7, xl, xw, xt, (show (0 : Int) ≤ (x.pl.length : Int) - 1 by omega), (show (1 : Int) ≤ (x.pl.length : Int) by omega), (show (x.pl.length : Int) - 1 < (x.pl.length : Int) by omega), (show x.pl.length - 1 < x.pl.length + x.j by omega), (show x.pl.length - 1 + 1 ≤ x.pl.length + x.j by omega), hat, y0.1, y0.2, y1, ne_nil y1, Nat.sub_pos_of_lt y1, g3, g4, g5, ne_nil g5, Nat.sub_pos_of_lt g5, hl, (show 0 ≤ x.q by omega), (show x.q ≤ 1000000 by omega), (show 0 ≤ x.q + 1 by omega), (show x.q + 1 ≤ 1000000 by omega), (show ((nth bb at_.toNat).length : Int) ≤ 1000000 by omega)]) (by simp [-List.getD_eq_getElem?_getD, -List.drop_one, ↓splitB_true, ↓splitB_false, go_sem, x9, x10, x7, Ne.symm x7, xl, xw, xt, (show (0 : Int) ≤ (x.pl.length : Int) - 1 by omega), (show (1 : Int) ≤ (x.pl.length : Int) by omega), (show (x.pl.length : Int) - 1 < (x.pl.length : Int) by omega), (show x.pl.length - 1 < x.pl.length + x.j by omega), (show x.pl.length - 1 + 1 ≤ x.pl.length + x.j by omega), hat, y0.1, y0.2, y1, ne_nil y1, Nat.sub_pos_of_lt y1, g3, g4, g5, ne_nil g5, Nat.sub_pos_of_lt g5, hl, (show 0 ≤ x.q by omega), (show x.q ≤ 1000000 by omega), (show 0 ≤ x.q + 1 by omega), (show x.q + 1 ≤ 1000000 by omega), (show ((nth bb at_.toNat).length : Int) ≤ 1000000 by omega)]) ?_; simp  [-List.getD_eq_getElem?_getD, -List.drop_one, ↓splitB_true, ↓splitB_false, go_sem, x9, x10, x7, Ne.symm x7, xl, xw, xt, (show (0 : Int) ≤ (x.pl.length : Int) - 1 by omega), (show (1 : Int) ≤ (x.pl.length : Int) by omega), (show (x.pl.length : Int) - 1 < (x.pl.length : Int) by omega), (show x.pl.length - 1 < x.pl.length + x.j by omega), (show x.pl.length - 1 + 1 ≤ x.pl.length + x.j by omega), hat, y0.1, y0.2, y1, ne_nil y1, Nat.sub_pos_of_lt y1, g3, g4, g5, ne_nil g5, Nat.sub_pos_of_lt g5, hl, (show 0 ≤ x.q by omega), (show x.q ≤ 1000000 by omega), (show 0 ≤ x.q + 1 by omega), (show x.q + 1 ≤ 1000000 by omega), (show ((nth bb at_.toNat).length : Int) ≤ 1000000 by omega)]; try ((obtain ⟨nn, hnn⟩ : ∃ nn, nth (nth bb at_.toNat) (pkI ys x.q (nth bb at_.toNat).length).toNat = nn := ⟨_, rfl⟩); (rw [hnn] at g6 ⊢); (refine AW_gen (fun H3 => H3 b = some [.list ys.length (cat cY ys), .int .i64 (x.q + 1)] ∧ H3 x.pb = some (cat cI x.pl ++ List.replicate x.j D.any)) ⟨by simp [upd, x7, Ne.symm x7], by simp [upd, x7, Ne.symm x7, x10]⟩ fun H3 ⟨w3, w4⟩ => ?_))
    | refine AW_region (id := 5) Γe38_ok [] (by kernel_rfl) ?_; simp  [-List.getD_eq_getElem?_getD, -List.drop_one, ↓splitB_true, ↓splitB_false, go_sem]
    | refine AW_region (id := 6) Γe38_ok [] (by kernel_rfl) ?_; simp  [-List.getD_eq_getElem?_getD, -List.drop_one, ↓splitB_true, ↓splitB_false, go_sem]
    | refine AW_region (id := 8) Γe38_ok [53, 57] (by kernel_rfl) ?_; simp  [-List.getD_eq_getElem?_getD, -List.drop_one, ↓splitB_true, ↓splitB_false, go_sem, he, c44, ne_nil c44, Nat.sub_pos_of_lt c44, r4, r5, x7, Ne.symm x7, hl, (show 0 ≤ r.2.1 by omega), (show r.2.1 ≤ 1000000 by omega), (show 0 ≤ r.2.1 + 1 by omega), (show r.2.1 + 1 ≤ 1000000 by omega), (show r.1 < x.pl.length + x.j by omega), (show r.1 + 1 ≤ x.pl.length + x.j by omega)]; try (refine ⟨fun s8a => ?_, fun s8a => ?_⟩ <;> (try simp [B_iff, B_not] at s8a) <;> try (refine ⟨fun s8b => ?_, fun s8b => ?_⟩ <;> (try simp [B_iff, B_not] at s8b) <;> try (refine ⟨fun s8c => ?_, fun s8c => ?_⟩ <;> (try simp [B_iff, B_not] at s8c))))
    | ((refine AW_unmat 5 (b := x.pb) (sz := 1) (m := x.pl.length) (cp := x.cp) (all := cat cI x.pl ++ List.replicate x.j .any) rfl (by simp [upd, x7, Ne.symm x7, r5]) (by omega) (by simp [cat_length]) (by simp [cat_length]; omega) ?_); (refine AW_gen (fun H4 => ∃ q3, r.2.1 ≤ q3 ∧ q3 ≤ r.2.1 + 1 ∧ H4 b = some [.list ys.length (cat cY ys), .int .i64 (q3)]) (by first | (refine ⟨r.2.1 + 1, ?_, ?_, ?_⟩ <;> first | omega | (simp [upd, x7, Ne.symm x7, r4]; done)) | (refine ⟨r.2.1, ?_, ?_, ?_⟩ <;> first | omega | (simp [upd, x7, Ne.symm x7, r4]; done))) fun H4 ⟨q3, s1, s2, s3⟩ => ?_); (refine AW_shut 5 ?_); (simp [go_sem, cat_take_app1])); refine AW_region_draw (id := 9) Γe38_ok mixed [] [5, 7] (by kernel_rfl) (by kernel_rfl) (by simp [-List.getD_eq_getElem?_getD, -List.drop_one, ↓splitB_true, ↓splitB_false, go_sem, c44, ne_nil c44, Nat.sub_pos_of_lt c44, (show r.1 ≤ x.pl.length by omega), (show (r.1 : Int) ≤ x.pl.length by omega), (show (x.pl.drop r.1).take (x.pl.length - r.1) = x.pl.drop r.1 from List.take_of_length_le (by rw [List.length_drop]; omega))]) ?_; simp  [-List.getD_eq_getElem?_getD, -List.drop_one, ↓splitB_true, ↓splitB_false, go_sem, c44, ne_nil c44, Nat.sub_pos_of_lt c44, (show r.1 ≤ x.pl.length by omega), (show (r.1 : Int) ≤ x.pl.length by omega), (show (x.pl.drop r.1).take (x.pl.length - r.1) = x.pl.drop r.1 from List.take_of_length_le (by rw [List.length_drop]; omega))]; try ((refine AW_matBox 8 rfl fun mk hmk => ?_); (have n2 : ¬ b = mk := (by rintro rfl; dsimp only at hmk; rw [s3] at hmk; cases hmk)); (clear hmk); (refine AW_gen (fun H5 => H5 b = some [.list ys.length (cat cY ys), .int .i64 (q3)] ∧ H5 mk = some [li cI (x.pl.take r.1), li cI (x.pl.drop r.1)]) ⟨by simp [upd, n2, Ne.symm n2, s3], by simp [upd, n2, Ne.symm n2, li, cat_take1, cat_drop1]; omega⟩ fun H5 ⟨t1, t2⟩ => ?_))
    | refine AW_region (id := 10) Γe38_ok [] (by kernel_rfl) ?_; simp  [-List.getD_eq_getElem?_getD, -List.drop_one, ↓splitB_true, ↓splitB_false, go_sem, t1, hl, (show 0 ≤ q3 by omega), (show q3 ≤ 1000000 by omega), (show 0 ≤ q3 + 1 by omega), (show q3 + 1 ≤ 1000000 by omega)]
    | refine AW_region (id := 11) Γe38_ok [] (by kernel_rfl) ?_; simp  [-List.getD_eq_getElem?_getD, -List.drop_one, ↓splitB_true, ↓splitB_false, go_sem, t1, t2, n2, Ne.symm n2, hl, (show 0 ≤ q3 + 1 by omega), (show q3 + 1 ≤ 1000000 by omega), (show 0 ≤ q3 + 1 + 1 by omega), (show q3 + 1 + 1 ≤ 1000000 by omega), (show (x.pl.drop r.1).length ≤ 9223372036854775806 by rw [List.length_drop]; omega), (show 2 * (x.pl.drop r.1).length * 8 ≤ 281474976710656 by rw [List.length_drop]; omega), (show 2 * ((x.pl.drop r.1).length + 1) * 8 ≤ 281474976710656 by rw [List.length_drop]; omega), (show x.pl.length - r.1 ≤ 9223372036854775806 by omega), (show x.pl.length ≤ 9223372036854775807 + r.1 by omega), (show x.pl.length ≤ 9223372036854775806 + r.1 by omega), (show x.pl.length - r.1 + 1 ≤ 9223372036854775807 by omega), (show 2 * (x.pl.length - r.1) * 8 ≤ 281474976710656 by omega), (show 2 * (x.pl.length - r.1 + 1) * 8 ≤ 281474976710656 by omega), snoc_cI]
    | refine AW_region (id := 12) Γe38_ok [] (by kernel_rfl) ?_; simp  [-List.getD_eq_getElem?_getD, -List.drop_one, ↓splitB_true, ↓splitB_false, go_sem, t1, t2, n2, Ne.symm n2]
    | ((refine AW_gen (fun H4 => ∃ q3, r.2.1 ≤ q3 ∧ q3 ≤ r.2.1 + 1 ∧ H4 b = some [.list ys.length (cat cY ys), .int .i64 (q3)] ∧ H4 x.pb = some (cat cI x.pl ++ List.replicate x.j D.any)) (by first | (refine ⟨r.2.1, ?_, ?_, ?_, ?_⟩ <;> first | omega | (simp [upd, x7, Ne.symm x7, r4, r5]; done)) | (refine ⟨r.2.1 + 1, ?_, ?_, ?_, ?_⟩ <;> first | omega | (simp [upd, x7, Ne.symm x7, r4, r5]; done))) fun H4 ⟨q3, s1, s2, k1, k2⟩ => ?_)); refine AW_region (id := 7) Γe38_ok [] (by kernel_rfl) ?_; simp  [-List.getD_eq_getElem?_getD, -List.drop_one, ↓splitB_true, ↓splitB_false, go_sem, wrapS (k := r.1) (by omega)]
    | refine AW_region (id := 13) Γe38_ok [] (by kernel_rfl) ?_; simp  [-List.getD_eq_getElem?_getD, -List.drop_one, ↓splitB_true, ↓splitB_false, go_sem, r4, r5, x7, Ne.symm x7, (show x.pl.length ≤ 9223372036854775806 by omega), (show 2 * (x.pl.length + 1) * 8 ≤ 281474976710656 by omega), (show x.pl.length ≤ x.pl.length + x.j by omega), x8, snoc_cI, cat_take_app1]; try ((refine AW_mat 5 rfl fun pb2 cp2 j2 hp2 hc2 hd2 => ?_); (have m1 : ¬ b = pb2 := (by intro e; rw [← e] at hp2; simp [upd, x7, Ne.symm x7, r4] at hp2)); (clear hp2); (refine AW_gen (fun H2 => H2 b = some [.list ys.length (cat cY ys), .int .i64 (r.2.1)] ∧ H2 pb2 = some (cat cI (x.pl ++ [nn]) ++ List.replicate j2 .any)) ⟨by simp [upd, m1, x7, Ne.symm x7, r4], by simp [upd, snoc_cI]⟩ fun H2 ⟨s1, s2⟩ => ?_); (have hpl2 : x.pl.length + 1 = (x.pl ++ [nn]).length := (by simp)); (have hin2 : ∀ k, k < (x.pl ++ [nn]).length → 0 ≤ nth (x.pl ++ [nn]) k ∧ nth (x.pl ++ [nn]) k < bb.length := (fun k hk => by rcases Nat.lt_or_ge k x.pl.length with c | c; (rw [nth_app1 c]; exact x3 k c); (rw [show k = x.pl.length by simp at hk; omega, nth_last1]; exact g6))); (generalize x.pl ++ [nn] = pl2 at *); (obtain ⟨q2, hq2⟩ : ∃ q2, q2 = r.2.1 := ⟨_, rfl⟩); (rw [← hq2] at s1))
    | refine AW_region (id := 14) Γe38_ok [] (by kernel_rfl) ?_; simp  [-List.getD_eq_getElem?_getD, -List.drop_one, ↓splitB_true, ↓splitB_false, go_sem, (show True from trivial)]
    | ((refine AW_unmat 5 (b := pb2) (sz := 1) (m := x.pl.length + 1) (cp := cp2) (all := cat cI pl2 ++ List.replicate j2 .any) rfl (by simp [upd, m1, Ne.symm m1, s2]) (by omega) (by simp [cat_length]; omega) (by simp [cat_length]; omega) ?_)); refine AW_region (id := 15) Γe38_ok [] (by kernel_rfl) ?_; simp  [-List.getD_eq_getElem?_getD, -List.drop_one, ↓splitB_true, ↓splitB_false, go_sem, hpl2, cat_take_app1]
    | refine AW_condA (c := .tmp 11) ?_; simp [-List.getD_eq_getElem?_getD, -List.drop_one, ↓splitB_true, ↓splitB_false, go_sem]; try first | (refine ⟨?_, ?_⟩ <;> change AW _ _ _ _ _ _) | (refine ⟨fun c11 => ?_, fun c11 => ?_⟩ <;> (try simp [B_iff, B_not] at c11))
    | refine AW_condA (c := .tmp 44) ?_; simp [-List.getD_eq_getElem?_getD, -List.drop_one, ↓splitB_true, ↓splitB_false, go_sem]; try first | (refine ⟨?_, ?_⟩ <;> change AW _ _ _ _ _ _) | (refine ⟨fun c44 => ?_, fun c44 => ?_⟩ <;> (try simp [B_iff, B_not] at c44))
    | refine AW_condA (c := .tmp 62) ?_; simp [-List.getD_eq_getElem?_getD, -List.drop_one, ↓splitB_true, ↓splitB_false, go_sem]; try first | (refine ⟨?_, ?_⟩ <;> change AW _ _ _ _ _ _) | (refine ⟨fun c62 => ?_, fun c62 => ?_⟩ <;> (try simp [B_iff, B_not] at c62))
    | refine AW_condA (c := .tmp 72) ?_; simp [-List.getD_eq_getElem?_getD, -List.drop_one, ↓splitB_true, ↓splitB_false, go_sem]; try first | (refine ⟨?_, ?_⟩ <;> change AW _ _ _ _ _ _) | (refine ⟨fun c72 => ?_, fun c72 => ?_⟩ <;> (try simp [B_iff, B_not] at c72))
    | refine AW_condA (c := .tmp 90) ?_; simp [-List.getD_eq_getElem?_getD, -List.drop_one, ↓splitB_true, ↓splitB_false, go_sem]; try first | (refine ⟨?_, ?_⟩ <;> change AW _ _ _ _ _ _) | (refine ⟨fun c90 => ?_, fun c90 => ?_⟩ <;> (try simp [B_iff, B_not] at c90))
    | (refine AW_block (id := 0) (AW_loop (ι := TQ) (fun x : TQ => ⟨(upd (upd (upd (upd (fun _ => .any) 0 (.ptr b 0)) 3 (.pd [li cP a, li cL bb])) 4 (.box [.nil, .nil])) 5 (.sl x.pb 1 0 x.pl.length x.cp)), x.H⟩) (fun x => TQi ys b p bb.length x) (fun x => 71 - x.pl.length) (⟨[0], p, pb, cp, jx, H1⟩) ?_ ?_ ?_); exact ⟨by simp, by simp, (fun k hk => by simp at hk; subst hk; exact ⟨Int.le_refl _, by show (0 : Int) < _; omega⟩), by dsimp only; omega, by dsimp only; simp, n1, by simpa using hd, w1, w2⟩; ((repeat' (first | exact sub_noneH (by assumption) | exact sub_none | refine sub_upd ?_ ?_ | refine sub_noneE ?_)) <;> simp [-List.getD_eq_getElem?_getD, -List.drop_one, ↓splitB_true, ↓splitB_false, go_sem]); rintro x hx)
    | (refine ⟨⟨pl2, q2, pb2, cp2, j2, H2⟩, ⟨by dsimp only; omega, by dsimp only; omega, hin2, by dsimp only; omega, by dsimp only; omega, m1, by dsimp only; omega, s1, s2⟩, by first | omega | (simp; done) | (simp; omega), ?_⟩; ((repeat' (first | exact sub_noneH (by assumption) | exact sub_none | refine sub_upd ?_ ?_ | refine sub_noneE ?_)) <;> simp [-List.getD_eq_getElem?_getD, -List.drop_one, ↓splitB_true, ↓splitB_false, go_sem, hpl2]))
    | (refine AW_block (id := 2) (AW_loop (ι := Nat × Int × Hp) (fun r : Nat × Int × Hp => ⟨(upd (upd (upd (upd (upd (upd (fun _ => .any) 0 (.ptr b 0)) 3 (.pd [li cP a, li cL bb])) 4 (.box [.nil, .nil])) 5 (.sl x.pb 1 0 x.pl.length x.cp)) 6 (.int .i64 nn)) 7 (.int .i64 r.1)), r.2.2⟩) (fun r => r.1 ≤ x.pl.length ∧ x.q + 1 ≤ r.2.1 ∧ r.2.1 ≤ x.q + 1 + r.1 ∧ r.2.2 b = some [.list ys.length (cat cY ys), .int .i64 (r.2.1)] ∧ r.2.2 x.pb = some (cat cI x.pl ++ List.replicate x.j D.any)) (fun r => x.pl.length - r.1) ((0, x.q + 1, H3)) ?_ ?_ ?_); exact ⟨Nat.zero_le _, by dsimp only; omega, by dsimp only; omega, w3, w4⟩; ((repeat' (first | exact sub_noneH (by assumption) | exact sub_none | refine sub_upd ?_ ?_ | refine sub_noneE ?_)) <;> simp [-List.getD_eq_getElem?_getD, -List.drop_one, ↓splitB_true, ↓splitB_false, go_sem]); rintro r ⟨r1, r2, r3, r4, r5⟩; by_cases he : nth x.pl r.1 = nn)
    | (refine ⟨(r.1 + 1, q3, H4), ⟨by dsimp only; omega, by dsimp only; omega, by dsimp only; omega, k1, k2⟩, by first | omega | (simp; done) | (simp; omega), ?_⟩; ((repeat' (first | exact sub_noneH (by assumption) | exact sub_none | refine sub_upd ?_ ?_ | refine sub_noneE ?_)) <;> simp [-List.getD_eq_getElem?_getD, -List.drop_one, ↓splitB_true, ↓splitB_false, go_sem, ]))
    | (refine AW_block ?_)
    | (refine AW_exit ?_; simp [-List.getD_eq_getElem?_getD, -List.drop_one, ↓splitB_true, ↓splitB_false, go_sem])
    | (refine AW_skip ?_; simp [-List.getD_eq_getElem?_getD, -List.drop_one, ↓splitB_true, ↓splitB_false, go_sem])
    | (refine AW_ret ?_; try simp [-List.getD_eq_getElem?_getD, -List.drop_one, ↓splitB_true, ↓splitB_false, go_sem, Try.results82])
    | (intro hx; change AW _ _ _ _ _ _)
    | (intro hx; change retR _ _ _ _ _)
    | (refine ⟨?_, ?_⟩ <;> change AW _ _ _ _ _ _)
    | (intro hx; refine ⟨fun hs => ?_, fun hs => ?_⟩)
    | (refine ⟨fun hs => ?_, fun hs => ?_⟩)
    | (refine ⟨?_, fun hs => ?_⟩; change AW _ _ _ _ _ _)
    | (refine ⟨fun hs => ?_, ?_⟩; rotate_left; change AW _ _ _ _ _ _; rotate_left)))
  all_goals (first
    | (refine l8Trace_ret _ _ _ _ _ ((x.pl.take r.1, x.pl.drop r.1)) (q3 + 1) ?_ ?_ ?_ ?_; (first | exact Or.inl rfl | exact Or.inr rfl); (focus (simp [-List.getD_eq_getElem?_getD, -List.drop_one, ↓splitB_true, ↓splitB_false, go_sem, Try.results82, dat, datL_map, datL, li, cat_flat2, t1, t2, n2, Ne.symm n2, List.length_take, List.length_drop]; done)); (focus (((simp [l8Trace_good]; omega)); done)); (focus (refine ⟨?_, ?_⟩ <;> omega)))
    | (refine l8Trace_ret _ _ _ _ _ ((x.pl.take r.1, x.pl.drop r.1 ++ [numI ys (q3 + 1) [0, 1, -1, 60]])) (q3 + 1 + 1) ?_ ?_ ?_ ?_; (first | exact Or.inl rfl | exact Or.inr rfl); (focus (simp [-List.getD_eq_getElem?_getD, -List.drop_one, ↓splitB_true, ↓splitB_false, go_sem, Try.results82, dat, datL_map, datL, li, cat_flat2, cat_append, cat_one, cI, t1, t2, n2, Ne.symm n2, List.length_take, List.length_drop]; done)); (focus (((simp [l8Trace_good]; omega)); done)); (focus (refine ⟨?_, ?_⟩ <;> omega)))
    | (refine l8Trace_ret _ _ _ _ _ ((pl2, [])) (q2) ?_ ?_ ?_ ?_; (first | exact Or.inl rfl | exact Or.inr rfl); (focus (simp [-List.getD_eq_getElem?_getD, -List.drop_one, ↓splitB_true, ↓splitB_false, go_sem, Try.results82, dat, datL_map, datL, li, cat_flat2, cat_nil, s1, m1, Ne.symm m1, hpl2]; done)); (focus (((simp [l8Trace_good]; omega)); done)); (focus (refine ⟨?_, ?_⟩ <;> omega)))
    | (refine l8Trace_ret _ _ _ _ _ (([0], [0])) (p) ?_ ?_ ?_ ?_; (first | exact Or.inl rfl | exact Or.inr rfl); (focus (simp [-List.getD_eq_getElem?_getD, -List.drop_one, ↓splitB_true, ↓splitB_false, go_sem, Try.results82, dat, datL_map, datL, li, cat_nil, cat, cI]; done)); (focus ((simp [l8Trace_good]); done)); (focus (refine ⟨?_, ?_⟩ <;> omega)))
    | skip)
noncomputable def l8TraceC : Con := .rel fun args H => match args with
  | [.ptr b 0, .st [.list n_a c_a, .list n_bb c_bb]] => match H b with
    | some [.list m cs, .int .i64 p] => ((Is cY m cs) ∧ (m ≤ 2000) ∧ (0 ≤ p) ∧ (p + 6000 ≤ 1000000) ∧ (Is cP n_a c_a) ∧ (Is cL n_bb c_bb), fun c => (l8Trace_enc (l8Trace_sel (de cP c_a) (de cL c_bb) p c).1, upd H b (some [.list m cs, .int .i64 (l8Trace_sel (de cP c_a) (de cL c_bb) p c).2])))
    | _ => (False, fun _ => (.any, H))
  | _ => (False, fun _ => (.any, H))
attribute [go_sem] l8TraceC
theorem l8TraceC_ok : ConOk Try.prog 82 l8TraceC := by
  refine ⟨callable Try.func82 (by decide) rfl, fun args H h => ?_⟩
  revert h
  dsimp only
  split
  · split
    · rename_i hH
      intro h
      obtain ⟨⟨ys, rfl, rfl⟩, hl, h0_, hp_, ⟨a, rfl, rfl⟩, ⟨bb, rfl, rfl⟩⟩ := h
      try simp only [de_cat] at *
      exact SpecR.enc ((l8Trace_spec ys _ _ a bb hl h0_ hp_ ).frame hH).shut fun c => Prod.ext (l8Trace_okD _ _  _ _).2.symm rfl
    · intro h; exact h.elim
  · intro h
    exact h.elim
noncomputable def Γe39 : FuncId → Con := ext Γe38 82 l8TraceC
attribute [go_sem] Γe39
theorem Γe39_ok : ∀ g, ConOk Try.prog g (Γe39 g) := ext_ok Γe38_ok l8TraceC_ok
end Go.Proofs.Ytljncoikoffijaa.Vm

