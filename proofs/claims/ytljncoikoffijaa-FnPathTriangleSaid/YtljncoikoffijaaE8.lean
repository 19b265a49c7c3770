/-
  Systems: a step taken. No conditions.
-/
import Derived.Test.YtljncoikoffijaaE7
namespace Go.Proofs.Ytljncoikoffijaa.Vm
open Go
set_option linter.unusedVariables false
set_option linter.unusedSimpArgs false
set_option maxRecDepth 200000

noncomputable def l3TakeC : Con := .rel fun args H => match args with
  | [.st [.sl x 1 0 n c1, .sl y 1 0 m c2], .int .i64 p, .st [.int .i64 fr0, .int .i64 to, .int .i64 gk, .int .i64 gv, .list ng cg, .int .i64 v, .int .i64 ek, .int .i64 ev, .list ne ce, .int .i64 sy]] =>
    match H x, H y with
    | some a1, some a2 => (¬ x = y ∧ n ≤ a1.length ∧ m ≤ a2.length ∧ Is cI n (a1.take n) ∧ Is cI m (a2.take m) ∧ Is cX ng cg ∧ Is cX ne ce ∧ 0 ≤ p ∧ p < n ∧ ValsOk (de cI (a2.take m)) ∧ EdgeT v (.mk ek ev (de cX ce)),
        fun c => (.st [.sl x 1 0 n c1, .sl y 1 0 m c2], upd (upd H x (some (cat cI ((de cI (a1.take n)).set p.toNat to) ++ a1.drop n))) y (some (cat cI (take_sel (de cI (a2.take m)) c) ++ a2.drop m))))
    | _, _ => (False, fun _ => (.any, H))
  | _ => (False, fun _ => (.any, H))
attribute [go_sem] l3TakeC
theorem l3TakeC_ok : ConOk Try.prog 149 l3TakeC := by
  refine ⟨callable Try.func149 (by decide) rfl, fun args H h => ?_⟩
  revert h
  dsimp only
  split
  · split
    · rename_i a1 a2 hH1 hH2
      rintro ⟨g0, g1, g2, ⟨xs, hn, he⟩, ⟨ys, hm, hf⟩, ⟨gs, rfl, rfl⟩, ⟨es, rfl, rfl⟩, g5, g6, g7, g8⟩
      subst hn hm
      have e1 : a1 = cat cI xs ++ a1.drop xs.length := by rw [← he, List.take_append_drop]
      have e2 : a2 = cat cI ys ++ a2.drop ys.length := by rw [← hf, List.take_append_drop]
      rw [hf, de_cat] at g7
      rw [de_cat] at g8
      simp only [he, hf, de_cat]
      rw [e1] at hH1
      rw [e2] at hH2
      exact l3Take_spec xs ys _ _ _ _ _ gs _ _ _ es _ _ _ _ _ _ _ H hH1 hH2 g0 g5 g6 g7 g8
    · intro h; exact h.elim
  · intro h
    exact h.elim
noncomputable def Γe18 : FuncId → Con := ext Γe17 149 l3TakeC
attribute [go_sem] Γe18
theorem Γe18_ok : ∀ g, ConOk Try.prog g (Γe18 g) := ext_ok Γe17_ok l3TakeC_ok
theorem take_ok {va : List Int} (h : ValsOk va) (c : Any) : ValsOk (take_sel va c) := sel_ok (p := ValsOk) h c

set_option maxHeartbeats 2000000 in
noncomputable def l3Apply_enc : List Int × List Int → D := fun x => .st [fr 1 cI x.1, fr 1 cI x.2]
attribute [go_sem] l3Apply_enc
def l3Apply_good (init : List Int) (ps : List Pr) (lo : List Int) (va : List Int) (s1 : Int) (s2 : Int) (s3 : Int) (s4 : Int) : List Int × List Int → Prop := fun x => StF ps x.1 x.2
noncomputable def l3Apply_sel (init : List Int) (ps : List Pr) (lo : List Int) (va : List Int) (s1 : Int) (s2 : Int) (s3 : Int) (s4 : Int) (c : Any) : List Int × List Int := sel (l3Apply_good init ps lo va s1 s2 s3 s4) ((lo, va)) c
theorem l3Apply_ok (init : List Int) (ps : List Pr) (lo : List Int) (va : List Int) (s1 : Int) (s2 : Int) (s3 : Int) (s4 : Int) (hS : SysOk init ps) (hT : StF ps lo va) (hP : StepF ps (s1, s2, s3, s4)) (c : Any) : l3Apply_good init ps lo va s1 s2 s3 s4 (l3Apply_sel init ps lo va s1 s2 s3 s4 c) := sel_ok (p := l3Apply_good init ps lo va s1 s2 s3 s4) (x0 := (lo, va)) (hT) c
theorem l3Apply_ret (init : List Int) (ps : List Pr) (lo : List Int) (va : List Int) (s1 : Int) (s2 : Int) (s3 : Int) (s4 : Int) {e_ : Exit} {S_ : St} (x : List Int × List Int) (he_ : e_ = .ret ∨ e_ = .normal)
    (h1 : (takeRes Try.prog S_ Try.f123.results.toList).1 ∧ resD (takeRes Try.prog S_ Try.f123.results.toList).2.1 = l3Apply_enc x) (hg : l3Apply_good init ps lo va s1 s2 s3 s4 x) :
    retR Try.prog Try.f123 (fun c => (l3Apply_enc (l3Apply_sel init ps lo va s1 s2 s3 s4 c), fun _ => none)) e_ S_ := ret_prel (enc := l3Apply_enc) x he_ h1 hg
theorem l3Apply_retE (init : List Int) (ps : List Pr) (lo : List Int) (va : List Int) (s1 : Int) (s2 : Int) (s3 : Int) (s4 : Int) {e_ : Exit} {S_ : St} (he_ : e_ = .ret ∨ e_ = .normal)
    (h : ∃ x, (takeRes Try.prog S_ Try.f123.results.toList).1 ∧ resD (takeRes Try.prog S_ Try.f123.results.toList).2.1 = l3Apply_enc x ∧ l3Apply_good init ps lo va s1 s2 s3 s4 x) :
    retR Try.prog Try.f123 (fun c => (l3Apply_enc (l3Apply_sel init ps lo va s1 s2 s3 s4 c), fun _ => none)) e_ S_ := by
  obtain ⟨x, h1, h2, h3⟩ := h
  exact l3Apply_ret _ _ _ _ _ _ _ _ x he_ ⟨h1, h2⟩ h3
theorem l3Apply_pure (init : List Int) (ps : List Pr) (lo : List Int) (va : List Int) (s1 : Int) (s2 : Int) (s3 : Int) (s4 : Int) (hS : SysOk init ps) (hT : StF ps lo va) (hP : StepF ps (s1, s2, s3, s4)) : PureR Try.prog 123 [.st [li cI init, li cR ps], .st [li cI lo, li cI va], .st [.int .i64 s1, .int .i64 s2, .int .i64 s3, .int .i64 s4]] (fun c => l3Apply_enc (l3Apply_sel init ps lo va s1 s2 s3 s4 c)) := by
  refine PureR.of_walk Try.func123 rfl (by simp [Try.f123]) (fun c => by simp [-List.drop_one, go_sem]) fun B hK => ?_
  obtain ⟨t1, t2⟩ := hT; obtain ⟨⟨p1, p2, p3, p4⟩, p5⟩ := hP; (dsimp only at p1 p2 p3 p4 p5); have hp3 := hS.2.2.1; have hvl := t2.1; have hE1 := (hS.edge ⟨p1, p2, p3, p4⟩).take; have kp : s1.toNat < ps.length := (by omega); have ke : s2.toNat < (nth ps s1.toNat).es.length := (by omega)
  all_goals (repeat' (first
    | refine AW_seq ?_
    | refine AW_region (id := 0) Γe18_ok [] (by kernel_rfl) ?_; simp  [-List.getD_eq_getElem?_getD, -List.drop_one, ↓splitB_true, ↓splitB_false, go_sem]; try (refine AW_data hK 3 ?_; refine AW_data hK 4 ?_; refine AW_data hK 5 ?_; simp [go_sem])
    | refine AW_region_draw (id := 1) Γe18_ok mixed [] [4] (by kernel_rfl) (by kernel_rfl) (by simp [-List.getD_eq_getElem?_getD, -List.drop_one, ↓splitB_true, ↓splitB_false, go_sem, (show lo.length ≤ 9223372036854775807 by omega), (show 2 * lo.length * 8 ≤ 281474976710656 by omega), (show va.length ≤ 9223372036854775807 by omega), (show 2 * va.length * 8 ≤ 281474976710656 by omega)]) ?_; simp  [-List.getD_eq_getElem?_getD, -List.drop_one, ↓splitB_true, ↓splitB_false, go_sem, (show lo.length ≤ 9223372036854775807 by omega), (show 2 * lo.length * 8 ≤ 281474976710656 by omega), (show va.length ≤ 9223372036854775807 by omega), (show 2 * va.length * 8 ≤ 281474976710656 by omega)]; try ((refine AW_box2z 7 rfl fun pb x y jx jy cx cy hpb hx hy n1 n2 n3 dx ex dy ey => ?_); (clear hpb hx hy); (simp [go_sem]))
    | refine AW_region_draw (id := 2) Γe18_ok mixed [] [5] (by kernel_rfl) (by kernel_rfl) (by simp [-List.getD_eq_getElem?_getD, -List.drop_one, ↓splitB_true, ↓splitB_false, go_sem, n1, n2, n3, Ne.symm n1, Ne.symm n2, Ne.symm n3, p1, p2, p3, p4, kp, ne_nil kp, Nat.sub_pos_of_lt kp, ke, ne_nil ke, Nat.sub_pos_of_lt ke, (show s1 < (lo.length : Int) by omega), t2, hE1, Tree.eta, cat_take_app1, (show lo.length ≤ lo.length + jx by omega), (show va.length ≤ va.length + jy by omega)]) ?_; simp  [-List.getD_eq_getElem?_getD, -List.drop_one, ↓splitB_true, ↓splitB_false, go_sem, n1, n2, n3, Ne.symm n1, Ne.symm n2, Ne.symm n3, p1, p2, p3, p4, kp, ne_nil kp, Nat.sub_pos_of_lt kp, ke, ne_nil ke, Nat.sub_pos_of_lt ke, (show s1 < (lo.length : Int) by omega), t2, hE1, Tree.eta, cat_take_app1, (show lo.length ≤ lo.length + jx by omega), (show va.length ≤ va.length + jy by omega)]; try (intro c2; have h2 := take_ok t2 c2; (generalize take_sel va c2 = va2 at *); have hv2 := h2.1)
    | refine AW_region (id := 3) Γe18_ok [] (by kernel_rfl) ?_; simp  [-List.getD_eq_getElem?_getD, -List.drop_one, ↓splitB_true, ↓splitB_false, go_sem]
    | ((obtain ⟨r1, r2, r3, r4⟩ := p5 (by simpa using c34)); have hE2 := (hS.edge ⟨r1, r2, r3, r4⟩).take; (have kr : s3.toNat < ps.length := (by omega)); (have kf : s4.toNat < (nth ps s3.toNat).es.length := (by omega)); (have hv3 : va2.length = va.length := (by omega))); refine AW_region_draw (id := 4) Γe18_ok mixed [] [5] (by kernel_rfl) (by kernel_rfl) (by simp [-List.getD_eq_getElem?_getD, -List.drop_one, ↓splitB_true, ↓splitB_false, go_sem, n1, n2, n3, Ne.symm n1, Ne.symm n2, Ne.symm n3, r1, r2, r3, r4, kr, ne_nil kr, Nat.sub_pos_of_lt kr, kf, ne_nil kf, Nat.sub_pos_of_lt kf, (show s3 < (lo.length : Int) by omega), h2, hE2, Tree.eta, hv3, cat_take_app1c (f := cI) va2 (List.replicate jy .any) (n := va.length) hv3.symm, cat_take_app1c (f := cI) (lo.set s1.toNat (nth (nth ps s1.toNat).es s2.toNat).to) (List.replicate jx .any) (n := lo.length) (by simp), (show lo.length ≤ lo.length + jx by omega), (show va.length ≤ va.length + jy by omega), (show va.length ≤ va2.length + jy by omega), (show ((List.set lo s1.toNat (nth (nth ps s1.toNat).es s2.toNat).to)).length = lo.length by simp)]) ?_; simp  [-List.getD_eq_getElem?_getD, -List.drop_one, ↓splitB_true, ↓splitB_false, go_sem, n1, n2, n3, Ne.symm n1, Ne.symm n2, Ne.symm n3, r1, r2, r3, r4, kr, ne_nil kr, Nat.sub_pos_of_lt kr, kf, ne_nil kf, Nat.sub_pos_of_lt kf, (show s3 < (lo.length : Int) by omega), h2, hE2, Tree.eta, hv3, cat_take_app1c (f := cI) va2 (List.replicate jy .any) (n := va.length) hv3.symm, cat_take_app1c (f := cI) (lo.set s1.toNat (nth (nth ps s1.toNat).es s2.toNat).to) (List.replicate jx .any) (n := lo.length) (by simp), (show lo.length ≤ lo.length + jx by omega), (show va.length ≤ va.length + jy by omega), (show va.length ≤ va2.length + jy by omega), (show ((List.set lo s1.toNat (nth (nth ps s1.toNat).es s2.toNat).to)).length = lo.length by simp)]; try (intro c4; have h4 := take_ok h2 c4; (generalize take_sel va2 c4 = va4 at *); have hv4 := h4.1)
    | (first | (refine AW_unmatCell pb 0 (b' := x) (sz := 1) (m := lo.length) (cp := cx) (all := [.sl x 1 0 lo.length cx, .sl y 1 0 va.length cy]) (cs := cat cI ((lo.set s1.toNat (nth (nth ps s1.toNat).es s2.toNat).to).set s3.toNat (nth (nth ps s3.toNat).es s4.toNat).to) ++ List.replicate jx .any) (by simp [upd, n1, n2, n3, Ne.symm n1, Ne.symm n2, Ne.symm n3]) rfl n1 (by simp [upd, n1, n2, n3, Ne.symm n1, Ne.symm n2, Ne.symm n3]) (by omega) (by simp [cat_length]) (by simp [cat_length]; omega) ?_; refine AW_unmatCell pb 1 (b' := y) (sz := 1) (m := va.length) (cp := cy) (all := [.fr 1 lo.length (cat cI ((lo.set s1.toNat (nth (nth ps s1.toNat).es s2.toNat).to).set s3.toNat (nth (nth ps s3.toNat).es s4.toNat).to)), .sl y 1 0 va.length cy]) (cs := cat cI va4 ++ List.replicate jy .any) (by simp [upd, n1, n2, n3, Ne.symm n1, Ne.symm n2, Ne.symm n3, cat_take_app1c (f := cI) ((lo.set s1.toNat (nth (nth ps s1.toNat).es s2.toNat).to).set s3.toNat (nth (nth ps s3.toNat).es s4.toNat).to) (List.replicate jx .any) (n := lo.length) (by simp)]) rfl n2 (by simp [upd, n1, n2, n3, Ne.symm n1, Ne.symm n2, Ne.symm n3]) (by omega) (by simp [cat_length]; omega) (by simp [cat_length]; omega) ?_) | (refine AW_unmatCell pb 0 (b' := x) (sz := 1) (m := lo.length) (cp := cx) (all := [.sl x 1 0 lo.length cx, .sl y 1 0 va.length cy]) (cs := cat cI (lo.set s1.toNat (nth (nth ps s1.toNat).es s2.toNat).to) ++ List.replicate jx .any) (by simp [upd, n1, n2, n3, Ne.symm n1, Ne.symm n2, Ne.symm n3]) rfl n1 (by simp [upd, n1, n2, n3, Ne.symm n1, Ne.symm n2, Ne.symm n3]) (by omega) (by simp [cat_length]) (by simp [cat_length]; omega) ?_; refine AW_unmatCell pb 1 (b' := y) (sz := 1) (m := va.length) (cp := cy) (all := [.fr 1 lo.length (cat cI (lo.set s1.toNat (nth (nth ps s1.toNat).es s2.toNat).to)), .sl y 1 0 va.length cy]) (cs := cat cI va2 ++ List.replicate jy .any) (by simp [upd, n1, n2, n3, Ne.symm n1, Ne.symm n2, Ne.symm n3, cat_take_app1c (f := cI) (lo.set s1.toNat (nth (nth ps s1.toNat).es s2.toNat).to) (List.replicate jx .any) (n := lo.length) (by simp)]) rfl n2 (by simp [upd, n1, n2, n3, Ne.symm n1, Ne.symm n2, Ne.symm n3]) (by omega) (by simp [cat_length]; omega) (by simp [cat_length]; omega) ?_)); refine AW_region (id := 5) Γe18_ok [] (by kernel_rfl) ?_; simp  [-List.getD_eq_getElem?_getD, -List.drop_one, ↓splitB_true, ↓splitB_false, go_sem, n1, n2, n3, Ne.symm n1, Ne.symm n2, Ne.symm n3]
    | refine AW_condA (c := .tmp 34) ?_; simp [-List.getD_eq_getElem?_getD, -List.drop_one, ↓splitB_true, ↓splitB_false, go_sem]; try first | (refine ⟨?_, ?_⟩ <;> change AW _ _ _ _ _ _) | (refine ⟨fun c34 => ?_, fun c34 => ?_⟩ <;> (try simp [B_iff, B_not] at c34))
    | (refine AW_block ?_)
    | (refine AW_exit ?_; simp [-List.getD_eq_getElem?_getD, -List.drop_one, ↓splitB_true, ↓splitB_false, go_sem])
    | (refine AW_skip ?_; simp [-List.getD_eq_getElem?_getD, -List.drop_one, ↓splitB_true, ↓splitB_false, go_sem])
    | (refine AW_ret ?_; try simp [-List.getD_eq_getElem?_getD, -List.drop_one, ↓splitB_true, ↓splitB_false, go_sem, Try.results123])
    | (intro hx; change AW _ _ _ _ _ _)
    | (intro hx; change retR _ _ _ _ _)
    | (refine ⟨?_, ?_⟩ <;> change AW _ _ _ _ _ _)
    | (intro hx; refine ⟨fun hs => ?_, fun hs => ?_⟩)
    | (refine ⟨fun hs => ?_, fun hs => ?_⟩)
    | (refine ⟨?_, fun hs => ?_⟩; change AW _ _ _ _ _ _)
    | (refine ⟨fun hs => ?_, ?_⟩; rotate_left; change AW _ _ _ _ _ _; rotate_left)))
  all_goals (first
    | (refine l3Apply_ret _ _ _ _ _ _ _ _ ((((lo.set s1.toNat (nth (nth ps s1.toNat).es s2.toNat).to).set s3.toNat (nth (nth ps s3.toNat).es s4.toNat).to, va4) : List Int × List Int)) ?_ ?_ ?_; (first | exact Or.inl rfl | exact Or.inr rfl); (focus (simp [-List.getD_eq_getElem?_getD, -List.drop_one, ↓splitB_true, ↓splitB_false, go_sem, Try.results123, cat_take_app1c (f := cI) va4 (List.replicate jy .any) (n := va.length) (by omega), (show va4.length = va.length by omega)]; done)); (focus ((exact ⟨by simp; omega, h4⟩); done)))
    | (refine l3Apply_ret _ _ _ _ _ _ _ _ (((lo.set s1.toNat (nth (nth ps s1.toNat).es s2.toNat).to, va2) : List Int × List Int)) ?_ ?_ ?_; (first | exact Or.inl rfl | exact Or.inr rfl); (focus (simp [-List.getD_eq_getElem?_getD, -List.drop_one, ↓splitB_true, ↓splitB_false, go_sem, Try.results123, cat_take_app1c (f := cI) va2 (List.replicate jy .any) (n := va.length) (by omega), (show va2.length = va.length by omega)]; done)); (focus ((exact ⟨by simp; omega, h2⟩); done)))
    | skip)
noncomputable def l3ApplyC : Con := .prel fun
  | [.st [.list n_init c_init, .list n_ps c_ps], .st [.list n_lo c_lo, .list n_va c_va], .st [.int .i64 s1, .int .i64 s2, .int .i64 s3, .int .i64 s4]] => ((Is cI n_init c_init) ∧ (Is cR n_ps c_ps) ∧ (Is cI n_lo c_lo) ∧ (Is cI n_va c_va) ∧ (SysOk (de cI c_init) (de cR c_ps)) ∧ (StF (de cR c_ps) (de cI c_lo) (de cI c_va)) ∧ (StepF (de cR c_ps) (s1, s2, s3, s4)), fun c => l3Apply_enc (l3Apply_sel (de cI c_init) (de cR c_ps) (de cI c_lo) (de cI c_va) s1 s2 s3 s4 c))
  | _ => (False, fun _ => .any)
attribute [go_sem] l3ApplyC
theorem l3ApplyC_ok : ConOk Try.prog 123 l3ApplyC := by
  refine ⟨callable Try.func123 (by decide) rfl, fun args h => ?_⟩
  revert h
  dsimp only
  split
  · intro h
    obtain ⟨⟨init, rfl, rfl⟩, ⟨ps, rfl, rfl⟩, ⟨lo, rfl, rfl⟩, ⟨va, rfl, rfl⟩, hS, hT, hP⟩ := h
    try simp only [de_cat] at *
    exact ⟨l3Apply_pure init ps lo va _ _ _ _ hS hT hP, fun c => by simp [go_sem]⟩
  · intro h
    exact h.elim
noncomputable def Γe19 : FuncId → Con := ext Γe18 123 l3ApplyC
attribute [go_sem] Γe19
theorem Γe19_ok : ∀ g, ConOk Try.prog g (Γe19 g) := ext_ok Γe18_ok l3ApplyC_ok

theorem l4Find_pure (xs : List Ints2) (lo : List Int) (va : List Int)  : Pure Try.prog 150 [li cP xs, .st [li cI lo, li cI va]] (.int .i64 (findI (fun z => decide (z = ((lo, va) : Ints2))) xs)) := by
  refine Pure.of_walk Try.func150 rfl (by simp [Try.f150]) (by simp [-List.drop_one, go_sem]) fun B hK => ?_
  (repeat' (first
    | refine AW_seq ?_
    | (refine AW_len 0 rfl fun hm => ?_); refine AW_region (id := 0) Γe19_ok [] (by kernel_rfl) ?_; simp  [-List.getD_eq_getElem?_getD, -List.drop_one, ↓splitB_true, ↓splitB_false, go_sem]; try (refine AW_data hK 3 ?_; simp [go_sem])
    | refine AW_region (id := 1) Γe19_ok [] (by kernel_rfl) ?_; simp  [-List.getD_eq_getElem?_getD, -List.drop_one, ↓splitB_true, ↓splitB_false, go_sem]
    | refine AW_region (id := 2) Γe19_ok [] (by kernel_rfl) ?_; simp  [-List.getD_eq_getElem?_getD, -List.drop_one, ↓splitB_true, ↓splitB_false, go_sem]
    | refine AW_region_draw (id := 4) Γe19_ok mixed [] [] (by kernel_rfl) (by kernel_rfl) (by simp [-List.getD_eq_getElem?_getD, -List.drop_one, ↓splitB_true, ↓splitB_false, go_sem, c9, ne_nil c9, Nat.sub_pos_of_lt c9]) ?_; simp  [-List.getD_eq_getElem?_getD, -List.drop_one, ↓splitB_true, ↓splitB_false, go_sem, c9, ne_nil c9, Nat.sub_pos_of_lt c9]
    | refine AW_region (id := 5) Γe19_ok [] (by kernel_rfl) ?_; simp  [-List.getD_eq_getElem?_getD, -List.drop_one, ↓splitB_true, ↓splitB_false, go_sem]
    | refine AW_region (id := 3) Γe19_ok [] (by kernel_rfl) ?_; simp  [-List.getD_eq_getElem?_getD, -List.drop_one, ↓splitB_true, ↓splitB_false, go_sem, wrapS (k := k) (by omega)]
    | refine AW_region (id := 6) Γe19_ok [] (by kernel_rfl) ?_; simp  [-List.getD_eq_getElem?_getD, -List.drop_one, ↓splitB_true, ↓splitB_false, go_sem]
    | refine AW_condA (c := .tmp 9) ?_; simp [-List.getD_eq_getElem?_getD, -List.drop_one, ↓splitB_true, ↓splitB_false, go_sem]; try first | (refine ⟨?_, ?_⟩ <;> change AW _ _ _ _ _ _) | (refine ⟨fun c9 => ?_, fun c9 => ?_⟩ <;> (try simp [B_iff, B_not] at c9))
    | refine AW_condA (c := .tmp 17) ?_; simp [-List.getD_eq_getElem?_getD, -List.drop_one, ↓splitB_true, ↓splitB_false, go_sem]; try first | (refine ⟨?_, ?_⟩ <;> change AW _ _ _ _ _ _) | (refine ⟨fun c17 => ?_, fun c17 => ?_⟩ <;> (try simp [B_iff, B_not] at c17))
    | (refine AW_block (id := 0) (AW_loop (ι := Nat) (fun k : Nat => ⟨(upd (upd (upd (fun _ => .any) 0 (li cP xs)) 3 (.pd [li cI lo, li cI va])) 5 (.int .i64 k)), fun _ => none⟩) (fun k => k ≤ xs.length ∧ NoneTill (fun i => decide (nth xs i = ((lo, va) : Ints2))) k) (fun k => xs.length - k) (0) ?_ ?_ ?_); exact ⟨Nat.zero_le _, .zero _⟩; ((repeat' (first | exact sub_noneH (by assumption) | exact sub_none | refine sub_upd ?_ ?_ | refine sub_noneE ?_)) <;> simp [-List.getD_eq_getElem?_getD, -List.drop_one, ↓splitB_true, ↓splitB_false, go_sem]); rintro k ⟨hk, ht⟩)
    | (refine ⟨k + 1, ⟨by omega, ht.succ (by simp only [decide_eq_false_iff_not]; intro e; rw [e] at c17; simp at c17)⟩, by first | omega | (simp; done) | (simp; omega), ?_⟩; ((repeat' (first | exact sub_noneH (by assumption) | exact sub_none | refine sub_upd ?_ ?_ | refine sub_noneE ?_)) <;> simp [-List.getD_eq_getElem?_getD, -List.drop_one, ↓splitB_true, ↓splitB_false, go_sem]))
    | (refine AW_block ?_)
    | (refine AW_exit ?_; simp [-List.getD_eq_getElem?_getD, -List.drop_one, ↓splitB_true, ↓splitB_false, go_sem])
    | (refine AW_skip ?_; simp [-List.getD_eq_getElem?_getD, -List.drop_one, ↓splitB_true, ↓splitB_false, go_sem])
    | (refine AW_ret ?_; simp [-List.getD_eq_getElem?_getD, -List.drop_one, ↓splitB_true, ↓splitB_false, go_sem, Try.results150])
    | (intro hx; change AW _ _ _ _ _ _)
    | (refine ⟨?_, ?_⟩ <;> change AW _ _ _ _ _ _)
    | (intro hx; refine ⟨fun hs => ?_, fun hs => ?_⟩)
    | (refine ⟨fun hs => ?_, fun hs => ?_⟩)
    | (refine ⟨?_, fun hs => ?_⟩; change AW _ _ _ _ _ _)
    | (refine ⟨fun hs => ?_, ?_⟩; rotate_left; change AW _ _ _ _ _ _; rotate_left)))
  all_goals (first
    | (rw [findI_at (p := fun z => decide (z = ((lo, va) : Ints2))) ht c9 (by simp only [decide_eq_true_eq]; exact Prod.ext (by simp_all) (by simp_all))])
    | (rw [findI_none (p := fun z => decide (z = ((lo, va) : Ints2))) ht (by omega)])
    | skip)
noncomputable def l4Find_pureC : Con := .pure fun
  | [.list n_xs c_xs, .st [.list n_lo c_lo, .list n_va c_va]] => ((Is cP n_xs c_xs) ∧ (Is cI n_lo c_lo) ∧ (Is cI n_va c_va), .int .i64 (findI (fun z => decide (z = (((de cI c_lo), (de cI c_va)) : Ints2))) (de cP c_xs)))
  | _ => (False, .any)
attribute [go_sem] l4Find_pureC
theorem l4Find_pureC_ok : ConOk Try.prog 150 l4Find_pureC := by
  refine ⟨callable Try.func150 (by decide) rfl, fun args h => ?_⟩
  revert h
  dsimp only
  split
  · intro h
    obtain ⟨⟨xs, rfl, rfl⟩, ⟨lo, rfl, rfl⟩, ⟨va, rfl, rfl⟩⟩ := h
    try simp only [de_cat] at *
    exact ⟨l4Find_pure xs lo va, by simp [go_sem]⟩
  · intro h
    exact h.elim
noncomputable def Γe20 : FuncId → Con := ext Γe19 150 l4Find_pureC
attribute [go_sem] Γe20
theorem Γe20_ok : ∀ g, ConOk Try.prog g (Γe20 g) := ext_ok Γe19_ok l4Find_pureC_ok
end Go.Proofs.Ytljncoikoffijaa.Vm

