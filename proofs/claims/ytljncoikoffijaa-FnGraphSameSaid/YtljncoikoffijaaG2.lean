/-
  Marks of traces; boxes of two slices get names. No conditions.
-/
import Derived.Test.YtljncoikoffijaaG1
namespace Go.Proofs.Ytljncoikoffijaa.Vm
open Go
set_option linter.unusedVariables false
set_option linter.unusedSimpArgs false
set_option maxRecDepth 200000

section
variable {P : Program} {B : Base} {n : Nat} {c : Code} {Q : Exit → St → Prop} {S : St}
theorem AW_rebox (t : Nat) {ds es : List D} (hT : S.T t = .box ds) (he : ∀ (μ : Nat → Nat) (I : Nat → Prop) (w : World) (vs : List Value) (f : List Nat), RepL μ I w ds vs f → RepL μ I w es vs f) (hb : ∀ N, bndL N ds → bndL N es)
    (h : AW P B n c Q ⟨upd S.T t (.box es), S.H⟩) : AW P B n c Q S := fun a w μ fp N hR => by
  obtain ⟨fp1, h1⟩ := hR.grab t
  rw [hT, List.nil_append, List.nil_append] at h1
  have h2 : R B n ⟨grab S.T t, S.H⟩ [.box es] [a.tmps.getD t undef] a w μ fp1 N := by
    have hb1 := h1.bg
    simp only [RepL, Rep] at hb1 ⊢
    obtain ⟨v, vs', f1, f2, e1, e2, ⟨b, cells, f, q1, q2, q3, q4⟩, e3⟩ := hb1
    refine h1.rebag' ?_ (by have := h1.bB; simp only [bndL, bnd] at this ⊢; exact ⟨hb N this.1, trivial⟩)
    simp only [RepL, Rep]
    exact ⟨v, vs', f1, f2, e1, e2, ⟨b, cells, f, q1, q2, he _ _ _ _ _ q3, q4⟩, e3⟩
  obtain ⟨fp3, h3⟩ := h2.putback
  have e : upd (grab S.T t) t (.box es) = upd S.T t (.box es) := by
    funext y
    by_cases ey : y = t
    · subst ey; rw [upd_eq, upd_eq]
    · rw [upd_ne ey, upd_ne ey]
      simp only [grab]
      split
      · rw [upd_ne ey]
      · rfl
  rw [e] at h3
  exact h a w μ fp3 N h3
theorem rep_nilfr {μ : Nat → Nat} {I : Nat → Prop} {w : World} {v : Value} {f : List Nat} (h : Rep μ I w .nil v f) : Rep μ I w (.fr 1 0 []) v f := by
  simp only [Rep] at h ⊢
  exact ⟨Nat.zero_le _, by simp, .inl ⟨trivial, h.1, h.2⟩⟩
theorem AW_boxNil0 (t : Nat) {d : D} (hT : S.T t = .box [.nil, d]) (h : AW P B n c Q ⟨upd S.T t (.box [.fr 1 0 [], d]), S.H⟩) : AW P B n c Q S :=
  AW_rebox t hT (fun μ I w vs f hr => by
    simp only [RepL] at hr ⊢
    obtain ⟨v, vs', f1, f2, e1, e2, r1, r2⟩ := hr
    exact ⟨v, vs', f1, f2, e1, e2, rep_nilfr r1, r2⟩) (fun N hb => by simp only [bndL, bnd] at hb ⊢; exact ⟨trivial, hb.2⟩) h
theorem AW_boxNil1 (t : Nat) {d : D} (hT : S.T t = .box [d, .nil]) (h : AW P B n c Q ⟨upd S.T t (.box [d, .fr 1 0 []]), S.H⟩) : AW P B n c Q S :=
  AW_rebox t hT (fun μ I w vs f hr => by
    simp only [RepL] at hr ⊢
    obtain ⟨v, vs', f1, f2, e1, e2, r1, v2, vs2, g1, g2, e3, e4, r2, r3⟩ := hr
    exact ⟨v, vs', f1, f2, e1, e2, r1, v2, vs2, g1, g2, e3, e4, rep_nilfr r2, r3⟩) (fun N hb => by simp only [bndL, bnd] at hb ⊢; exact ⟨hb.1, trivial, trivial⟩) h
/-- A box of two slices of its own: three names, and the rooms' sizes. -/
theorem AW_box2z (t : Nat) {z1 z2 m1 m2 : Nat} {c1 c2 : List D} (hT : S.T t = .box [.fr z1 m1 c1, .fr z2 m2 c2])
    (h : ∀ p x y k1 k2 cp1 cp2, S.H p = none → S.H x = none → S.H y = none → ¬ p = x → ¬ p = y → ¬ x = y → m1 ≤ cp1 → cp1 * z1 ≤ m1 * z1 + k1 → m2 ≤ cp2 → cp2 * z2 ≤ m2 * z2 + k2 →
      AW P B n c Q ⟨upd S.T t (.ptr p 0), upd (upd (upd S.H p (some [.sl x z1 0 m1 cp1, .sl y z2 0 m2 cp2])) x (some (c1 ++ List.replicate k1 .any))) y (some (c2 ++ List.replicate k2 .any))⟩) : AW P B n c Q S := by
  refine AW_matBox t hT fun p hp => ?_
  refine AW_matCell p 0 (all := [.fr z1 m1 c1, .fr z2 m2 c2]) (upd_eq ..) rfl fun x cp1 k1 hx hc1 hd1 => ?_
  have hxp : ¬ p = x := by
    intro e; subst e; dsimp only at hx; rw [upd_eq] at hx; cases hx
  refine AW_matCell p 1 (all := [.sl x z1 0 m1 cp1, .fr z2 m2 c2]) ?_ rfl fun y cp2 k2 hy hc2 hd2 => ?_
  · dsimp only; rw [upd_ne hxp, upd_eq]; rfl
  · have hyx : ¬ x = y := by
      intro e; subst e; dsimp only at hy; rw [upd_eq] at hy; cases hy
    have hyp : ¬ p = y := by
      intro e; subst e; dsimp only at hy; rw [upd_ne hxp, upd_eq] at hy; cases hy
    have hx0 : S.H x = none := by dsimp only at hx; rw [upd_ne (fun e => hxp e.symm)] at hx; exact hx
    have hy0 : S.H y = none := by dsimp only at hy; rw [upd_ne (fun e => hyx e.symm), upd_ne (fun e => hyp e.symm), upd_ne (fun e => hyp e.symm)] at hy; exact hy
    have := h p x y k1 k2 cp1 cp2 hp hx0 hy0 hxp hyp hyx hc1 hd1 hc2 hd2
    have e : upd (upd (upd (upd (upd S.H p (some [.fr z1 m1 c1, .fr z2 m2 c2])) p (some ([D.fr z1 m1 c1, .fr z2 m2 c2].set 0 (.sl x z1 0 m1 cp1)))) x (some (c1 ++ List.replicate k1 .any))) p (some ([D.sl x z1 0 m1 cp1, .fr z2 m2 c2].set 1 (.sl y z2 0 m2 cp2)))) y (some (c2 ++ List.replicate k2 .any))
        = upd (upd (upd S.H p (some [.sl x z1 0 m1 cp1, .sl y z2 0 m2 cp2])) x (some (c1 ++ List.replicate k1 .any))) y (some (c2 ++ List.replicate k2 .any)) := by
      funext z
      by_cases e1 : z = y
      · subst e1; rw [upd_eq, upd_eq]
      · by_cases e2 : z = p
        · subst e2; rw [upd_ne e1, upd_eq, upd_ne e1, upd_ne hxp, upd_eq]; rfl
        · by_cases e3 : z = x
          · subst e3; rw [upd_ne e1, upd_ne e2, upd_eq, upd_ne e1, upd_eq]
          · rw [upd_ne e1, upd_ne e2, upd_ne e3, upd_ne e2, upd_ne e2, upd_ne e1, upd_ne e3, upd_ne e2]
    dsimp only at this ⊢
    rw [e]
    exact this
end

set_option maxHeartbeats 1000000 in
theorem markL_spec (a b : List Int) (k : Int) (b1 b2 c1 c2 : Nat) (j1 j2 : List D) (H : Hp) (h1 : H b1 = some (cat cI a ++ j1)) (h2 : H b2 = some (cat cI b ++ j2)) (hne : ¬ b1 = b2) (h0 : 0 ≤ k) (hk : k + a.length + b.length ≤ 1099511627776) :
    Spec Try.prog 54 [.st [.sl b1 1 0 a.length c1, .sl b2 1 0 b.length c2], .int .i64 k] H (.int .i64 (k + a.length + b.length)) (upd (upd H b1 (some (cat cI (marks k a.length) ++ j1))) b2 (some (cat cI (marks (k + a.length) b.length) ++ j2))) := by
  refine Spec.of_walk Try.func54 rfl (by simp [Try.f54]) fun B => ?_
  (repeat' (first
    | refine AW_seq ?_
    | refine AW_region (id := 0) Γg8_ok [] (by kernel_rfl) ?_; simp  [-List.getD_eq_getElem?_getD, -List.drop_one, ↓splitB_true, ↓splitB_false, go_sem]; try (refine AW_matBox 2 rfl fun b0 hb0 => ?_; have n1 : ¬ b1 = b0 := (by rintro rfl; dsimp only at hb0; rw [h1] at hb0; cases hb0); have n2 : ¬ b2 = b0 := (by rintro rfl; dsimp only at hb0; rw [h2] at hb0; cases hb0))
    | refine AW_region (id := 1) Γg8_ok [] (by kernel_rfl) ?_; simp  [-List.getD_eq_getElem?_getD, -List.drop_one, ↓splitB_true, ↓splitB_false, go_sem, n1, h1, h0, (show k + a.length ≤ 1099511627776 by omega)]
    | refine AW_region (id := 2) Γg8_ok [] (by kernel_rfl) ?_; simp  [-List.getD_eq_getElem?_getD, -List.drop_one, ↓splitB_true, ↓splitB_false, go_sem, n1, n2, Ne.symm n1, Ne.symm n2, hne, Ne.symm hne, h2, (show 0 ≤ k + (a.length : Int) by omega), hk]
    | refine AW_region (id := 3) Γg8_ok [] (by kernel_rfl) ?_; simp  [-List.getD_eq_getElem?_getD, -List.drop_one, ↓splitB_true, ↓splitB_false, go_sem]
    | (refine AW_block ?_)
    | (refine AW_exit ?_; simp [-List.getD_eq_getElem?_getD, -List.drop_one, ↓splitB_true, ↓splitB_false, go_sem])
    | (refine AW_skip ?_; simp [-List.getD_eq_getElem?_getD, -List.drop_one, ↓splitB_true, ↓splitB_false, go_sem])
    | (refine AW_ret ?_; simp [-List.getD_eq_getElem?_getD, -List.drop_one, ↓splitB_true, ↓splitB_false, go_sem, Try.results54])
    | (intro hx; change AW _ _ _ _ _ _)
    | (refine ⟨?_, ?_⟩ <;> change AW _ _ _ _ _ _)
    | (intro hx; refine ⟨fun hs => ?_, fun hs => ?_⟩)
    | (refine ⟨fun hs => ?_, fun hs => ?_⟩)
    | (refine ⟨?_, fun hs => ?_⟩; change AW _ _ _ _ _ _)
    | (refine ⟨fun hs => ?_, ?_⟩; rotate_left; change AW _ _ _ _ _ _; rotate_left)))
  all_goals (first
    | (intro b' cs' h; dsimp only at hb0; by_cases e2 : b' = b2 <;> by_cases e1 : b' = b1 <;> by_cases e0 : b' = b0 <;> simp_all)
    | skip)
noncomputable def markLC : Con := .gen fun args H => match args with
  | [.st [.sl b1 1 0 n _, .sl b2 1 0 m _], .int .i64 k] => match H b1, H b2 with
    | some a1, some a2 => (¬ b1 = b2 ∧ n ≤ a1.length ∧ m ≤ a2.length ∧ Is cI n (a1.take n) ∧ Is cI m (a2.take m) ∧ 0 ≤ k ∧ k + n + m ≤ 1099511627776, .int .i64 (k + n + m), upd (upd H b1 (some (cat cI (marks k n) ++ a1.drop n))) b2 (some (cat cI (marks (k + n) m) ++ a2.drop m)))
    | _, _ => (False, .any, H)
  | _ => (False, .any, H)
attribute [go_sem] markLC
theorem markLC_ok : ConOk Try.prog 54 markLC := by
  refine ⟨callable Try.func54 (by decide) rfl, fun args H h => ?_⟩
  revert h
  dsimp only
  split
  · rename_i b1 n c1 b2 m c2 k
    split
    · rename_i a1 a2 hH1 hH2
      rintro ⟨g0, g1, g2, ⟨xs, hn, he⟩, ⟨ys, hm, hf⟩, g5, g6⟩
      subst hn hm
      have e1 : a1 = cat cI xs ++ a1.drop xs.length := by rw [← he, List.take_append_drop]
      have e2 : a2 = cat cI ys ++ a2.drop ys.length := by rw [← hf, List.take_append_drop]
      rw [e1] at hH1
      rw [e2] at hH2
      exact markL_spec xs ys k b1 b2 c1 c2 _ _ H hH1 hH2 g0 g5 g6
    · intro h; exact h.elim
  · intro h
    exact h.elim
noncomputable def Γg9 : FuncId → Con := ext Γg8 54 markLC
attribute [go_sem] Γg9
theorem Γg9_ok : ∀ g, ConOk Try.prog g (Γg9 g) := ext_ok Γg8_ok markLC_ok

/-- What a look for marks in a trace tells. -/
def heldL (k : Int) (a b : List Int) : Int := if heldI k a < 0 then -1 else if heldI (heldI k a) b < 0 then -1 else heldI (heldI k a) b
@[go_sem] theorem heldL_marks (k : Int) (n m : Nat) (h : 0 ≤ k) : heldL k (marks k n) (marks (k + n) m) = k + n + m := by
  rw [heldL, heldI_marks, if_neg (by omega), heldI_marks, if_neg (by omega)]
@[go_sem] theorem heldL_nn (k : Int) (h : 0 ≤ k) : heldL k [] [] = k := by rw [heldL, heldI_nil, if_neg (by omega), heldI_nil, if_neg (by omega)]
@[go_sem] theorem heldL_nm (k : Int) (m : Nat) (h : 0 ≤ k) : heldL k [] (marks k m) = k + m := by rw [heldL, heldI_nil, if_neg (by omega), heldI_marks, if_neg (by omega)]
theorem heldI_le (k : Int) (xs : List Int) (h : 0 ≤ k) : heldI k xs ≤ k + xs.length := by unfold heldI; split <;> omega
theorem heldL_pure (a : List Int) (b : List Int) (k : Int) (h0 : 0 ≤ k) (h1 : k + a.length + b.length ≤ 1099511627776) : Pure Try.prog 55 [.st [li cI a, li cI b], .int .i64 k] (.int .i64 (heldL k a b)) := by
  refine Pure.of_walk Try.func55 rfl (by simp [Try.f55]) (by simp [-List.drop_one, go_sem]) fun B hK => ?_
  (repeat' (first
    | refine AW_seq ?_
    | refine AW_region (id := 0) Γg9_ok [] (by kernel_rfl) ?_; simp  [-List.getD_eq_getElem?_getD, -List.drop_one, ↓splitB_true, ↓splitB_false, go_sem]; try (refine AW_data hK 2 ?_; simp [go_sem])
    | refine AW_region (id := 1) Γg9_ok [] (by kernel_rfl) ?_; simp  [-List.getD_eq_getElem?_getD, -List.drop_one, ↓splitB_true, ↓splitB_false, go_sem, h0, (show k + a.length ≤ 1099511627776 by omega)]
    | refine AW_region (id := 2) Γg9_ok [] (by kernel_rfl) ?_; simp  [-List.getD_eq_getElem?_getD, -List.drop_one, ↓splitB_true, ↓splitB_false, go_sem]
    | refine AW_region (id := 3) Γg9_ok [] (by kernel_rfl) ?_; simp  [-List.getD_eq_getElem?_getD, -List.drop_one, ↓splitB_true, ↓splitB_false, go_sem]
    | (have q := heldI_le k a h0); refine AW_region (id := 4) Γg9_ok [] (by kernel_rfl) ?_; simp  [-List.getD_eq_getElem?_getD, -List.drop_one, ↓splitB_true, ↓splitB_false, go_sem, c10, (show heldI k a + b.length ≤ 1099511627776 by omega)]
    | refine AW_region (id := 5) Γg9_ok [] (by kernel_rfl) ?_; simp  [-List.getD_eq_getElem?_getD, -List.drop_one, ↓splitB_true, ↓splitB_false, go_sem]
    | refine AW_region (id := 6) Γg9_ok [] (by kernel_rfl) ?_; simp  [-List.getD_eq_getElem?_getD, -List.drop_one, ↓splitB_true, ↓splitB_false, go_sem]
    | refine AW_region (id := 7) Γg9_ok [] (by kernel_rfl) ?_; simp  [-List.getD_eq_getElem?_getD, -List.drop_one, ↓splitB_true, ↓splitB_false, go_sem]
    | refine AW_condA (c := .tmp 10) ?_; simp [-List.getD_eq_getElem?_getD, -List.drop_one, ↓splitB_true, ↓splitB_false, go_sem]; try first | (refine ⟨?_, ?_⟩ <;> change AW _ _ _ _ _ _) | (refine ⟨fun c10 => ?_, fun c10 => ?_⟩ <;> (try simp [B_iff, B_not] at c10))
    | refine AW_condA (c := .tmp 16) ?_; simp [-List.getD_eq_getElem?_getD, -List.drop_one, ↓splitB_true, ↓splitB_false, go_sem]; try first | (refine ⟨?_, ?_⟩ <;> change AW _ _ _ _ _ _) | (refine ⟨fun c16 => ?_, fun c16 => ?_⟩ <;> (try simp [B_iff, B_not] at c16))
    | (refine AW_block ?_)
    | (refine AW_exit ?_; simp [-List.getD_eq_getElem?_getD, -List.drop_one, ↓splitB_true, ↓splitB_false, go_sem])
    | (refine AW_skip ?_; simp [-List.getD_eq_getElem?_getD, -List.drop_one, ↓splitB_true, ↓splitB_false, go_sem])
    | (refine AW_ret ?_; simp [-List.getD_eq_getElem?_getD, -List.drop_one, ↓splitB_true, ↓splitB_false, go_sem, Try.results55])
    | (intro hx; change AW _ _ _ _ _ _)
    | (refine ⟨?_, ?_⟩ <;> change AW _ _ _ _ _ _)
    | (intro hx; refine ⟨fun hs => ?_, fun hs => ?_⟩)
    | (refine ⟨fun hs => ?_, fun hs => ?_⟩)
    | (refine ⟨?_, fun hs => ?_⟩; change AW _ _ _ _ _ _)
    | (refine ⟨fun hs => ?_, ?_⟩; rotate_left; change AW _ _ _ _ _ _; rotate_left)))
  all_goals (first
    | (rw [heldL, if_pos c10])
    | (rw [heldL, if_neg (by omega), if_pos (by assumption)])
    | (rw [heldL, if_neg (by omega), if_neg (by omega)])
    | skip)
noncomputable def heldL_pureC : Con := .pure fun
  | [.st [.list n_a c_a, .list n_b c_b], .int .i64 k] => ((Is cI n_a c_a) ∧ (Is cI n_b c_b) ∧ (0 ≤ k) ∧ (k + (de cI c_a).length + (de cI c_b).length ≤ 1099511627776), .int .i64 (heldL k (de cI c_a) (de cI c_b)))
  | _ => (False, .any)
attribute [go_sem] heldL_pureC
theorem heldL_pureC_ok : ConOk Try.prog 55 heldL_pureC := by
  refine ⟨callable Try.func55 (by decide) rfl, fun args h => ?_⟩
  revert h
  dsimp only
  split
  · intro h
    obtain ⟨⟨a, rfl, rfl⟩, ⟨b, rfl, rfl⟩, h0, h1⟩ := h
    try simp only [de_cat] at *
    exact ⟨heldL_pure a b _ h0 h1, by simp [go_sem]⟩
  · intro h
    exact h.elim
noncomputable def Γg10 : FuncId → Con := ext Γg9 55 heldL_pureC
attribute [go_sem] Γg10
theorem Γg10_ok : ∀ g, ConOk Try.prog g (Γg10 g) := ext_ok Γg9_ok heldL_pureC_ok
theorem fresh3 {f : Hp} {a b c z : Nat} {u v w : List D} (h : upd (upd (upd f a (some u)) b (some v)) c (some w) z = none) : ¬ z = c ∧ ¬ z = b ∧ ¬ z = a := by
  by_cases h1 : z = c
  · subst h1; rw [upd_eq] at h; cases h
  · rw [upd_ne h1] at h
    by_cases h2 : z = b
    · subst h2; rw [upd_eq] at h; cases h
    · rw [upd_ne h2] at h
      by_cases h3 : z = a
      · subst h3; rw [upd_eq] at h; cases h
      · exact ⟨h1, h2, h3⟩
@[go_sem] theorem cat_take_app1c {α : Type} {f : α → List D} [Wide f 1] (xs : List α) (ys : List D) {n : Nat} (h : n = xs.length) : (cat f xs ++ ys).take n = cat f xs := by subst h; exact cat_take_app1 xs ys
@[go_sem] theorem cat_drop_app1c {α : Type} {f : α → List D} [Wide f 1] (xs : List α) (ys : List D) {n : Nat} (h : n = xs.length) : (cat f xs ++ ys).drop n = ys := by subst h; exact cat_drop_app1 xs ys
attribute [go_sem] marks_len
end Go.Proofs.Ytljncoikoffijaa.Vm

