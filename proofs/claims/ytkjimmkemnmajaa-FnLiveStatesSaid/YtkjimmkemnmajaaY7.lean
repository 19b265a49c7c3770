/-
  Draws: formulas. No conditions.
-/
import Derived.Test.YtkjimmkemnmajaaY6
namespace Go.Proofs.Ytkjimmkemnmajaa.Vm
open Go
set_option linter.unusedVariables false
set_option linter.unusedSimpArgs false
set_option maxRecDepth 200000

set_option maxHeartbeats 4000000 in

noncomputable def l5Random_enc : Tree → D := sX
attribute [go_sem] l5Random_enc
theorem l5Random_flat (x : Tree) : dat (l5Random_enc x) = l5Random_enc x := by simp [go_sem]
def l5Random_good (d : Int) : Tree → Prop := fun _ => True
def l5Random_gd (d : Int) (x : (Tree) × D) : Prop := l5Random_good d x.1 ∧ dat x.2 = l5Random_enc x.1
noncomputable def l5Random_selD (d : Int) (p : Int) (c : Any) : ((Tree) × D) × Int := dsel (l5Random_gd d) ((.mk 1 0 [] : Tree), l5Random_enc (.mk 1 0 [])) (kR d.toNat) p c
noncomputable def l5Random_sel (d : Int) (p : Int) (c : Any) : (Tree) × Int := ((l5Random_selD d p c).1.1, (l5Random_selD d p c).2)
theorem l5Random_okD (d : Int) (hd : d ≤ 4) (p : Int) (c : Any) : (l5Random_good d (l5Random_sel d p c).1 ∧ p ≤ (l5Random_sel d p c).2 ∧ (l5Random_sel d p c).2 ≤ p + (kR d.toNat)) ∧ dat (l5Random_selD d p c).1.2 = l5Random_enc (l5Random_sel d p c).1 := by
  have hx : l5Random_good d (.mk 1 0 []) := trivial
  have h := dsel_ok (good := l5Random_gd d) (x0 := ((.mk 1 0 [] : Tree), l5Random_enc (.mk 1 0 []))) ⟨hx, l5Random_flat _⟩ (K := (kR d.toNat)) (kR_nn _) (p := p) c
  exact ⟨⟨h.1.1, h.2.1, h.2.2⟩, h.1.2⟩
theorem l5Random_ok (d : Int) (hd : d ≤ 4) (p : Int) (c : Any) : l5Random_good d (l5Random_sel d p c).1 ∧ p ≤ (l5Random_sel d p c).2 ∧ (l5Random_sel d p c).2 ≤ p + (kR d.toNat) := (l5Random_okD d hd p c).1
theorem l5Random_ret (d : Int) (ys : List UInt8) (p : Int) (b : Nat) {e_ : Exit} {S_ : St} (x : Tree) (p' : Int) (he_ : e_ = .ret ∨ e_ = .normal)
    (h1 : (zaak Try.prog S_ Try.f220.results.toList).1 ∧ dat (resD (zaak Try.prog S_ Try.f220.results.toList).2.1) = l5Random_enc x ∧ (zaak Try.prog S_ Try.f220.results.toList).2.2.H b = some [li cY ys, .int .i64 p']) (hg : l5Random_good d x) (h2 : p ≤ p' ∧ p' ≤ p + (kR d.toNat)) :
    retR Try.prog Try.f220 (fun c => ((l5Random_selD d p c).1.2, one b [li cY ys, .int .i64 (l5Random_selD d p c).2])) e_ S_ :=
  ret_draw (good := l5Random_gd d) (enc := fun x : (Tree) × D => x.2) (cells := fun q => [li cY ys, .int .i64 q]) (x, resD (zaak Try.prog S_ Try.f220.results.toList).2.1) p' he_ ⟨h1.1, rfl, h1.2.2⟩ ⟨hg, h1.2.1⟩ h2
noncomputable def l5RandomCn (n_ : Nat) : Con := .rel fun args H => match args with
  | [.ptr b 0, .int .i64 d] => match H b with
    | some [.list m cs, .int .i64 p] => ((Is cY m cs) ∧ (m ≤ 2000) ∧ (0 ≤ p) ∧ (p + (kR d.toNat) ≤ 1000000) ∧ (d ≤ 4) ∧ (d.toNat < n_), fun c => (l5Random_enc (l5Random_sel d p c).1, upd H b (some [.list m cs, .int .i64 (l5Random_sel d p c).2])))
    | _ => (False, fun _ => (.any, H))
  | _ => (False, fun _ => (.any, H))
attribute [go_sem] l5RandomCn
theorem l5RandomCn_ok {n_ : Nat} (ih : ∀ (ys : List UInt8) (p : Int) (b : Nat) (d : Int) (hl : ys.length ≤ 2000) (h0_ : 0 ≤ p) (hp_ : p + (kR d.toNat) ≤ 1000000) (hd : d ≤ 4) (hm_ : d.toNat < n_), SpecR Try.prog 220 [.ptr b 0, .int .i64 d] (one b [li cY ys, .int .i64 p]) (fun c => ((l5Random_selD d p c).1.2, one b [li cY ys, .int .i64 (l5Random_selD d p c).2]))) : ConOk Try.prog 220 (l5RandomCn n_) := by
  refine ⟨zaal Try.func220 (by decide) rfl, fun args H h => ?_⟩
  revert h
  dsimp only
  split
  · split
    · rename_i hH
      intro h
      obtain ⟨⟨ys, rfl, rfl⟩, hl, h0_, hp_, hd, hm_⟩ := h
      try simp only [de_cat] at *
      exact SpecR.enc ((ih ys _ _ _ hl h0_ hp_ hd hm_).frame hH).shut fun c => Prod.ext (l5Random_okD _ hd _ _).2.symm rfl
    · intro h; exact h.elim
  · intro h
    exact h.elim
theorem l5Random_rec : ∀ (n_ : Nat), ∀ (ys : List UInt8) (p : Int) (b : Nat) (d : Int) (hl : ys.length ≤ 2000) (h0_ : 0 ≤ p) (hp_ : p + (kR d.toNat) ≤ 1000000) (hd : d ≤ 4) (hm_ : d.toNat < n_), SpecR Try.prog 220 [.ptr b 0, .int .i64 d] (one b [li cY ys, .int .i64 p]) (fun c => ((l5Random_selD d p c).1.2, one b [li cY ys, .int .i64 (l5Random_selD d p c).2])) := by
  intro n_
  induction n_ with
  | zero => intros; omega
  | succ n_ ih =>
  intro ys p b d hl h0_ hp_ hd hm_
  have Γr_ok := ext_ok Γy24_ok (l5RandomCn_ok ih)
  refine SpecR.of_walk Try.func220 rfl (by simp [Try.f220]) fun B => ?_
  have hk3 := kR_ge d.toNat; by_cases hd2 : d < 2
  all_goals (repeat' (first
    | refine AW_seq ?_
    | refine zaac (id := 0) Γr_ok [] (by kernel_rfl) ?_; simp  [-List.getD_eq_getElem?_getD, -List.drop_one, ↓zaab, ↓zaaa, go_sem]
    | refine zaac (id := 1) Γr_ok [9] (by kernel_rfl) ?_; simp  [-List.getD_eq_getElem?_getD, -List.drop_one, ↓zaab, ↓zaaa, go_sem, hd2, hl, (show 0 ≤ p by omega), (show p ≤ 1000000 by omega), (show 0 ≤ p + 1 by omega), (show p + 1 ≤ 1000000 by omega)]; try (refine ⟨fun s1a => ?_, fun s1a => ?_⟩ <;> (try simp [B_iff, B_not] at s1a) <;> try (refine ⟨fun s1b => ?_, fun s1b => ?_⟩ <;> (try simp [B_iff, B_not] at s1b)))
    | refine zaac (id := 2) Γr_ok [] (by kernel_rfl) ?_; simp  [-List.getD_eq_getElem?_getD, -List.drop_one, ↓zaab, ↓zaaa, go_sem, hl, (show 0 ≤ p by omega), (show p ≤ 1000000 by omega), (show 0 ≤ p + 1 by omega), (show p + 1 ≤ 1000000 by omega), (show 0 ≤ p + 1 + 1 by omega), (show p + 1 + 1 ≤ 1000000 by omega)]
    | refine zaac (id := 3) Γr_ok [] (by kernel_rfl) ?_; simp  [-List.getD_eq_getElem?_getD, -List.drop_one, ↓zaab, ↓zaaa, go_sem]; try (intro c3; generalize l5True_sel c3 = z3 at *)
    | refine zaac (id := 4) Γr_ok [] (by kernel_rfl) ?_; simp  [-List.getD_eq_getElem?_getD, -List.drop_one, ↓zaab, ↓zaaa, go_sem, hl, (show 0 ≤ p by omega), (show p ≤ 1000000 by omega), (show 0 ≤ p + 1 by omega), (show p + 1 ≤ 1000000 by omega), (show 0 ≤ p + 1 + 1 by omega), (show p + 1 + 1 ≤ 1000000 by omega), (show 0 ≤ p + 1 + 1 + 1 by omega), (show p + 1 + 1 + 1 ≤ 1000000 by omega)]
    | refine zaac (id := 5) Γr_ok [] (by kernel_rfl) ?_; simp  [-List.getD_eq_getElem?_getD, -List.drop_one, ↓zaab, ↓zaaa, go_sem, hl, (show 0 ≤ p by omega), (show p ≤ 1000000 by omega), (show 0 ≤ p + 1 by omega), (show p + 1 ≤ 1000000 by omega), (show 0 ≤ p + 1 + 1 by omega), (show p + 1 + 1 ≤ 1000000 by omega), (show 0 ≤ p + 1 + 1 + 1 by omega), (show p + 1 + 1 + 1 ≤ 1000000 by omega)]; try ((generalize numI ys (p + 1) [7, 9, 10, 3, 4, 5, 6, 8] = kk at *); (have hks := kR_step (d := d) (by omega)); (have hM := kR_ge (d - 1).toNat); (have hd1 : (d - 1).toNat = d.toNat - 1 := (by omega)); (rw [hd1] at hks hM); (refine AW_boxNil2 5 3 rfl ?_); (refine AW_matBox 5 rfl fun qb hqb => ?_); (have hbq : ¬ b = qb := (by rintro rfl; simp [go_sem] at hqb)); (clear hqb); (refine AW_gen (fun H1 => H1 b = some [.list ys.length (cat cY ys), .int .i64 (p + 1 + 1)] ∧ H1 qb = some [.int .i64 kk, .int .i64 0, .fr 3 0 []]) ⟨by simp [go_sem, hbq], by simp [go_sem, hbq]⟩ fun H1 ⟨w1, w2⟩ => ?_))
    | refine zaac (id := 6) Γr_ok [] (by kernel_rfl) ?_; simp  [-List.getD_eq_getElem?_getD, -List.drop_one, ↓zaab, ↓zaaa, go_sem, w2]; try (have hal := arF_le kk; generalize arF kk = aa at *)
    | refine zaac (id := 7) Γr_ok [] (by kernel_rfl) ?_; simp  [-List.getD_eq_getElem?_getD, -List.drop_one, ↓zaab, ↓zaaa, go_sem]
    | ((refine AW_matCell qb 2 (all := [.int .i64 kk, .int .i64 0, .fr 3 q.1.length (cat cX q.1)]) g6 rfl fun u cu ju hu hcu hdu => ?_); (have ub : ¬ u = b := (by intro e; rw [e] at hu; dsimp only at hu; rw [g5] at hu; cases hu)); (have uq : ¬ u = qb := (by intro e; rw [e] at hu; dsimp only at hu; rw [g6] at hu; cases hu)); (clear hu)); refine zaao (id := 9) Γr_ok mixed [(qb, [.int .i64 kk, .int .i64 0, .sl u 3 0 q.1.length cu])] [] [] (by kernel_rfl) (by kernel_rfl) (by simp [-List.getD_eq_getElem?_getD, -List.drop_one, ↓zaab, ↓zaaa, go_sem, g5, hl, wrap_in (x := d - 1) (by omega) (by omega), hbq, Ne.symm hbq, ub, uq, Ne.symm ub, Ne.symm uq, (show 0 ≤ q.2.2.1 by omega), (show d - 1 ≤ 4 by omega), (show d.toNat - 1 < n_ by omega), (show q.1.length ≤ 9223372036854775806 by omega), (show 2 * (q.1.length + 1) * 40 ≤ 281474976710656 by omega), (show q.2.2.1 + kR (d.toNat - 1) ≤ 1000000 by omega), hdu]) (by simp [-List.getD_eq_getElem?_getD, -List.drop_one, ↓zaab, ↓zaaa, go_sem, g5, hl, wrap_in (x := d - 1) (by omega) (by omega), hbq, Ne.symm hbq, ub, uq, Ne.symm ub, Ne.symm uq, (show 0 ≤ q.2.2.1 by omega), (show d - 1 ≤ 4 by omega), (show d.toNat - 1 < n_ by omega), (show q.1.length ≤ 9223372036854775806 by omega), (show 2 * (q.1.length + 1) * 40 ≤ 281474976710656 by omega), (show q.2.2.1 + kR (d.toNat - 1) ≤ 1000000 by omega), hdu]) ?_; simp  [-List.getD_eq_getElem?_getD, -List.drop_one, ↓zaab, ↓zaaa, go_sem, g5, hl, wrap_in (x := d - 1) (by omega) (by omega), hbq, Ne.symm hbq, ub, uq, Ne.symm ub, Ne.symm uq, (show 0 ≤ q.2.2.1 by omega), (show d - 1 ≤ 4 by omega), (show d.toNat - 1 < n_ by omega), (show q.1.length ≤ 9223372036854775806 by omega), (show 2 * (q.1.length + 1) * 40 ≤ 281474976710656 by omega), (show q.2.2.1 + kR (d.toNat - 1) ≤ 1000000 by omega), hdu]; try (intro c10; have z0 := l5Random_ok (d - 1) (by omega) q.2.2.1 c10; generalize l5Random_sel (d - 1) q.2.2.1 c10 = z at *; obtain ⟨-, z1, z2⟩ := z0; rw [hd1] at z2; obtain ⟨t, p2⟩ := z; dsimp only at z1 z2; refine AW_gen (fun H2 => H2 b = some [.list ys.length (cat cY ys), .int .i64 p2] ∧ H2 qb = some [.int .i64 kk, .int .i64 0, .fr 3 (q.1 ++ [t]).length (cat cX (q.1 ++ [t]))]) ⟨by simp [upd, hbq, Ne.symm hbq, ub, uq, Ne.symm ub, Ne.symm uq], by simp [upd, hbq, Ne.symm hbq, ub, uq, Ne.symm ub, Ne.symm uq, cat_append, cat_one, cX_eq, li]⟩ fun H2 ⟨y1, y2⟩ => ?_)
    | refine zaac (id := 8) Γr_ok [] (by kernel_rfl) ?_; simp  [-List.getD_eq_getElem?_getD, -List.drop_one, ↓zaab, ↓zaaa, go_sem, wrap_in (x := q.2.1 - 1) (by omega) (by omega)]
    | refine zaac (id := 10) Γr_ok [] (by kernel_rfl) ?_; simp  [-List.getD_eq_getElem?_getD, -List.drop_one, ↓zaab, ↓zaaa, go_sem, g6]
    | refine zaaf (c := .tmp 13) ?_; simp [-List.getD_eq_getElem?_getD, -List.drop_one, ↓zaab, ↓zaaa, go_sem]; try first | (refine ⟨?_, ?_⟩ <;> change AW _ _ _ _ _ _) | (refine ⟨fun c13 => ?_, fun c13 => ?_⟩ <;> (try simp [B_iff, B_not] at c13))
    | refine zaaf (c := .tmp 16) ?_; simp [-List.getD_eq_getElem?_getD, -List.drop_one, ↓zaab, ↓zaaa, go_sem]; try first | (refine ⟨?_, ?_⟩ <;> change AW _ _ _ _ _ _) | (refine ⟨fun c16 => ?_, fun c16 => ?_⟩ <;> (try simp [B_iff, B_not] at c16))
    | refine zaaf (c := .tmp 30) ?_; simp [-List.getD_eq_getElem?_getD, -List.drop_one, ↓zaab, ↓zaaa, go_sem]; try first | (refine ⟨?_, ?_⟩ <;> change AW _ _ _ _ _ _) | (refine ⟨fun c30 => ?_, fun c30 => ?_⟩ <;> (try simp [B_iff, B_not] at c30))
    | (refine zaag (id := 0) (AW_loop (ι := List Tree × Int × Int × Hp) (fun q : List Tree × Int × Int × Hp => ⟨(upd (upd (upd (upd (upd (fun _ => .any) 0 (.ptr b 0)) 1 (.int .i64 d)) 4 (.box [.int .i64 0, .int .i64 0, .nil])) 5 (.ptr qb 0)) 6 (.int .i64 q.2.1)), q.2.2.2⟩) (fun q => q.2.1 ≤ 2 ∧ (q.1.length : Int) + q.2.1 ≤ 2 ∧ p ≤ q.2.2.1 ∧ (q.2.1 ≤ 2 ∧ q.2.2.1 ≤ p + 3 ∨ q.2.1 ≤ 1 ∧ q.2.2.1 ≤ p + 3 + kR (d.toNat - 1) ∨ q.2.1 ≤ 0 ∧ q.2.2.1 ≤ p + 3 + 2 * kR (d.toNat - 1)) ∧ q.2.2.2 b = some [.list ys.length (cat cY ys), .int .i64 q.2.2.1] ∧ q.2.2.2 qb = some [.int .i64 kk, .int .i64 0, .fr 3 q.1.length (cat cX q.1)]) (fun q => q.2.1.toNat) (([], aa, p + 1 + 1, H1)) ?_ ?_ ?_); exact ⟨by dsimp only; omega, by simpa using hal, by dsimp only; omega, by dsimp only; omega, by dsimp only; exact w1, by dsimp only; exact w2⟩; ((repeat' (first | exact zaad (by assumption) | exact zaah | refine zaai ?_ ?_ | refine zaae ?_)) <;> simp [-List.getD_eq_getElem?_getD, -List.drop_one, ↓zaab, ↓zaaa, go_sem]); rintro q ⟨g1, g2, g3, g4, g5, g6⟩)
    | (refine ⟨(q.1 ++ [t], q.2.1 - 1, p2, H2), ⟨by dsimp only; omega, by simp; omega, by dsimp only; omega, by dsimp only; omega, y1, y2⟩, by first | omega | (simp; done) | (simp; omega), ?_⟩; ((repeat' (first | exact zaad (by assumption) | exact zaah | refine zaai ?_ ?_ | refine zaae ?_)) <;> simp [-List.getD_eq_getElem?_getD, -List.drop_one, ↓zaab, ↓zaaa, go_sem, ]))
    | (refine zaag ?_)
    | (refine zaap ?_; simp [-List.getD_eq_getElem?_getD, -List.drop_one, ↓zaab, ↓zaaa, go_sem])
    | (refine zaan ?_; simp [-List.getD_eq_getElem?_getD, -List.drop_one, ↓zaab, ↓zaaa, go_sem])
    | (refine AW_ret ?_; try simp [-List.getD_eq_getElem?_getD, -List.drop_one, ↓zaab, ↓zaaa, go_sem, Try.results220])
    | (intro hx; change AW _ _ _ _ _ _)
    | (intro hx; change retR _ _ _ _ _)
    | (refine ⟨?_, ?_⟩ <;> change AW _ _ _ _ _ _)
    | (intro hx; refine ⟨fun hs => ?_, fun hs => ?_⟩)
    | (refine ⟨fun hs => ?_, fun hs => ?_⟩)
    | (refine ⟨?_, fun hs => ?_⟩; change AW _ _ _ _ _ _)
    | (refine ⟨fun hs => ?_, ?_⟩; rotate_left; change AW _ _ _ _ _ _; rotate_left)
    | ((fail_if_success change retR _ _ _ _ _); (exfalso; omega))))
  all_goals (first
    | (refine l5Random_ret _ _ _ _ (z3) (p + 1) ?_ ?_ ?_ ?_; (first | exact Or.inl rfl | exact Or.inr rfl); (focus (simp [-List.getD_eq_getElem?_getD, -List.drop_one, ↓zaab, ↓zaaa, go_sem, Try.results220]; done)); (focus ((trivial); done)); (focus (refine ⟨?_, ?_⟩ <;> omega)))
    | (refine l5Random_ret _ _ _ _ (z3) (p + 1 + 1) ?_ ?_ ?_ ?_; (first | exact Or.inl rfl | exact Or.inr rfl); (focus (simp [-List.getD_eq_getElem?_getD, -List.drop_one, ↓zaab, ↓zaaa, go_sem, Try.results220]; done)); (focus ((trivial); done)); (focus (refine ⟨?_, ?_⟩ <;> omega)))
    | (refine l5Random_ret _ _ _ _ (.mk 2 (numI ys (p + 1) [0, 1, 0, 2]) []) (p + 1 + 1) ?_ ?_ ?_ ?_; (first | exact Or.inl rfl | exact Or.inr rfl); (focus (simp [-List.getD_eq_getElem?_getD, -List.drop_one, ↓zaab, ↓zaaa, go_sem, Try.results220]; done)); (focus ((trivial); done)); (focus (refine ⟨?_, ?_⟩ <;> omega)))
    | (refine l5Random_ret _ _ _ _ (.mk 2 (numI ys (p + 1 + 1) [0, 1, 0, 2]) []) (p + 1 + 1 + 1) ?_ ?_ ?_ ?_; (first | exact Or.inl rfl | exact Or.inr rfl); (focus (simp [-List.getD_eq_getElem?_getD, -List.drop_one, ↓zaab, ↓zaaa, go_sem, Try.results220]; done)); (focus ((trivial); done)); (focus (refine ⟨?_, ?_⟩ <;> omega)))
    | (refine l5Random_ret _ _ _ _ (.mk 2 (numI ys p [0, 1, 0, 2]) []) (p + 1) ?_ ?_ ?_ ?_; (first | exact Or.inl rfl | exact Or.inr rfl); (focus (simp [-List.getD_eq_getElem?_getD, -List.drop_one, ↓zaab, ↓zaaa, go_sem, Try.results220]; done)); (focus ((trivial); done)); (focus (refine ⟨?_, ?_⟩ <;> omega)))
    | (refine l5Random_ret _ _ _ _ (.mk kk 0 q.1) (q.2.2.1) ?_ ?_ ?_ ?_; (first | exact Or.inl rfl | exact Or.inr rfl); (focus (simp [-List.getD_eq_getElem?_getD, -List.drop_one, ↓zaab, ↓zaaa, go_sem, Try.results220, li, dat, datL_map, hbq, g5]; done)); (focus ((trivial); done)); (focus (refine ⟨?_, ?_⟩ <;> omega)))
    | skip)
theorem l5Random_spec (ys : List UInt8) (p : Int) (b : Nat) (d : Int) (hl : ys.length ≤ 2000) (h0_ : 0 ≤ p) (hp_ : p + (kR d.toNat) ≤ 1000000) (hd : d ≤ 4) : SpecR Try.prog 220 [.ptr b 0, .int .i64 d] (one b [li cY ys, .int .i64 p]) (fun c => ((l5Random_selD d p c).1.2, one b [li cY ys, .int .i64 (l5Random_selD d p c).2])) := l5Random_rec (d.toNat + 1) ys p b d hl h0_ hp_ hd (by omega)
noncomputable def l5RandomC : Con := .rel fun args H => match args with
  | [.ptr b 0, .int .i64 d] => match H b with
    | some [.list m cs, .int .i64 p] => ((Is cY m cs) ∧ (m ≤ 2000) ∧ (0 ≤ p) ∧ (p + (kR d.toNat) ≤ 1000000) ∧ (d ≤ 4), fun c => (l5Random_enc (l5Random_sel d p c).1, upd H b (some [.list m cs, .int .i64 (l5Random_sel d p c).2])))
    | _ => (False, fun _ => (.any, H))
  | _ => (False, fun _ => (.any, H))
attribute [go_sem] l5RandomC
theorem l5RandomC_ok : ConOk Try.prog 220 l5RandomC := by
  refine ⟨zaal Try.func220 (by decide) rfl, fun args H h => ?_⟩
  revert h
  dsimp only
  split
  · split
    · rename_i hH
      intro h
      obtain ⟨⟨ys, rfl, rfl⟩, hl, h0_, hp_, hd⟩ := h
      try simp only [de_cat] at *
      exact SpecR.enc ((l5Random_spec ys _ _ _ hl h0_ hp_ hd).frame hH).shut fun c => Prod.ext (l5Random_okD _ hd _ _).2.symm rfl
    · intro h; exact h.elim
  · intro h
    exact h.elim
noncomputable def Γy25 : FuncId → Con := ext Γy24 220 l5RandomC
attribute [go_sem] Γy25
theorem Γy25_ok : ∀ g, ConOk Try.prog g (Γy25 g) := ext_ok Γy24_ok l5RandomC_ok

theorem forOk_atom : ForOk (.mk 2 0 []) := by
  refine ⟨⟨by simp [Tree.ks, Tree.k, arF], by simp [Tree.v], by simp [Tree.v], .inl rfl, fun i hi => by simp [Tree.ks] at hi⟩, ?_⟩
  simp [cntT, csum, Tree.ks]
theorem forOk_always : ForOk (.mk 10 0 [.mk 2 0 []]) := by
  refine ⟨⟨by simp [Tree.ks, Tree.k, arF], by simp [Tree.v], by simp [Tree.v], .inr rfl, fun i hi => ?_⟩, ?_⟩
  · have : i = 0 := by simp only [Tree.ks, List.length_singleton] at hi; omega
    subst this
    exact ⟨by simp [Tree.ks, Tree.k, arF, nth], by simp [Tree.v, nth, Tree.ks], by simp [Tree.v, nth, Tree.ks], .inl rfl, fun i hi => by simp [Tree.ks, nth] at hi⟩
  · simp [cntT, csum, Tree.ks]

noncomputable def l5Formula_enc : Tree → D := sX
attribute [go_sem] l5Formula_enc
theorem l5Formula_flat (x : Tree) : dat (l5Formula_enc x) = l5Formula_enc x := by simp [go_sem]
def l5Formula_good  : Tree → Prop := fun x => ForOk x
def l5Formula_gd  (x : (Tree) × D) : Prop := l5Formula_good x.1 ∧ dat x.2 = l5Formula_enc x.1
noncomputable def l5Formula_selD  (p : Int) (c : Any) : ((Tree) × D) × Int := dsel (l5Formula_gd) ((.mk 2 0 [] : Tree), l5Formula_enc (.mk 2 0 [])) 100 p c
noncomputable def l5Formula_sel  (p : Int) (c : Any) : (Tree) × Int := ((l5Formula_selD p c).1.1, (l5Formula_selD p c).2)
theorem l5Formula_okD   (p : Int) (c : Any) : (l5Formula_good (l5Formula_sel p c).1 ∧ p ≤ (l5Formula_sel p c).2 ∧ (l5Formula_sel p c).2 ≤ p + 100) ∧ dat (l5Formula_selD p c).1.2 = l5Formula_enc (l5Formula_sel p c).1 := by
  have hx : l5Formula_good (.mk 2 0 []) := forOk_atom
  have h := dsel_ok (good := l5Formula_gd) (x0 := ((.mk 2 0 [] : Tree), l5Formula_enc (.mk 2 0 []))) ⟨hx, l5Formula_flat _⟩ (K := 100) (by omega) (p := p) c
  exact ⟨⟨h.1.1, h.2.1, h.2.2⟩, h.1.2⟩
theorem l5Formula_ok   (p : Int) (c : Any) : l5Formula_good (l5Formula_sel p c).1 ∧ p ≤ (l5Formula_sel p c).2 ∧ (l5Formula_sel p c).2 ≤ p + 100 := (l5Formula_okD  p c).1
theorem l5Formula_ret  (ys : List UInt8) (p : Int) (b : Nat) {e_ : Exit} {S_ : St} (x : Tree) (p' : Int) (he_ : e_ = .ret ∨ e_ = .normal)
    (h1 : (zaak Try.prog S_ Try.f184.results.toList).1 ∧ dat (resD (zaak Try.prog S_ Try.f184.results.toList).2.1) = l5Formula_enc x ∧ (zaak Try.prog S_ Try.f184.results.toList).2.2.H b = some [li cY ys, .int .i64 p']) (hg : l5Formula_good x) (h2 : p ≤ p' ∧ p' ≤ p + 100) :
    retR Try.prog Try.f184 (fun c => ((l5Formula_selD p c).1.2, one b [li cY ys, .int .i64 (l5Formula_selD p c).2])) e_ S_ :=
  ret_draw (good := l5Formula_gd) (enc := fun x : (Tree) × D => x.2) (cells := fun q => [li cY ys, .int .i64 q]) (x, resD (zaak Try.prog S_ Try.f184.results.toList).2.1) p' he_ ⟨h1.1, rfl, h1.2.2⟩ ⟨hg, h1.2.1⟩ h2
set_option maxHeartbeats 4000000 in
theorem l5Formula_spec (ys : List UInt8) (p : Int) (b : Nat)  (hl : ys.length ≤ 2000) (h0_ : 0 ≤ p) (hp_ : p + 100 ≤ 1000000)  : SpecR Try.prog 184 [.ptr b 0] (one b [li cY ys, .int .i64 p]) (fun c => ((l5Formula_selD p c).1.2, one b [li cY ys, .int .i64 (l5Formula_selD p c).2])) := by
  refine SpecR.of_walk Try.func184 rfl (by simp [Try.f184]) fun B => ?_
  have hr := numI_range ys (p := p) (by omega) (xs := [3, 2, 4, 3]) (lo := 2) (hi := 4) (by simp) (by simp); have hk := kR_le (d := numI ys p [3, 2, 4, 3]) (by omega); have hk0 := kR_nn (numI ys p [3, 2, 4, 3]).toNat
  all_goals (repeat' (first
    | refine AW_seq ?_
    | refine zaac (id := 0) Γy25_ok [] (by kernel_rfl) ?_; simp  [-List.getD_eq_getElem?_getD, -List.drop_one, ↓zaab, ↓zaaa, go_sem]
    | refine zaac (id := 1) Γy25_ok [] (by kernel_rfl) ?_; simp  [-List.getD_eq_getElem?_getD, -List.drop_one, ↓zaab, ↓zaaa, go_sem, hl, (show 0 ≤ p by omega), (show p ≤ 1000000 by omega), (show 0 ≤ p + 1 by omega), (show p + 1 ≤ 1000000 by omega), (show 0 ≤ p + 1 + 1 by omega), (show p + 1 + 1 ≤ 1000000 by omega), hr, (show p + 1 + kR (numI ys p [3, 2, 4, 3]).toNat ≤ 1000000 by omega)]; try (intro c1; have z0 := l5Random_ok (numI ys p [3, 2, 4, 3]) (by omega) (p + 1) c1; generalize l5Random_sel (numI ys p [3, 2, 4, 3]) (p + 1) c1 = z at *; obtain ⟨-, z1, z2⟩ := z0; obtain ⟨⟨tk, tv, ts⟩, p2⟩ := z; dsimp only at z1 z2; refine AW_shut 3 ?_; simp [go_sem])
    | refine zaac (id := 2) Γy25_ok [] (by kernel_rfl) ?_; simp  [-List.getD_eq_getElem?_getD, -List.drop_one, ↓zaab, ↓zaaa, go_sem]
    | refine zaac (id := 3) Γy25_ok [] (by kernel_rfl) ?_; simp  [-List.getD_eq_getElem?_getD, -List.drop_one, ↓zaab, ↓zaaa, go_sem]
    | refine zaac (id := 4) Γy25_ok [] (by kernel_rfl) ?_; simp  [-List.getD_eq_getElem?_getD, -List.drop_one, ↓zaab, ↓zaaa, go_sem]
    | refine zaaf (c := .tmp 10) ?_; simp [-List.getD_eq_getElem?_getD, -List.drop_one, ↓zaab, ↓zaaa, go_sem]; try first | (refine ⟨?_, ?_⟩ <;> change AW _ _ _ _ _ _) | (refine ⟨fun c10 => ?_, fun c10 => ?_⟩ <;> (try simp [B_iff, B_not] at c10))
    | (refine zaag ?_)
    | (refine zaap ?_; simp [-List.getD_eq_getElem?_getD, -List.drop_one, ↓zaab, ↓zaaa, go_sem])
    | (refine zaan ?_; simp [-List.getD_eq_getElem?_getD, -List.drop_one, ↓zaab, ↓zaaa, go_sem])
    | (refine AW_ret ?_; try simp [-List.getD_eq_getElem?_getD, -List.drop_one, ↓zaab, ↓zaaa, go_sem, Try.results184])
    | (intro hx; change AW _ _ _ _ _ _)
    | (intro hx; change retR _ _ _ _ _)
    | (refine ⟨?_, ?_⟩ <;> change AW _ _ _ _ _ _)
    | (intro hx; refine ⟨fun hs => ?_, fun hs => ?_⟩)
    | (refine ⟨fun hs => ?_, fun hs => ?_⟩)
    | (refine ⟨?_, fun hs => ?_⟩; change AW _ _ _ _ _ _)
    | (refine ⟨fun hs => ?_, ?_⟩; rotate_left; change AW _ _ _ _ _ _; rotate_left)))
  all_goals (first
    | (refine l5Formula_ret _ _ _ (.mk tk tv ts) (p2) ?_ ?_ ?_ ?_; (first | exact Or.inl rfl | exact Or.inr rfl); (focus (simp [-List.getD_eq_getElem?_getD, -List.drop_one, ↓zaab, ↓zaaa, go_sem, Try.results184, li, dat, datL_map]; done)); (focus ((assumption); done)); (focus (refine ⟨?_, ?_⟩ <;> omega)))
    | (refine l5Formula_ret _ _ _ (.mk 10 0 [.mk 2 0 []]) (p2) ?_ ?_ ?_ ?_; (first | exact Or.inl rfl | exact Or.inr rfl); (focus (simp [-List.getD_eq_getElem?_getD, -List.drop_one, ↓zaab, ↓zaaa, go_sem, Try.results184, li, cat_cons, cX_mk, dat, datL, datL_map, cat_nil]; done)); (focus ((exact forOk_always); done)); (focus (refine ⟨?_, ?_⟩ <;> omega)))
    | skip)
noncomputable def l5FormulaC : Con := .rel fun args H => match args with
  | [.ptr b 0] => match H b with
    | some [.list m cs, .int .i64 p] => ((Is cY m cs) ∧ (m ≤ 2000) ∧ (0 ≤ p) ∧ (p + 100 ≤ 1000000), fun c => (l5Formula_enc (l5Formula_sel p c).1, upd H b (some [.list m cs, .int .i64 (l5Formula_sel p c).2])))
    | _ => (False, fun _ => (.any, H))
  | _ => (False, fun _ => (.any, H))
attribute [go_sem] l5FormulaC
theorem l5FormulaC_ok : ConOk Try.prog 184 l5FormulaC := by
  refine ⟨zaal Try.func184 (by decide) rfl, fun args H h => ?_⟩
  revert h
  dsimp only
  split
  · split
    · rename_i hH
      intro h
      obtain ⟨⟨ys, rfl, rfl⟩, hl, h0_, hp_⟩ := h
      try simp only [de_cat] at *
      exact SpecR.enc ((l5Formula_spec ys _ _ hl h0_ hp_ ).frame hH).shut fun c => Prod.ext (l5Formula_okD  _ _).2.symm rfl
    · intro h; exact h.elim
  · intro h
    exact h.elim
noncomputable def Γy26 : FuncId → Con := ext Γy25 184 l5FormulaC
attribute [go_sem] Γy26
theorem Γy26_ok : ∀ g, ConOk Try.prog g (Γy26 g) := ext_ok Γy25_ok l5FormulaC_ok

end Go.Proofs.Ytkjimmkemnmajaa.Vm

