/-
  Draws: lassos turned; pairs of lassos. No conditions.
-/
import Derived.Test.YtkjimmkemnmajaaY11
namespace Go.Proofs.Ytkjimmkemnmajaa.Vm
open Go
open Nat renaming sub_pos_of_lt → zsP
open List renaming getD_eq_getElem?_getD → zg, drop_one → zd
open Ne renaming symm → zS
noncomputable section
set_option linter.unusedVariables false
set_option linter.unusedSimpArgs false
set_option maxRecDepth 200000

structure LR where
  s : List Int
  e : List Int
  i : Int
  H : Hp
def LRi (b qb : Nat) (ys : List UInt8) (p : Int) (m n : Nat) (r : LR) : Prop := (0 ≤ r.i ∧ r.i ≤ 3) ∧ (r.s.length : Int) + r.i ≤ m + 3 ∧ r.e.length = n ∧ r.H b = some [.list ys.length (cat cY ys), .int .i64 (p + 1)] ∧ r.H qb = some [.fr 1 r.s.length (cat cI r.s), li cI r.e]

@[go_sem] def Uo : Ints2 → D := sPz
theorem l6Rotate_flat (x : Ints2) : dat (Uo x) = Uo x := by simp [go_sem]
def zabe (a : List Int) (e : List Int) : Ints2 → Prop := fun x => x.1.length ≤ 60 ∧ 1 ≤ x.2.length ∧ x.2.length ≤ 100
def zaiz (a : List Int) (e : List Int) (x : (Ints2) × D) : Prop := zabe a e x.1 ∧ dat x.2 = Uo x.1
def zaaq (a : List Int) (e : List Int) (p : Int) (c : Any) : ((Ints2) × D) × Int := dsel (zaiz a e) ((([], [0]) : Ints2), Uo (([], [0]))) 3 p c
def Xq (a : List Int) (e : List Int) (p : Int) (c : Any) : (Ints2) × Int := ((zaaq a e p c).1.1, (zaaq a e p c).2)
theorem zamt (a : List Int) (e : List Int) (hS : a.length ≤ 50 ∧ 1 ≤ e.length ∧ e.length ≤ 50) (p : Int) (c : Any) : (zabe a e (Xq a e p c).1 ∧ p ≤ (Xq a e p c).2 ∧ (Xq a e p c).2 ≤ p + 3) ∧ dat (zaaq a e p c).1.2 = Uo (Xq a e p c).1 := by
  have hx : zabe a e (([], [0])) := by simp [zabe]
  have h := Yd (good := zaiz a e) (x0 := ((([], [0]) : Ints2), Uo (([], [0])))) ⟨hx, l6Rotate_flat _⟩ (K := 3) (by omega) (p := p) c
  exact ⟨⟨h.1.1, h.2.1, h.2.2⟩, h.1.2⟩
theorem l6Rotate_ok (a : List Int) (e : List Int) (hS : a.length ≤ 50 ∧ 1 ≤ e.length ∧ e.length ≤ 50) (p : Int) (c : Any) : zabe a e (Xq a e p c).1 ∧ p ≤ (Xq a e p c).2 ∧ (Xq a e p c).2 ≤ p + 3 := (zamt a e hS p c).1
theorem zams (a : List Int) (e : List Int) (ys : List UInt8) (p : Int) (b : Nat) {e_ : Exit} {S_ : St} (x : Ints2) (p' : Int) (he_ : e_ = .ret ∨ e_ = .normal)
    (h1 : (Qf Try.prog S_ Try.f145.results.toList).1 ∧ dat (resD (Qf Try.prog S_ Try.f145.results.toList).2.1) = Uo x ∧ (Qf Try.prog S_ Try.f145.results.toList).2.2.H b = some [li cY ys, .int .i64 p']) (hg : zabe a e x) (h2 : p ≤ p' ∧ p' ≤ p + 3) :
    retR Try.prog Try.f145 (fun c => ((zaaq a e p c).1.2, one b [li cY ys, .int .i64 (zaaq a e p c).2])) e_ S_ :=
  Wy (good := zaiz a e) (enc := fun x : (Ints2) × D => x.2) (cells := fun q => [li cY ys, .int .i64 q]) (x, resD (Qf Try.prog S_ Try.f145.results.toList).2.1) p' he_ ⟨h1.1, rfl, h1.2.2⟩ ⟨hg, h1.2.1⟩ h2
set_option maxHeartbeats 8000000 in
theorem l6Rotate_spec (ys : List UInt8) (p : Int) (b : Nat) (a : List Int) (e : List Int) (hl : ys.length ≤ 2000) (h0_ : 0 ≤ p) (hp_ : p + 3 ≤ 1000000) (hS : a.length ≤ 50 ∧ 1 ≤ e.length ∧ e.length ≤ 50) : SpecR Try.prog 145 [.ptr b 0, .st [li cI a, li cI e]] (one b [li cY ys, .int .i64 p]) (fun c => ((zaaq a e p c).1.2, one b [li cY ys, .int .i64 (zaaq a e p c).2])) := by
  refine SpecR.of_walk Try.func145 rfl (by simp [Try.f145]) fun B => ?_
  obtain ⟨s1, s2, s3⟩ := hS
  all_goals (repeat' (first
 | refine Qu ?_
 | refine Qc (id := 0) Vg [] (by kernel_rfl) ?_; simp [-zg, -zd, ↓Qb, ↓Qa, go_sem]; try (refine Xv 3 ?_; simp [go_sem])
 | refine Xo (id := 1) Vg mixed [] [3] (by kernel_rfl) (by kernel_rfl) (by simp [-zg, -zd, ↓Qb, ↓Qa, go_sem, (show a.length ≤ 9223372036854775807 by omega), (show 2 * a.length * 8 ≤ 281474976710656 by omega), (show e.length ≤ 9223372036854775807 by omega), (show 2 * e.length * 8 ≤ 281474976710656 by omega)]) ?_; simp [-zg, -zd, ↓Qb, ↓Qa, go_sem, (show a.length ≤ 9223372036854775807 by omega), (show 2 * a.length * 8 ≤ 281474976710656 by omega), (show e.length ≤ 9223372036854775807 by omega), (show 2 * e.length * 8 ≤ 281474976710656 by omega)]; try ((refine Zl 5 rfl fun qb hqb => ?_); (have nbq : ¬ b = qb := (by rintro rfl; simp [upd] at hqb)); (clear hqb); (refine zajy qb 1 (all := [.fr 1 a.length (cat cI a), .fr 1 e.length (cat cI e)]) (by simp [upd]) rfl rfl ?_); (refine Qx (fun H1 => H1 b = some [.list ys.length (cat cY ys), .int .i64 (p)] ∧ H1 qb = some [.fr 1 a.length (cat cI a), li cI e]) ⟨by simp [upd, nbq], by simp [upd, dat, Xb, Zf, li]⟩ fun H1 ⟨w1, w2⟩ => ?_))
 | refine Qc (id := 2) Vg [] (by kernel_rfl) ?_; simp [-zg, -zd, ↓Qb, ↓Qa, go_sem, w1, hl, (show 0 ≤ p by omega), (show p ≤ 1000000 by omega), (show 0 ≤ p + 1 by omega), (show p + 1 ≤ 1000000 by omega)]; try ((have hk4 := zaku ys (p := p) (by omega) (n := 4) (by omega)); (generalize pkI ys p 4 = kk at *); (refine Qx (fun H2 => LRi b qb ys p a.length e.length ⟨a, e, kk, H2⟩) ⟨by dsimp only; omega, by dsimp only; omega, rfl, by simp [upd], by simp [upd, zS nbq, w2]⟩ fun H2 hR => ?_))
 | ((obtain ⟨f1, f2, f3, f4, f5⟩ := id hr)); refine Qc (id := 3) Vg [] (by kernel_rfl) ?_; simp [-zg, -zd, ↓Qb, ↓Qa, go_sem]
 | ((obtain ⟨s, e', ii, HH⟩ := r); (dsimp only at c19 f1 f2 f3 f4 f5 ⊢); (have he0 : 0 < e'.length := (by omega)); (refine Zp qb 0 (all := [.fr 1 s.length (cat cI s), li cI e']) f5 rfl fun xb cp jj hx2 f6 f7 => ?_); (have m1 : ¬ xb = b := (by rintro rfl; simp [upd, nbq, zS nbq, f4] at hx2)); (have m2 : ¬ xb = qb := (by rintro rfl; simp [upd, f5] at hx2)); (clear hx2); (refine Qx (fun H3 => H3 b = some [.list ys.length (cat cY ys), .int .i64 (p + 1)] ∧ H3 qb = some [.sl xb 1 0 s.length cp, li cI e'] ∧ H3 xb = some (cat cI s ++ List.replicate jj .any)) ⟨by simp [upd, m1, zS m1, nbq, zS nbq, f4], by simp [upd, m2, zS m2, li], by simp [upd]⟩ fun H4 ⟨r1, r2, r3⟩ => ?_)); refine Xr (id := 5) Vg mixed [(qb, [.sl xb 1 0 s.length cp, li cI e'])] [] [5] (by kernel_rfl) (by kernel_rfl) (by simp [-zg, -zd, ↓Qb, ↓Qa, go_sem, r1, r2, r3, he0, Qm he0, zsP he0, m2, zS m2, (show s.length ≤ 9223372036854775806 by omega), (show 2 * (s.length + 1) * 8 ≤ 281474976710656 by omega), (show cp ≤ s.length + jj by omega), (show s.length ≤ s.length + jj by omega), Zg]) (by simp [-zg, -zd, ↓Qb, ↓Qa, go_sem, r1, r2, r3, he0, Qm he0, zsP he0, m2, zS m2, (show s.length ≤ 9223372036854775806 by omega), (show 2 * (s.length + 1) * 8 ≤ 281474976710656 by omega), (show cp ≤ s.length + jj by omega), (show s.length ≤ s.length + jj by omega), Zg]) ?_; simp [-zg, -zd, ↓Qb, ↓Qa, go_sem, r1, r2, r3, he0, Qm he0, zsP he0, m2, zS m2, (show s.length ≤ 9223372036854775806 by omega), (show 2 * (s.length + 1) * 8 ≤ 281474976710656 by omega), (show cp ≤ s.length + jj by omega), (show s.length ≤ s.length + jj by omega), Zg]; try ((generalize nth e' 0 = vv at *); (refine Qx (fun H3 => H3 b = some [.list ys.length (cat cY ys), .int .i64 (p + 1)] ∧ H3 qb = some [.fr 1 (s ++ [vv]).length (cat cI (s ++ [vv])), li cI e']) ⟨by simp [upd, m1, zS m1, nbq, zS nbq, r1], by simp [upd, m2, zS m2, li]⟩ fun H5 ⟨u1, u2⟩ => ?_))
 | refine Xo (id := 6) Vg mixed [] [5] (by kernel_rfl) (by kernel_rfl) (by simp [-zg, -zd, ↓Qb, ↓Qa, go_sem, u2, he0, Qm he0, zsP he0, (show e'.length ≤ 9223372036854775807 by omega), (show 2 * e'.length * 8 ≤ 281474976710656 by omega), (show (1 : Int) ≤ (e'.length : Int) by omega), (show 1 ≤ e'.length by omega), (show e'.length - 1 ≤ 9223372036854775807 by omega), (show 2 * (e'.length - 1) * 8 ≤ 281474976710656 by omega), (show e'.length - 1 ≤ 9223372036854775806 by omega), (show 2 * (e'.length - 1 + 1) * 8 ≤ 281474976710656 by omega), (show ((e'.length : Int) - 1).toNat = e'.length - 1 by omega), (show e'.drop 1 = e'.drop 1 from rfl), Zg, (show (e'.drop 1).take (e'.length - 1) = e'.drop 1 from List.take_of_length_le (by simp))]) ?_; simp [-zg, -zd, ↓Qb, ↓Qa, go_sem, u2, he0, Qm he0, zsP he0, (show e'.length ≤ 9223372036854775807 by omega), (show 2 * e'.length * 8 ≤ 281474976710656 by omega), (show (1 : Int) ≤ (e'.length : Int) by omega), (show 1 ≤ e'.length by omega), (show e'.length - 1 ≤ 9223372036854775807 by omega), (show 2 * (e'.length - 1) * 8 ≤ 281474976710656 by omega), (show e'.length - 1 ≤ 9223372036854775806 by omega), (show 2 * (e'.length - 1 + 1) * 8 ≤ 281474976710656 by omega), (show ((e'.length : Int) - 1).toNat = e'.length - 1 by omega), (show e'.drop 1 = e'.drop 1 from rfl), Zg, (show (e'.drop 1).take (e'.length - 1) = e'.drop 1 from List.take_of_length_le (by simp))]; try ((have he9 : e'.length - 1 + 1 = e'.length := (by omega)); (have he8 : (e'.drop 1 ++ [nth e' 0]).length = e'.length := (by simp; omega)); (refine Qx (fun H3 => H3 b = some [.list ys.length (cat cY ys), .int .i64 (p + 1)] ∧ H3 qb = some [.fr 1 (s ++ [vv]).length (cat cI (s ++ [vv])), .fr 1 (e'.drop 1 ++ [nth e' 0]).length (cat cI (e'.drop 1 ++ [nth e' 0]))]) ⟨by simp [upd, nbq, zS nbq, u1], by simp [-zd, upd, he9]⟩ fun H3 ⟨g1, g2⟩ => ?_); (generalize e'.drop 1 ++ [nth e' 0] = e8 at *); (refine zajy qb 1 (all := [.fr 1 (s ++ [vv]).length (cat cI (s ++ [vv])), .fr 1 e8.length (cat cI e8)]) g2 rfl rfl ?_); (refine Qx (fun H1 => H1 b = some [.list ys.length (cat cY ys), .int .i64 (p + 1)] ∧ H1 qb = some [.fr 1 (s ++ [vv]).length (cat cI (s ++ [vv])), li cI e8]) ⟨by simp [upd, nbq, g1], by simp [upd, dat, Xb, Zf, li]⟩ fun H6 ⟨v1, v2⟩ => ?_))
 | refine Qc (id := 4) Vg [] (by kernel_rfl) ?_; simp [-zg, -zd, ↓Qb, ↓Qa, go_sem, Qk (x := ii - 1) (by omega) (by omega)]
 | ((obtain ⟨s, e', ii, HH⟩ := r); (dsimp only at f1 f2 f3 f4 f5 ⊢)); refine Qc (id := 7) Vg [] (by kernel_rfl) ?_; simp [-zg, -zd, ↓Qb, ↓Qa, go_sem, f4, hl, (show 0 ≤ p + 1 by omega), (show p + 1 ≤ 1000000 by omega), (show 0 ≤ p + 1 + 1 by omega), (show p + 1 + 1 ≤ 1000000 by omega)]; try ((refine Qx (fun H3 => H3 b = some [.list ys.length (cat cY ys), .int .i64 (p + 1 + 1)] ∧ H3 qb = some [.fr 1 s.length (cat cI s), li cI e']) ⟨by simp [upd], by simp [upd, zS nbq, f5]⟩ fun H3 ⟨g1, g2⟩ => ?_))
 | refine Xo (id := 8) Vg mixed [] [5] (by kernel_rfl) (by kernel_rfl) (by simp [-zg, -zd, ↓Qb, ↓Qa, go_sem, g2, (show e'.length ≤ 9223372036854775807 by omega), (show 2 * e'.length * 8 ≤ 281474976710656 by omega), (show e'.length + e'.length ≤ 9223372036854775807 by omega), (show 2 * (e'.length + e'.length) * 8 ≤ 281474976710656 by omega)]) ?_; simp [-zg, -zd, ↓Qb, ↓Qa, go_sem, g2, (show e'.length ≤ 9223372036854775807 by omega), (show 2 * e'.length * 8 ≤ 281474976710656 by omega), (show e'.length + e'.length ≤ 9223372036854775807 by omega), (show 2 * (e'.length + e'.length) * 8 ≤ 281474976710656 by omega)]
 | refine Qc (id := 9) Vg [] (by kernel_rfl) ?_; simp [-zg, -zd, ↓Qb, ↓Qa, go_sem, g2]
 | refine Qc (id := 9) Vg [] (by kernel_rfl) ?_; simp [-zg, -zd, ↓Qb, ↓Qa, go_sem]
 | refine Qd (c := .tmp 19) ?_; simp [-zg, -zd, ↓Qb, ↓Qa, go_sem]; try first | (refine ⟨?_, ?_⟩ <;> refine zA ?_) | (refine ⟨fun c19 => ?_, fun c19 => ?_⟩ <;> (try simp [B_iff, B_not] at c19))
 | refine Qd (c := .tmp 45) ?_; simp [-zg, -zd, ↓Qb, ↓Qa, go_sem]; try first | (refine ⟨?_, ?_⟩ <;> refine zA ?_) | (refine ⟨fun c45 => ?_, fun c45 => ?_⟩ <;> (try simp [B_iff, B_not] at c45))
 | (refine Qe (id := 0) (Xa (ι := LR) (fun r : LR => ⟨(upd (upd (upd (upd (fun _ => .any) 0 (.ptr b 0)) 4 (.box [.nil, .nil])) 5 (.ptr qb 0)) 6 (.int .i64 r.i)), r.H⟩) (fun r => LRi b qb ys p a.length e.length r) (fun r => r.i.toNat) (⟨a, e, kk, H2⟩) ?_ ?_ ?_); exact hR; ((repeat' (first | exact Qh (by assumption) | exact Qj | refine Qg ?_ ?_ | refine Qi ?_)) <;> simp [-zg, -zd, ↓Qb, ↓Qa, go_sem]); rintro r hr)
 | (refine ⟨⟨s ++ [vv], e8, ii - 1, H6⟩, ⟨by dsimp only; omega, by simp; omega, by dsimp only; omega, v1, v2⟩, by first | omega | (simp; done) | (simp; omega), ?_⟩; ((repeat' (first | exact Qh (by assumption) | exact Qj | refine Qg ?_ ?_ | refine Qi ?_)) <;> simp [-zg, -zd, ↓Qb, ↓Qa, go_sem]))
 | (refine Qe ?_)
 | (refine Qs ?_; simp [-zg, -zd, ↓Qb, ↓Qa, go_sem])
 | (refine Qr ?_; simp [-zg, -zd, ↓Qb, ↓Qa, go_sem])
 | (refine Qv ?_; try simp [-zg, -zd, ↓Qb, ↓Qa, go_sem, Try.results145])
 | (intro hx; refine zA ?_)
 | (intro hx; change retR _ _ _ _ _)
 | (refine ⟨?_, ?_⟩ <;> refine zA ?_)
 | (intro hx; constructor <;> intro hs)
 | (constructor <;> intro hs)
 | (refine ⟨?_, fun hs => ?_⟩; refine zA ?_)
 | (refine ⟨fun hs => ?_, ?_⟩; rotate_left; refine zA ?_; rotate_left)
 | ((fail_if_success change retR _ _ _ _ _); (exfalso; omega))))
  all_goals (first
 | (refine zams _ _ _ _ _ ((s, e')) (p + 1 + 1) ?_ ?_ ?_ ?_; (first | exact Or.inl rfl | exact Or.inr rfl); (focus (simp [-zg, -zd, ↓Qb, ↓Qa, go_sem, Try.results145, dat, Xb, li, Zf, g1, nbq, zS nbq]; done)); (focus ((exact ⟨by dsimp only; omega, by dsimp only; omega, by dsimp only; omega⟩); done)); (focus (refine ⟨?_, ?_⟩ <;> omega)))
 | (refine zams _ _ _ _ _ ((s, e' ++ e')) (p + 1 + 1) ?_ ?_ ?_ ?_; (first | exact Or.inl rfl | exact Or.inr rfl); (focus (simp [-zg, -zd, ↓Qb, ↓Qa, go_sem, Try.results145, dat, Xb, li, Zf, Zt, g1, nbq, zS nbq]; done)); (focus ((exact ⟨by dsimp only; omega, by simp; omega, by simp; omega⟩); done)); (focus (refine ⟨?_, ?_⟩ <;> omega)))
 | skip)
@[go_sem] def l6RotateC : Con := .rel fun args H => match args with
  | [.ptr b 0, .st [.list n_a c_a, .list n_e c_e]] => match H b with
    | some [.list m cs, .int .i64 p] => ((Is cY m cs) ∧ (m ≤ 2000) ∧ (0 ≤ p) ∧ (p + 3 ≤ 1000000) ∧ (Is cI n_a c_a) ∧ (Is cI n_e c_e) ∧ ((de cI c_a).length ≤ 50 ∧ 1 ≤ (de cI c_e).length ∧ (de cI c_e).length ≤ 50), fun c => (Uo (Xq (de cI c_a) (de cI c_e) p c).1, upd H b (some [.list m cs, .int .i64 (Xq (de cI c_a) (de cI c_e) p c).2])))
    | _ => (False, fun _ => (.any, H))
  | _ => (False, fun _ => (.any, H))
theorem l6RotateC_ok : ConOk Try.prog 145 l6RotateC := by
  refine ⟨Qp Try.func145 (by decide) rfl, fun args H h => ?_⟩
  revert h
  dsimp only
  split
  · split
    · rename_i hH
      intro h
      obtain ⟨⟨ys, rfl, rfl⟩, hl, h0_, hp_, ⟨a, rfl, rfl⟩, ⟨e, rfl, rfl⟩, hS⟩ := h
      try simp only [Qt] at *
      exact SpecR.enc ((l6Rotate_spec ys _ _ a e hl h0_ hp_ hS).frame hH).shut fun c => Prod.ext (zamt _ _ hS _ _).2.symm rfl
    · intro h; exact h.elim
  · intro h
    exact h.elim
@[go_sem] def Γy37 : FuncId → Con := ext Γy36 145 l6RotateC
theorem zaij : ∀ g, ConOk Try.prog g (Γy37 g) := Qo Vg l6RotateC_ok

@[go_sem] def Wk : Ints2 × Ints2 → D := fun x => .tup [sPz x.1, sPz x.2]
theorem zakq (x : Ints2 × Ints2) : dat (Wk x) = Wk x := by simp [go_sem]
def zacl (xs : List UInt8) : Ints2 × Ints2 → Prop := fun _ => True
def zacb (xs : List UInt8) (x : (Ints2 × Ints2) × D) : Prop := zacl xs x.1 ∧ dat x.2 = Wk x.1
def zaav (xs : List UInt8) (c : Any) : (Ints2 × Ints2) × D := sel (zacb xs) (((([], []), ([], [])) : Ints2 × Ints2), Wk ((([], []), ([], [])))) c
def zafo (xs : List UInt8) (c : Any) : Ints2 × Ints2 := (zaav xs c).1
theorem zanx (xs : List UInt8)  (c : Any) : zacb xs (zaav xs c) := by
  have hx : zacl xs ((([], []), ([], []))) := trivial
  exact Zz (p := zacb xs) (x0 := (((([], []), ([], [])) : Ints2 × Ints2), Wk ((([], []), ([], []))))) ⟨hx, zakq _⟩ c
theorem zafp (xs : List UInt8) {e_ : Exit} {S_ : St} (x : Ints2 × Ints2) (he_ : e_ = .ret ∨ e_ = .normal)
    (h1 : (Qf Try.prog S_ Try.f56.results.toList).1 ∧ dat (resD (Qf Try.prog S_ Try.f56.results.toList).2.1) = Wk x) (hg : zacl xs x) :
    retR Try.prog Try.f56 (fun c => ((zaav xs c).2, fun _ => none)) e_ S_ :=
  Zw (good := zacb xs) (enc := fun x : (Ints2 × Ints2) × D => x.2) (x, resD (Qf Try.prog S_ Try.f56.results.toList).2.1) he_ ⟨h1.1, rfl⟩ ⟨hg, h1.2⟩
set_option maxHeartbeats 8000000 in
theorem zakp (xs : List UInt8)  : SpecR Try.prog 56 [li cY xs] (fun _ => none) (fun c => ((zaav xs c).2, fun _ => none)) := by
  refine SpecR.of_walk Try.func56 rfl (by simp [Try.f56]) fun B => ?_
  have hl := cut_len xs
  all_goals (repeat' (first
 | refine Qu ?_
 | refine Qc (id := 0) zaij [] (by kernel_rfl) ?_; simp [-zg, -zd, ↓Qb, ↓Qa, go_sem]
 | refine Qc (id := 1) zaij [] (by kernel_rfl) ?_; simp [-zg, -zd, ↓Qb, ↓Qa, go_sem]; try (refine Zl 4 rfl fun b hb => ?_; clear hb)
 | refine Qc (id := 2) zaij [] (by kernel_rfl) ?_; simp [-zg, -zd, ↓Qb, ↓Qa, go_sem, hl]; try ((intro c2); (have h2 := zamv 0 c2); (generalize Xm 0 c2 = z at *); (obtain ⟨⟨za, zb⟩, p2⟩ := z); (simp only [zaaz] at h2); (obtain ⟨⟨k1, k2, k3⟩, k4, k5⟩ := h2); (refine Xv 5 ?_); (simp [go_sem, dat, Xb]))
 | refine Qc (id := 3) zaij [] (by kernel_rfl) ?_; simp [-zg, -zd, ↓Qb, ↓Qa, go_sem, hl, (show 0 ≤ p2 by omega), (show p2 ≤ 1000000 by omega), (show 0 ≤ p2 + 1 by omega), (show p2 + 1 ≤ 1000000 by omega)]
 | ((have u1 : ∀ q c, 0 ≤ q → q ≤ 600 → ((Xq za zb q c).1.1.length ≤ 60 ∧ 1 ≤ (Xq za zb q c).1.2.length ∧ (Xq za zb q c).1.2.length ≤ 100) ∧ q ≤ (Xq za zb q c).2 ∧ (Xq za zb q c).2 ≤ q + 3 := (fun q c _ _ => l6Rotate_ok za zb ⟨by omega, by omega, by omega⟩ q c)); (have u2 : ∀ c, 0 ≤ (Xq za zb (p2 + 1) c).2 ∧ (Xq za zb (p2 + 1) c).2 + 3 ≤ 1000000 := (fun c => by have h := u1 (p2 + 1) c (by omega) (by omega); omega)); (have u3 : ∀ c c', (Xq za zb (Xq za zb (p2 + 1) c).2 c').1.1.length ≤ 100 ∧ 1 ≤ (Xq za zb (Xq za zb (p2 + 1) c).2 c').1.2.length ∧ (Xq za zb (Xq za zb (p2 + 1) c).2 c').1.2.length ≤ 100 ∧ 0 ≤ (Xq za zb (Xq za zb (p2 + 1) c).2 c').2 ∧ (Xq za zb (Xq za zb (p2 + 1) c).2 c').2 + 210 ≤ 1000000 := (fun c c' => by (have h := u1 (p2 + 1) c (by omega) (by omega)); (have h' := u1 (Xq za zb (p2 + 1) c).2 c' (by omega) (by omega)); omega))); refine Xr (id := 4) zaij mixed [] [] [4, 5] (by kernel_rfl) (by kernel_rfl) (by simp [-zg, -zd, ↓Qb, ↓Qa, go_sem, hl, (show 0 ≤ p2 + 1 by omega), (show p2 + 1 ≤ 1000000 by omega), (show p2 + 1 + 3 ≤ 1000000 by omega), (show za.length ≤ 50 by omega), k2, (show zb.length ≤ 50 by omega), u2, u3]) (by simp [-zg, -zd, ↓Qb, ↓Qa, go_sem, hl, (show 0 ≤ p2 + 1 by omega), (show p2 + 1 ≤ 1000000 by omega), (show p2 + 1 + 3 ≤ 1000000 by omega), (show za.length ≤ 50 by omega), k2, (show zb.length ≤ 50 by omega), u2, u3]) ?_; simp [-zg, -zd, ↓Qb, ↓Qa, go_sem, hl, (show 0 ≤ p2 + 1 by omega), (show p2 + 1 ≤ 1000000 by omega), (show p2 + 1 + 3 ≤ 1000000 by omega), (show za.length ≤ 50 by omega), k2, (show zb.length ≤ 50 by omega), u2, u3]; try ((intro c4 c4' c4''); (generalize hr1 : Xq za zb (p2 + 1) c4 = r1 at *); (generalize Xq za zb r1.2 c4' = r2 at *); (generalize Ve r2.1.1 r2.1.2 r2.2 c4'' = r3 at *))
 | ((have u5 : ∀ c, ((Xm (p2 + 1) c).1.1.length ≤ 5 ∧ 1 ≤ (Xm (p2 + 1) c).1.2.length ∧ (Xm (p2 + 1) c).1.2.length ≤ 8) ∧ (p2 + 1) ≤ (Xm (p2 + 1) c).2 ∧ (Xm (p2 + 1) c).2 ≤ p2 + 1 + 210 := (fun c => zamv (p2 + 1) c)); (have u6 : ∀ c, (Xm (p2 + 1) c).1.1.length ≤ 100 ∧ 1 ≤ (Xm (p2 + 1) c).1.2.length ∧ (Xm (p2 + 1) c).1.2.length ≤ 100 ∧ 0 ≤ (Xm (p2 + 1) c).2 ∧ (Xm (p2 + 1) c).2 + 210 ≤ 1000000 := (fun c => by have h := u5 c; omega))); refine Xr (id := 5) zaij mixed [] [] [4] (by kernel_rfl) (by kernel_rfl) (by simp [-zg, -zd, ↓Qb, ↓Qa, go_sem, hl, (show 0 ≤ p2 + 1 by omega), (show p2 + 1 ≤ 1000000 by omega), (show p2 + 1 + 210 ≤ 1000000 by omega), u6]) (by simp [-zg, -zd, ↓Qb, ↓Qa, go_sem, hl, (show 0 ≤ p2 + 1 by omega), (show p2 + 1 ≤ 1000000 by omega), (show p2 + 1 + 210 ≤ 1000000 by omega), u6]) ?_; simp [-zg, -zd, ↓Qb, ↓Qa, go_sem, hl, (show 0 ≤ p2 + 1 by omega), (show p2 + 1 ≤ 1000000 by omega), (show p2 + 1 + 210 ≤ 1000000 by omega), u6]; try ((intro c5 c5'); (generalize Xm (p2 + 1) c5 = r1 at *); (generalize Ve r1.1.1 r1.1.2 r1.2 c5' = r3 at *))
 | refine Qd (c := .tmp 12) ?_; simp [-zg, -zd, ↓Qb, ↓Qa, go_sem]; try first | (refine ⟨?_, ?_⟩ <;> refine zA ?_) | (refine ⟨fun c12 => ?_, fun c12 => ?_⟩ <;> (try simp [B_iff, B_not] at c12))
 | (refine Qe ?_)
 | (refine Qs ?_; simp [-zg, -zd, ↓Qb, ↓Qa, go_sem])
 | (refine Qr ?_; simp [-zg, -zd, ↓Qb, ↓Qa, go_sem])
 | (refine Qv ?_; try simp [-zg, -zd, ↓Qb, ↓Qa, go_sem, Try.results56])
 | (intro hx; refine zA ?_)
 | (intro hx; change retR _ _ _ _ _)
 | (refine ⟨?_, ?_⟩ <;> refine zA ?_)
 | (intro hx; constructor <;> intro hs)
 | (constructor <;> intro hs)
 | (refine ⟨?_, fun hs => ?_⟩; refine zA ?_)
 | (refine ⟨fun hs => ?_, ?_⟩; rotate_left; refine zA ?_; rotate_left)))
  all_goals (first
 | (refine zafp _ ((r1.1, r3.1)) ?_ ?_ ?_; (first | exact Or.inl rfl | exact Or.inr rfl); (focus (simp [-zg, -zd, ↓Qb, ↓Qa, go_sem, Try.results56, dat, Xb, li]; done)); (focus ((trivial); done)))
 | (refine zafp _ (((za, zb), r3.1)) ?_ ?_ ?_; (first | exact Or.inl rfl | exact Or.inr rfl); (focus (simp [-zg, -zd, ↓Qb, ↓Qa, go_sem, Try.results56, dat, Xb, li]; done)); (focus ((trivial); done)))
 | skip)
@[go_sem] def zafq : Con := .rel fun args H => match args with
  | [.list n_xs c_xs] => ((Is cY n_xs c_xs), fun c => (Wk (zafo (de cY c_xs) c), H))
  | _ => (False, fun _ => (.any, H))
theorem zany : ConOk Try.prog 56 zafq := by
  refine ⟨Qp Try.func56 (by decide) rfl, fun args H h => ?_⟩
  revert h
  dsimp only
  split
  · intro h
    obtain ⟨xs, rfl, rfl⟩ := h
    try simp only [Qt] at *
    exact SpecR.enc ((SpecR.frame0 (zakp xs ) (H := H)).shut) fun c => Prod.ext (zanx _  c).2.symm rfl
  · intro h
    exact h.elim
end
end Go.Proofs.Ytkjimmkemnmajaa.Vm

