import Derived.Test.YtkjimmkemnmajaaY8
/-
  Draws: automata bent; arguments. No conditions.
-/
namespace Go.Proofs.Ytkjimmkemnmajaa.Vm
open Go
open List renaming getD_eq_getElem?_getD → zg, drop_one → zd, replicate → zrP
open Ne renaming symm → zS
noncomputable section
set_option linter.unusedVariables false
set_option linter.unusedSimpArgs false
set_option maxRecDepth 200000

theorem SmallT.cons {x : Tr4} {xs : List Tr4} : SmallT (x :: xs) ↔ x.2.2.1 ≤ 9223372036854775807 ∧ SmallT xs := by
  constructor
  · intro h
    exact ⟨h 0 (by simp), fun i hi => h (i + 1) (by simp; omega)⟩
  · rintro ⟨h1, h2⟩ i hi
    cases i with
    | zero => exact h1
    | succ i => exact h2 i (by simpa using hi)
theorem set_cT : ∀ (c : List Tr4) (ys : List D) (i : Nat) (v : Int), i < c.length * 4 → ∃ c' : List Tr4, c'.length = c.length ∧ (SmallT c → v ≤ 9223372036854775807 → SmallT c') ∧ (cat cT c ++ ys).set i (.int .i64 v) = cat cT c' ++ ys
  | [], ys, i, v, h => by simp at h
  | x :: c, ys, 0, v, h => ⟨(v, x.2) :: c, by simp, fun k _ => by rw [SmallT.cons] at k ⊢; exact k, rfl⟩
  | x :: c, ys, 1, v, h => ⟨(x.1, v, x.2.2) :: c, by simp, fun k _ => by rw [SmallT.cons] at k ⊢; exact k, rfl⟩
  | x :: c, ys, 2, v, h => ⟨(x.1, x.2.1, v, x.2.2.2) :: c, by simp, fun k hv => by rw [SmallT.cons] at k ⊢; exact ⟨hv, k.2⟩, rfl⟩
  | x :: c, ys, 3, v, h => ⟨(x.1, x.2.1, x.2.2.1, v) :: c, by simp, fun k _ => by rw [SmallT.cons] at k ⊢; exact k, rfl⟩
  | x :: c, ys, i + 4, v, h => by
    obtain ⟨c', h1, h2, h3⟩ := set_cT c ys i v (by simp only [List.length_cons] at h; omega)
    refine ⟨x :: c', by simp [h1], fun k hv => ?_, ?_⟩
    · rw [SmallT.cons] at k ⊢; exact ⟨k.1, h2 k.2 hv⟩
    · show (cT x ++ cat cT c ++ ys).set (i + 4) _ = cT x ++ cat cT c' ++ ys
      rw [List.append_assoc, List.append_assoc, ← h3]
      rfl
def LM (b ab zb : Nat) (ys : List UInt8) (a : List Int) (e : List Bool) (g : List Tr4) (cz jz : Nat) (q : Int) (H : Hp) : Prop := H b = some [.list ys.length (cat cY ys), .int .i64 (q)] ∧ H ab = some [.fr 1 a.length (cat cI a), .fr 1 e.length (cat cB e), .sl zb 4 0 g.length cz] ∧ H zb = some (cat cT g ++ zrP jz .any)

@[go_sem] def Un : Au → D := sA
theorem l7Mutate_flat (x : Au) : dat (Un x) = Un x := by simp [go_sem]
def zacd (a : List Int) (e : List Bool) (g : List Tr4) : Au → Prop := fun x => x.1.length ≤ 5001 ∧ x.2.1.length ≤ 5000 ∧ x.2.2.length ≤ 5000 ∧ SmallT x.2.2
def zaiy (a : List Int) (e : List Bool) (g : List Tr4) (x : (Au) × D) : Prop := zacd a e g x.1 ∧ dat x.2 = Un x.1
def zaao (a : List Int) (e : List Bool) (g : List Tr4) (p : Int) (c : Any) : ((Au) × D) × Int := dsel (zaiy a e g) ((([], [], []) : Au), Un (([], [], []))) 3 p c
def Vd (a : List Int) (e : List Bool) (g : List Tr4) (p : Int) (c : Any) : (Au) × Int := ((zaao a e g p c).1.1, (zaao a e g p c).2)
theorem zamm (a : List Int) (e : List Bool) (g : List Tr4) (hS : AuS (a, e, g)) (p : Int) (c : Any) : (zacd a e g (Vd a e g p c).1 ∧ p ≤ (Vd a e g p c).2 ∧ (Vd a e g p c).2 ≤ p + 3) ∧ dat (zaao a e g p c).1.2 = Un (Vd a e g p c).1 := by
  have hx : zacd a e g (([], [], [])) := ⟨by simp, by simp, by simp, SmallT.nil⟩
  have h := Yd (good := zaiy a e g) (x0 := ((([], [], []) : Au), Un (([], [], [])))) ⟨hx, l7Mutate_flat _⟩ (K := 3) (by omega) (p := p) c
  exact ⟨⟨h.1.1, h.2.1, h.2.2⟩, h.1.2⟩
theorem zaix (a : List Int) (e : List Bool) (g : List Tr4) (hS : AuS (a, e, g)) (p : Int) (c : Any) : zacd a e g (Vd a e g p c).1 ∧ p ≤ (Vd a e g p c).2 ∧ (Vd a e g p c).2 ≤ p + 3 := (zamm a e g hS p c).1
theorem zaed (a : List Int) (e : List Bool) (g : List Tr4) (ys : List UInt8) (p : Int) (b : Nat) {e_ : Exit} {S_ : St} (x : Au) (p' : Int) (he_ : e_ = .ret ∨ e_ = .normal)
    (h1 : (Qf Try.prog S_ Try.f130.results.toList).1 ∧ dat (resD (Qf Try.prog S_ Try.f130.results.toList).2.1) = Un x ∧ (Qf Try.prog S_ Try.f130.results.toList).2.2.H b = some [li cY ys, .int .i64 p']) (hg : zacd a e g x) (h2 : p ≤ p' ∧ p' ≤ p + 3) :
    retR Try.prog Try.f130 (fun c => ((zaao a e g p c).1.2, one b [li cY ys, .int .i64 (zaao a e g p c).2])) e_ S_ :=
  Wy (good := zaiy a e g) (enc := fun x : (Au) × D => x.2) (cells := fun q => [li cY ys, .int .i64 q]) (x, resD (Qf Try.prog S_ Try.f130.results.toList).2.1) p' he_ ⟨h1.1, rfl, h1.2.2⟩ ⟨hg, h1.2.1⟩ h2
set_option maxHeartbeats 16000000 in
theorem l7Mutate_spec (ys : List UInt8) (p : Int) (b : Nat) (a : List Int) (e : List Bool) (g : List Tr4) (hl : ys.length ≤ 2000) (h0_ : 0 ≤ p) (hp_ : p + 3 ≤ 1000000) (hS : AuS (a, e, g)) : SpecR Try.prog 130 [.ptr b 0, .st [li cI a, li cB e, li cT g]] (one b [li cY ys, .int .i64 p]) (fun c => ((zaao a e g p c).1.2, one b [li cY ys, .int .i64 (zaao a e g p c).2])) := by
  refine SpecR.of_walk Try.func130 rfl (by simp [Try.f130]) fun B => ?_
  obtain ⟨s1, s2, s3, s4⟩ := hS; dsimp only at s1 s2 s3 s4
  all_goals (repeat' (first
 | refine Qu ?_
 | refine Qc (id := 0) Zu [] (by kernel_rfl) ?_; simp [-zg, -zd, ↓Qb, ↓Qa, go_sem]; try (refine Xv 3 ?_; simp [go_sem])
 | refine Xo (id := 1) Zu mixed [] [3] (by kernel_rfl) (by kernel_rfl) (by simp [-zg, -zd, ↓Qb, ↓Qa, go_sem, (show a.length ≤ 9223372036854775807 by omega), (show 2 * a.length * 8 ≤ 281474976710656 by omega), (show e.length ≤ 9223372036854775807 by omega), (show 2 * e.length * 1 ≤ 281474976710656 by omega), (show 2 * e.length ≤ 281474976710656 by omega), (show g.length ≤ 9223372036854775807 by omega), (show 2 * g.length * 32 ≤ 281474976710656 by omega)]) ?_; simp [-zg, -zd, ↓Qb, ↓Qa, go_sem, (show a.length ≤ 9223372036854775807 by omega), (show 2 * a.length * 8 ≤ 281474976710656 by omega), (show e.length ≤ 9223372036854775807 by omega), (show 2 * e.length * 1 ≤ 281474976710656 by omega), (show 2 * e.length ≤ 281474976710656 by omega), (show g.length ≤ 9223372036854775807 by omega), (show 2 * g.length * 32 ≤ 281474976710656 by omega)]; try ((refine Zl 5 rfl fun ab hab => ?_); (have nba : ¬ b = ab := (by rintro rfl; simp [upd] at hab)); (clear hab); (refine Zp ab 2 (all := [.fr 1 a.length (cat cI a), .fr 1 e.length (cat cB e), .fr 4 g.length (cat cT g)]) (by simp [upd]) rfl fun zb cz jz hzb hcz hdz => ?_); (have nbz : ¬ b = zb := (by rintro rfl; simp [upd, nba] at hzb)); (have naz : ¬ ab = zb := (by rintro rfl; simp [upd] at hzb)); (clear hzb); (refine Qx (fun H1 => LM b ab zb ys a e g cz jz p H1) ⟨by simp [upd, nba, zS nba, nbz, zS nbz, naz, zS naz], by simp [upd, nba, zS nba, nbz, zS nbz, naz, zS naz], by simp [upd]⟩ fun H1 ⟨w1, w2, w3⟩ => ?_))
 | refine Qc (id := 2) Zu [] (by kernel_rfl) ?_; simp [-zg, -zd, ↓Qb, ↓Qa, go_sem, w1, hl, (show 0 ≤ p by omega), (show p ≤ 1000000 by omega), (show 0 ≤ p + 1 by omega), (show p + 1 ≤ 1000000 by omega)]; try ((generalize pkI ys p 40 = kk at *); (refine Qx (fun H2 => LM b ab zb ys a e g cz jz (p + 1) H2) ⟨by simp [upd, nba, zS nba, nbz, zS nbz, naz, zS naz], by simp [upd, nba, zS nba, nbz, zS nbz, naz, zS naz, w2], by simp [upd, nba, zS nba, nbz, zS nbz, naz, zS naz, w3]⟩ fun H2 ⟨w1, w2, w3⟩ => ?_))
 | refine Qc (id := 3) Zu [] (by kernel_rfl) ?_; simp [-zg, -zd, ↓Qb, ↓Qa, go_sem]
 | ((refine Zp ab 0 (all := [.fr 1 a.length (cat cI a), .fr 1 e.length (cat cB e), .sl zb 4 0 g.length cz]) w2 rfl fun xb cx jx hxb hcx hdx => ?_); (have nbx : ¬ b = xb := (by rintro rfl; simp [upd, nba, w1] at hxb)); (have nax : ¬ ab = xb := (by rintro rfl; simp [upd, w2] at hxb)); (have nzx : ¬ zb = xb := (by rintro rfl; simp [upd, zS naz, w3] at hxb)); (clear hxb)); refine Xr (id := 4) Zu mixed [(ab, [.sl xb 1 0 a.length cx, .fr 1 e.length (cat cB e), .sl zb 4 0 g.length cz])] [] [] (by kernel_rfl) (by kernel_rfl) (by simp [-zg, -zd, ↓Qb, ↓Qa, go_sem, w1, hl, nba, zS nba, nbz, zS nbz, naz, zS naz, nbx, zS nbx, nax, zS nax, nzx, zS nzx, (show 0 ≤ p + 1 by omega), (show p + 1 ≤ 1000000 by omega), (show 0 ≤ p + 1 + 1 by omega), (show p + 1 + 1 ≤ 1000000 by omega), (show a.length ≤ 9223372036854775806 by omega), (show 2 * (a.length + 1) * 8 ≤ 281474976710656 by omega), (show cx ≤ a.length + jx by omega)]) (by simp [-zg, -zd, ↓Qb, ↓Qa, go_sem, w1, hl, nba, zS nba, nbz, zS nbz, naz, zS naz, nbx, zS nbx, nax, zS nax, nzx, zS nzx, (show 0 ≤ p + 1 by omega), (show p + 1 ≤ 1000000 by omega), (show 0 ≤ p + 1 + 1 by omega), (show p + 1 + 1 ≤ 1000000 by omega), (show a.length ≤ 9223372036854775806 by omega), (show 2 * (a.length + 1) * 8 ≤ 281474976710656 by omega), (show cx ≤ a.length + jx by omega)]) ?_; simp [-zg, -zd, ↓Qb, ↓Qa, go_sem, w1, hl, nba, zS nba, nbz, zS nbz, naz, zS naz, nbx, zS nbx, nax, zS nax, nzx, zS nzx, (show 0 ≤ p + 1 by omega), (show p + 1 ≤ 1000000 by omega), (show 0 ≤ p + 1 + 1 by omega), (show p + 1 + 1 ≤ 1000000 by omega), (show a.length ≤ 9223372036854775806 by omega), (show 2 * (a.length + 1) * 8 ≤ 281474976710656 by omega), (show cx ≤ a.length + jx by omega)]; try ((generalize numI ys (p + 1) [0, -1, 64, 3] = vv at *); (refine Qx (fun H3 => LM b ab zb ys (a ++ [vv]) e g cz jz (p + 1 + 1) H3) ⟨by simp [upd, nba, zS nba, nbz, zS nbz, naz, zS naz, nbx, zS nbx, nax, zS nax], by simp [upd, nba, zS nba, nbz, zS nbz, naz, zS naz, nax, zS nax, Zg], by simp [upd, nba, zS nba, nbz, zS nbz, naz, zS naz, nzx, zS nzx, w3]⟩ fun H3 hM => ?_))
 | refine Qc (id := 5) Zu [] (by kernel_rfl) ?_; simp [-zg, -zd, ↓Qb, ↓Qa, go_sem]
 | refine Qc (id := 6) Zu [] (by kernel_rfl) ?_; simp [-zg, -zd, ↓Qb, ↓Qa, go_sem, w2]
 | ((have hc0 : 0 < g.length := (by omega))); refine Xr (id := 7) Zu mixed [(ab, [.fr 1 a.length (cat cI a), .fr 1 e.length (cat cB e), .sl zb 4 0 g.length cz])] [] [] (by kernel_rfl) (by kernel_rfl) (by simp [-zg, -zd, ↓Qb, ↓Qa, go_sem, w1, w2, w3, hl, nba, zS nba, nbz, zS nbz, naz, zS naz, (show 0 ≤ p + 1 by omega), (show p + 1 ≤ 1000000 by omega), (show 0 ≤ p + 1 + 1 by omega), (show p + 1 + 1 ≤ 1000000 by omega), hc0, (show 4 ≤ g.length * 4 + jz by omega), (show 2 < g.length * 4 + jz by omega), (show 3 ≤ g.length * 4 + jz by omega)]) (by simp [-zg, -zd, ↓Qb, ↓Qa, go_sem, w1, w2, w3, hl, nba, zS nba, nbz, zS nbz, naz, zS naz, (show 0 ≤ p + 1 by omega), (show p + 1 ≤ 1000000 by omega), (show 0 ≤ p + 1 + 1 by omega), (show p + 1 + 1 ≤ 1000000 by omega), hc0, (show 4 ≤ g.length * 4 + jz by omega), (show 2 < g.length * 4 + jz by omega), (show 3 ≤ g.length * 4 + jz by omega)]) ?_; simp [-zg, -zd, ↓Qb, ↓Qa, go_sem, w1, w2, w3, hl, nba, zS nba, nbz, zS nbz, naz, zS naz, (show 0 ≤ p + 1 by omega), (show p + 1 ≤ 1000000 by omega), (show 0 ≤ p + 1 + 1 by omega), (show p + 1 + 1 ≤ 1000000 by omega), hc0, (show 4 ≤ g.length * 4 + jz by omega), (show 2 < g.length * 4 + jz by omega), (show 3 ≤ g.length * 4 + jz by omega)]; try ((have hrv := Ut ys (p := p + 1) (by omega) (xs := [8, -1, 7]) (lo := -1) (hi := 8) (by simp) (by simp)); (generalize numI ys (p + 1) [8, -1, 7] = vv at *); (obtain ⟨g', hc1, hc2, hc3⟩ := set_cT g (zrP jz D.any) 2 vv (by omega)); (have hc4 : stSeg (cat cT g ++ zrP jz D.any) (2) [.int .i64 vv] = cat cT g' ++ zrP jz D.any := hc3); (refine Qx (fun H1 => LM b ab zb ys a e g' cz jz (p + 1 + 1) H1) ⟨by simp [upd, nba, zS nba, nbz, zS nbz, naz, zS naz], by simp [upd, nba, zS nba, nbz, zS nbz, naz, zS naz, w2, hc1], by simp [upd, nba, zS nba, nbz, zS nbz, naz, zS naz, hc4]⟩ fun H2 hM => ?_))
 | refine Qc (id := 8) Zu [] (by kernel_rfl) ?_; simp [-zg, -zd, ↓Qb, ↓Qa, go_sem]
 | refine Qc (id := 9) Zu [] (by kernel_rfl) ?_; simp [-zg, -zd, ↓Qb, ↓Qa, go_sem, w2]
 | ((have hc0 : 0 < g.length := (by omega))); refine Xr (id := 10) Zu mixed [(ab, [.fr 1 a.length (cat cI a), .fr 1 e.length (cat cB e), .sl zb 4 0 g.length cz])] [] [] (by kernel_rfl) (by kernel_rfl) (by simp [-zg, -zd, ↓Qb, ↓Qa, go_sem, w1, w2, w3, hl, nba, zS nba, nbz, zS nbz, naz, zS naz, (show 0 ≤ p + 1 by omega), (show p + 1 ≤ 1000000 by omega), (show 0 ≤ p + 1 + 1 by omega), (show p + 1 + 1 ≤ 1000000 by omega), hc0, (show 4 ≤ g.length * 4 + jz by omega), (show 3 < g.length * 4 + jz by omega)]) (by simp [-zg, -zd, ↓Qb, ↓Qa, go_sem, w1, w2, w3, hl, nba, zS nba, nbz, zS nbz, naz, zS naz, (show 0 ≤ p + 1 by omega), (show p + 1 ≤ 1000000 by omega), (show 0 ≤ p + 1 + 1 by omega), (show p + 1 + 1 ≤ 1000000 by omega), hc0, (show 4 ≤ g.length * 4 + jz by omega), (show 3 < g.length * 4 + jz by omega)]) ?_; simp [-zg, -zd, ↓Qb, ↓Qa, go_sem, w1, w2, w3, hl, nba, zS nba, nbz, zS nbz, naz, zS naz, (show 0 ≤ p + 1 by omega), (show p + 1 ≤ 1000000 by omega), (show 0 ≤ p + 1 + 1 by omega), (show p + 1 + 1 ≤ 1000000 by omega), hc0, (show 4 ≤ g.length * 4 + jz by omega), (show 3 < g.length * 4 + jz by omega)]; try ((have hrv := Ut ys (p := p + 1) (by omega) (xs := [-1, 0, 64, 9223372036854775807]) (lo := -1) (hi := 9223372036854775807) (by simp) (by simp)); (generalize numI ys (p + 1) [-1, 0, 64, 9223372036854775807] = vv at *); (obtain ⟨g', hc1, hc2, hc3⟩ := set_cT g (zrP jz D.any) 3 vv (by omega)); (have hc4 : stSeg (cat cT g ++ zrP jz D.any) (3) [.int .i64 vv] = cat cT g' ++ zrP jz D.any := hc3); (refine Qx (fun H1 => LM b ab zb ys a e g' cz jz (p + 1 + 1) H1) ⟨by simp [upd, nba, zS nba, nbz, zS nbz, naz, zS naz], by simp [upd, nba, zS nba, nbz, zS nbz, naz, zS naz, w2, hc1], by simp [upd, nba, zS nba, nbz, zS nbz, naz, zS naz, hc4]⟩ fun H2 hM => ?_))
 | refine Qc (id := 11) Zu [] (by kernel_rfl) ?_; simp [-zg, -zd, ↓Qb, ↓Qa, go_sem]
 | refine Qc (id := 12) Zu [] (by kernel_rfl) ?_; simp [-zg, -zd, ↓Qb, ↓Qa, go_sem]
 | refine Qc (id := 13) Zu [] (by kernel_rfl) ?_; simp [-zg, -zd, ↓Qb, ↓Qa, go_sem]
 | refine Qc (id := 14) Zu [] (by kernel_rfl) ?_; simp [-zg, -zd, ↓Qb, ↓Qa, go_sem, w2]
 | ((have hc0 : 0 < g.length := (by omega))); refine Xr (id := 15) Zu mixed [(ab, [.fr 1 a.length (cat cI a), .fr 1 e.length (cat cB e), .sl zb 4 0 g.length cz])] [] [5] (by kernel_rfl) (by kernel_rfl) (by simp [-zg, -zd, ↓Qb, ↓Qa, go_sem, w1, w2, w3, hl, nba, zS nba, nbz, zS nbz, naz, zS naz, (show 0 ≤ p + 1 by omega), (show p + 1 ≤ 1000000 by omega), (show 0 ≤ p + 1 + 1 by omega), (show p + 1 + 1 ≤ 1000000 by omega), hc0, Qk (x := (g.length : Int) - 1) (by omega) (by omega), (show 0 ≤ (g.length : Int) - 1 by omega), (show (g.length : Int) - 1 < (g.length : Int) by omega), (show ((g.length : Int) - 1).toNat = g.length - 1 by omega), (show (g.length - 1) * 4 + 4 ≤ g.length * 4 + jz by omega), (show (g.length - 1) * 4 + 1 < g.length * 4 + jz by omega), (show (1 : Int) ≤ (g.length : Int) by omega), (show (g.length - 1) * 4 + 1 + 1 ≤ g.length * 4 + jz by omega), (show g.length - 1 < g.length by omega)]) (by simp [-zg, -zd, ↓Qb, ↓Qa, go_sem, w1, w2, w3, hl, nba, zS nba, nbz, zS nbz, naz, zS naz, (show 0 ≤ p + 1 by omega), (show p + 1 ≤ 1000000 by omega), (show 0 ≤ p + 1 + 1 by omega), (show p + 1 + 1 ≤ 1000000 by omega), hc0, Qk (x := (g.length : Int) - 1) (by omega) (by omega), (show 0 ≤ (g.length : Int) - 1 by omega), (show (g.length : Int) - 1 < (g.length : Int) by omega), (show ((g.length : Int) - 1).toNat = g.length - 1 by omega), (show (g.length - 1) * 4 + 4 ≤ g.length * 4 + jz by omega), (show (g.length - 1) * 4 + 1 < g.length * 4 + jz by omega), (show (1 : Int) ≤ (g.length : Int) by omega), (show (g.length - 1) * 4 + 1 + 1 ≤ g.length * 4 + jz by omega), (show g.length - 1 < g.length by omega)]) ?_; simp [-zg, -zd, ↓Qb, ↓Qa, go_sem, w1, w2, w3, hl, nba, zS nba, nbz, zS nbz, naz, zS naz, (show 0 ≤ p + 1 by omega), (show p + 1 ≤ 1000000 by omega), (show 0 ≤ p + 1 + 1 by omega), (show p + 1 + 1 ≤ 1000000 by omega), hc0, Qk (x := (g.length : Int) - 1) (by omega) (by omega), (show 0 ≤ (g.length : Int) - 1 by omega), (show (g.length : Int) - 1 < (g.length : Int) by omega), (show ((g.length : Int) - 1).toNat = g.length - 1 by omega), (show (g.length - 1) * 4 + 4 ≤ g.length * 4 + jz by omega), (show (g.length - 1) * 4 + 1 < g.length * 4 + jz by omega), (show (1 : Int) ≤ (g.length : Int) by omega), (show (g.length - 1) * 4 + 1 + 1 ≤ g.length * 4 + jz by omega), (show g.length - 1 < g.length by omega)]; try ((have hrv := Ut ys (p := p + 1) (by omega) (xs := [8, -1, 0]) (lo := -1) (hi := 8) (by simp) (by simp)); (generalize numI ys (p + 1) [8, -1, 0] = vv at *); (obtain ⟨g', hc1, hc2, hc3⟩ := set_cT g (zrP jz D.any) ((g.length - 1) * 4 + 1) vv (by omega)); (have hc4 : stSeg (cat cT g ++ zrP jz D.any) (((g.length - 1) * 4 + 1)) [.int .i64 vv] = cat cT g' ++ zrP jz D.any := hc3); (refine Qx (fun H1 => LM b ab zb ys a e g' cz jz (p + 1 + 1) H1) ⟨by simp [upd, nba, zS nba, nbz, zS nbz, naz, zS naz], by simp [upd, nba, zS nba, nbz, zS nbz, naz, zS naz, w2, hc1], by simp [upd, nba, zS nba, nbz, zS nbz, naz, zS naz, hc4]⟩ fun H2 hM => ?_))
 | (first | (obtain ⟨t1, t2, t3⟩ := hM; refine Ja ab 2 (b' := zb) (sz := 4) (m := g'.length) (cp := cz) (all := [.fr 1 a.length (cat cI a), .fr 1 e.length (cat cB e), .sl zb 4 0 g'.length cz]) (cs := cat cT g' ++ zrP jz .any) t2 rfl naz t3 (by omega) (by simp [Qy]) (by simp [Qy, hc1]; omega) ?_; simp only [zabx (f := cT)]) | (obtain ⟨t1, t2, t3⟩ := hM; obtain ⟨a', ha'⟩ : ∃ a', a ++ [vv] = a' := ⟨_, rfl⟩; have hal : a'.length = a.length + 1 := (by rw [← ha']; simp); rw [ha'] at t2; refine Ja ab 2 (b' := zb) (sz := 4) (m := g.length) (cp := cz) (all := [.fr 1 a'.length (cat cI a'), .fr 1 e.length (cat cB e), .sl zb 4 0 g.length cz]) (cs := cat cT g ++ zrP jz .any) t2 rfl naz t3 (by omega) (by simp [Qy]) (by simp [Qy]; omega) ?_; simp only [zabx (f := cT)]) | (have t1 := w1; refine Ja ab 2 (b' := zb) (sz := 4) (m := g.length) (cp := cz) (all := [.fr 1 a.length (cat cI a), .fr 1 e.length (cat cB e), .sl zb 4 0 g.length cz]) (cs := cat cT g ++ zrP jz .any) w2 rfl naz w3 (by omega) (by simp [Qy]) (by simp [Qy]; omega) ?_; simp only [zabx (f := cT)])); refine Qc (id := 16) Zu [] (by kernel_rfl) ?_; simp [-zg, -zd, ↓Qb, ↓Qa, go_sem, nba, zS nba, nbz, zS nbz, naz, zS naz]
 | refine Qd (c := .tmp 21) ?_; simp [-zg, -zd, ↓Qb, ↓Qa, go_sem]; try first | (refine ⟨?_, ?_⟩ <;> refine zA ?_) | (refine ⟨fun c21 => ?_, fun c21 => ?_⟩ <;> (try simp [B_iff, B_not] at c21))
 | refine Qd (c := .tmp 31) ?_; simp [-zg, -zd, ↓Qb, ↓Qa, go_sem]; try first | (refine ⟨?_, ?_⟩ <;> refine zA ?_) | (refine ⟨fun c31 => ?_, fun c31 => ?_⟩ <;> (try simp [B_iff, B_not] at c31))
 | refine Qd (c := .tmp 36) ?_; simp [-zg, -zd, ↓Qb, ↓Qa, go_sem]; try first | (refine ⟨?_, ?_⟩ <;> refine zA ?_) | (refine ⟨fun c36 => ?_, fun c36 => ?_⟩ <;> (try simp [B_iff, B_not] at c36))
 | refine Qd (c := .tmp 44) ?_; simp [-zg, -zd, ↓Qb, ↓Qa, go_sem]; try first | (refine ⟨?_, ?_⟩ <;> refine zA ?_) | (refine ⟨fun c44 => ?_, fun c44 => ?_⟩ <;> (try simp [B_iff, B_not] at c44))
 | refine Qd (c := .tmp 49) ?_; simp [-zg, -zd, ↓Qb, ↓Qa, go_sem]; try first | (refine ⟨?_, ?_⟩ <;> refine zA ?_) | (refine ⟨fun c49 => ?_, fun c49 => ?_⟩ <;> (try simp [B_iff, B_not] at c49))
 | refine Qd (c := .tmp 57) ?_; simp [-zg, -zd, ↓Qb, ↓Qa, go_sem]; try first | (refine ⟨?_, ?_⟩ <;> refine zA ?_) | (refine ⟨fun c57 => ?_, fun c57 => ?_⟩ <;> (try simp [B_iff, B_not] at c57))
 | refine Qd (c := .tmp 60) ?_; simp [-zg, -zd, ↓Qb, ↓Qa, go_sem]; try first | (refine ⟨?_, ?_⟩ <;> refine zA ?_) | (refine ⟨fun c60 => ?_, fun c60 => ?_⟩ <;> (try simp [B_iff, B_not] at c60))
 | refine Qd (c := .tmp 65) ?_; simp [-zg, -zd, ↓Qb, ↓Qa, go_sem]; try first | (refine ⟨?_, ?_⟩ <;> refine zA ?_) | (refine ⟨fun c65 => ?_, fun c65 => ?_⟩ <;> (try simp [B_iff, B_not] at c65))
 | (refine Qe ?_)
 | (refine Qs ?_; simp [-zg, -zd, ↓Qb, ↓Qa, go_sem])
 | (refine Qr ?_; simp [-zg, -zd, ↓Qb, ↓Qa, go_sem])
 | (refine Qv ?_; try simp [-zg, -zd, ↓Qb, ↓Qa, go_sem, Try.results130])
 | (intro hx; refine zA ?_)
 | (intro hx; change retR _ _ _ _ _)
 | (refine ⟨?_, ?_⟩ <;> refine zA ?_)
 | (intro hx; constructor <;> intro hs)
 | (constructor <;> intro hs)
 | (refine ⟨?_, fun hs => ?_⟩; refine zA ?_)
 | (refine ⟨fun hs => ?_, ?_⟩; rotate_left; refine zA ?_; rotate_left)
 | ((fail_if_success change retR _ _ _ _ _); (exfalso; omega))))
  all_goals (first
 | (refine zaed _ _ _ _ _ _ (([], [], [])) (p + 1) ?_ ?_ ?_ ?_; (first | exact Or.inl rfl | exact Or.inr rfl); (focus (simp [-zg, -zd, ↓Qb, ↓Qa, go_sem, Try.results130, dat, datL, Xb, li, Xp, w1, nba, zS nba, nbz, zS nbz, naz, zS naz]; done)); (focus ((exact ⟨by simp, by simp, by simp, SmallT.nil⟩); done)); (focus (refine ⟨?_, ?_⟩ <;> omega)))
 | (refine zaed _ _ _ _ _ _ ((a, e, g')) (p + 1 + 1) ?_ ?_ ?_ ?_; (first | exact Or.inl rfl | exact Or.inr rfl); (focus (simp [-zg, -zd, ↓Qb, ↓Qa, go_sem, Try.results130, dat, Xb, li, Zf, t1, nba, zS nba, nbz, zS nbz, naz, zS naz]; done)); (focus ((exact ⟨by dsimp only; omega, by dsimp only; omega, by dsimp only; omega, hc2 s4 (by omega)⟩); done)); (focus (refine ⟨?_, ?_⟩ <;> omega)))
 | (refine zaed _ _ _ _ _ _ ((a', e, g)) (p + 1 + 1) ?_ ?_ ?_ ?_; (first | exact Or.inl rfl | exact Or.inr rfl); (focus (simp [-zg, -zd, ↓Qb, ↓Qa, go_sem, Try.results130, dat, Xb, li, Zf, t1, nba, zS nba, nbz, zS nbz, naz, zS naz]; done)); (focus ((exact ⟨by dsimp only; omega, by dsimp only; omega, by dsimp only; omega, s4⟩); done)); (focus (refine ⟨?_, ?_⟩ <;> omega)))
 | (refine zaed _ _ _ _ _ _ ((a, e, g)) (p + 1) ?_ ?_ ?_ ?_; (first | exact Or.inl rfl | exact Or.inr rfl); (focus (simp [-zg, -zd, ↓Qb, ↓Qa, go_sem, Try.results130, dat, Xb, li, Zf, t1, nba, zS nba, nbz, zS nbz, naz, zS naz]; done)); (focus ((exact ⟨by dsimp only; omega, by dsimp only; omega, by dsimp only; omega, s4⟩); done)); (focus (refine ⟨?_, ?_⟩ <;> omega)))
 | skip)
@[go_sem] def l7MutateC : Con := .rel fun args H => match args with
  | [.ptr b 0, .st [.list n_a c_a, .list n_e c_e, .list n_g c_g]] => match H b with
    | some [.list m cs, .int .i64 p] => ((Is cY m cs) ∧ (m ≤ 2000) ∧ (0 ≤ p) ∧ (p + 3 ≤ 1000000) ∧ (Is cI n_a c_a) ∧ (Is cB n_e c_e) ∧ (Is cT n_g c_g) ∧ (AuS ((de cI c_a), (de cB c_e), (de cT c_g))), fun c => (Un (Vd (de cI c_a) (de cB c_e) (de cT c_g) p c).1, upd H b (some [.list m cs, .int .i64 (Vd (de cI c_a) (de cB c_e) (de cT c_g) p c).2])))
    | _ => (False, fun _ => (.any, H))
  | _ => (False, fun _ => (.any, H))
theorem l7MutateC_ok : ConOk Try.prog 130 l7MutateC := by
  refine ⟨Qp Try.func130 (by decide) rfl, fun args H h => ?_⟩
  revert h
  dsimp only
  split
  · split
    · rename_i hH
      intro h
      obtain ⟨⟨ys, rfl, rfl⟩, hl, h0_, hp_, ⟨a, rfl, rfl⟩, ⟨e, rfl, rfl⟩, ⟨g, rfl, rfl⟩, hS⟩ := h
      try simp only [Qt] at *
      exact SpecR.enc ((l7Mutate_spec ys _ _ a e g hl h0_ hp_ hS).frame hH).shut fun c => Prod.ext (zamm _ _ _ hS _ _).2.symm rfl
    · intro h; exact h.elim
  · intro h
    exact h.elim
@[go_sem] def Γy28 : FuncId → Con := ext Γy27 130 l7MutateC
theorem Γy28_ok : ∀ g, ConOk Try.prog g (Γy28 g) := Qo Zu l7MutateC_ok

theorem AuS.of {x : Au} (h : x.1.length ≤ 5000 ∧ x.2.1.length ≤ 5000 ∧ x.2.2.length ≤ 5000 ∧ SmallT x.2.2) : AuS x := h
def AuM (x : Au) : Prop := x.1.length ≤ 5001 ∧ x.2.1.length ≤ 5000 ∧ x.2.2.length ≤ 5000 ∧ SmallT x.2.2
theorem AuM.nil : AuM ([], [], []) := ⟨by simp, by simp, by simp, SmallT.nil⟩
@[go_sem] def Γy29 : FuncId → Con := Γy28
theorem Γy29_ok : ∀ g, ConOk Try.prog g (Γy29 g) := Γy28_ok

@[go_sem] def Γy30 : FuncId → Con := Γy29
theorem Ww : ∀ g, ConOk Try.prog g (Γy30 g) := Γy29_ok

@[go_sem] theorem makeD_9z (x : D) : makeD [x] 9 = [x, x, x, x, x, x, x, x, x] := by rw [Jb]; rfl

@[go_sem] def Uu : List Int → D := fun x => li cI x
theorem l6Word_flat (x : List Int) : dat (Uu x) = Uu x := by simp [go_sem]
def Wq (n : Int) : List Int → Prop := fun x => (x.length : Int) = n
def l6Word_gd (n : Int) (x : (List Int) × D) : Prop := Wq n x.1 ∧ dat x.2 = Uu x.1
def zabu (n : Int) (p : Int) (c : Any) : ((List Int) × D) × Int := dsel (l6Word_gd n) ((zrP n.toNat 0 : List Int), Uu (zrP n.toNat 0)) 100 p c
def Zs (n : Int) (p : Int) (c : Any) : (List Int) × Int := ((zabu n p c).1.1, (zabu n p c).2)
theorem l6Word_okD (n : Int) (h0 : 0 ≤ n) (hn : n ≤ 100) (p : Int) (c : Any) : (Wq n (Zs n p c).1 ∧ p ≤ (Zs n p c).2 ∧ (Zs n p c).2 ≤ p + 100) ∧ dat (zabu n p c).1.2 = Uu (Zs n p c).1 := by
  have hx : Wq n (zrP n.toNat 0) := by simp [Wq]; omega
  have h := Yd (good := l6Word_gd n) (x0 := ((zrP n.toNat 0 : List Int), Uu (zrP n.toNat 0))) ⟨hx, l6Word_flat _⟩ (K := 100) (by omega) (p := p) c
  exact ⟨⟨h.1.1, h.2.1, h.2.2⟩, h.1.2⟩
theorem l6Word_ok (n : Int) (h0 : 0 ≤ n) (hn : n ≤ 100) (p : Int) (c : Any) : Wq n (Zs n p c).1 ∧ p ≤ (Zs n p c).2 ∧ (Zs n p c).2 ≤ p + 100 := (l6Word_okD n h0 hn p c).1
theorem l6Word_ret (n : Int) (ys : List UInt8) (p : Int) (b : Nat) {e_ : Exit} {S_ : St} (x : List Int) (p' : Int) (he_ : e_ = .ret ∨ e_ = .normal)
    (h1 : (Qf Try.prog S_ Try.f185.results.toList).1 ∧ dat (resD (Qf Try.prog S_ Try.f185.results.toList).2.1) = Uu x ∧ (Qf Try.prog S_ Try.f185.results.toList).2.2.H b = some [li cY ys, .int .i64 p']) (hg : Wq n x) (h2 : p ≤ p' ∧ p' ≤ p + 100) :
    retR Try.prog Try.f185 (fun c => ((zabu n p c).1.2, one b [li cY ys, .int .i64 (zabu n p c).2])) e_ S_ :=
  Wy (good := l6Word_gd n) (enc := fun x : (List Int) × D => x.2) (cells := fun q => [li cY ys, .int .i64 q]) (x, resD (Qf Try.prog S_ Try.f185.results.toList).2.1) p' he_ ⟨h1.1, rfl, h1.2.2⟩ ⟨hg, h1.2.1⟩ h2
set_option maxHeartbeats 8000000 in
theorem l6Word_spec (ys : List UInt8) (p : Int) (b : Nat) (n : Int) (hl : ys.length ≤ 2000) (h0_ : 0 ≤ p) (hp_ : p + 100 ≤ 1000000) (h0 : 0 ≤ n) (hn : n ≤ 100) : SpecR Try.prog 185 [.ptr b 0, .int .i64 n] (one b [li cY ys, .int .i64 p]) (fun c => ((zabu n p c).1.2, one b [li cY ys, .int .i64 (zabu n p c).2])) := by
  refine SpecR.of_walk Try.func185 rfl (by simp [Try.f185]) fun B => ?_
  (repeat' (first
 | refine Qu ?_
 | refine Qc (id := 0) Ww [] (by kernel_rfl) ?_; simp [-zg, -zd, ↓Qb, ↓Qa, go_sem]
 | refine Qc (id := 1) Ww [] (by kernel_rfl) ?_; simp [-zg, -zd, ↓Qb, ↓Qa, go_sem]
 | refine Qc (id := 2) Ww [] (by kernel_rfl) ?_; simp [-zg, -zd, ↓Qb, ↓Qa, go_sem]
 | refine Qc (id := 3) Ww [] (by kernel_rfl) ?_; simp [-zg, -zd, ↓Qb, ↓Qa, go_sem]
 | refine Qc (id := 5) Ww [] (by kernel_rfl) ?_; simp [-zg, -zd, ↓Qb, ↓Qa, go_sem, g3, hl, (show 0 ≤ q.2.1 by omega), (show q.2.1 ≤ 1000000 by omega), (show 0 ≤ q.2.1 + 1 by omega), (show q.2.1 + 1 ≤ 1000000 by omega), (show q.1.length ≤ 9223372036854775806 by omega), (show 2 * (q.1.length + 1) * 8 ≤ 281474976710656 by omega), Zg]; try ((generalize numI ys q.2.1 [0, 1, 2, 3, 1, 0, 5, 4, 7] = vv at *); (refine Qx (fun H2 => H2 b = some [.list ys.length (cat cY ys), .int .i64 (q.2.1 + 1)]) (by simp [upd]) fun H2 t3 => ?_))
 | refine Qc (id := 4) Ww [] (by kernel_rfl) ?_; simp [-zg, -zd, ↓Qb, ↓Qa, go_sem, wrapS (k := q.1.length) (by omega)]
 | refine Qc (id := 6) Ww [] (by kernel_rfl) ?_; simp [-zg, -zd, ↓Qb, ↓Qa, go_sem]
 | refine Qd (c := .tmp 10) ?_; simp [-zg, -zd, ↓Qb, ↓Qa, go_sem]; try first | (refine ⟨?_, ?_⟩ <;> refine zA ?_) | (refine ⟨fun c10 => ?_, fun c10 => ?_⟩ <;> (try simp [B_iff, B_not] at c10))
 | (refine Qe (id := 0) (Xa (ι := List Int × Int × Hp) (fun q : List Int × Int × Hp => ⟨(upd (upd (upd (upd (fun _ => .any) 0 (.ptr b 0)) 1 (.int .i64 n)) 5 (.fr 1 q.1.length (cat cI q.1))) 6 (.int .i64 (q.1.length : Int))), q.2.2⟩) (fun q => (q.1.length : Int) ≤ n ∧ q.2.1 = p + q.1.length ∧ q.2.2 b = some [.list ys.length (cat cY ys), .int .i64 (q.2.1)]) (fun q => (n - q.1.length).toNat) (([], p, one b [li cY ys, .int .i64 p])) ?_ ?_ ?_); exact ⟨by simpa using h0, by simp, by simp [one, upd, li]⟩; ((repeat' (first | exact Qh (by assumption) | exact Qj | refine Qg ?_ ?_ | refine Qi ?_)) <;> simp [-zg, -zd, ↓Qb, ↓Qa, go_sem, List.length_nil, Xp]); rintro q ⟨g1, g2, g3⟩)
 | (refine ⟨(q.1 ++ [vv], q.2.1 + 1, H2), ⟨by simp; omega, by simp; omega, t3⟩, by first | omega | (simp; done) | (simp; omega), ?_⟩; ((repeat' (first | exact Qh (by assumption) | exact Qj | refine Qg ?_ ?_ | refine Qi ?_)) <;> simp [-zg, -zd, ↓Qb, ↓Qa, go_sem, List.length_nil, Xp]))
 | (refine Qe ?_)
 | (refine Qs ?_; simp [-zg, -zd, ↓Qb, ↓Qa, go_sem])
 | (refine Qr ?_; simp [-zg, -zd, ↓Qb, ↓Qa, go_sem])
 | (refine Qv ?_; try simp [-zg, -zd, ↓Qb, ↓Qa, go_sem, Try.results185])
 | (intro hx; refine zA ?_)
 | (intro hx; change retR _ _ _ _ _)
 | (refine ⟨?_, ?_⟩ <;> refine zA ?_)
 | (intro hx; constructor <;> intro hs)
 | (constructor <;> intro hs)
 | (refine ⟨?_, fun hs => ?_⟩; refine zA ?_)
 | (refine ⟨fun hs => ?_, ?_⟩; rotate_left; refine zA ?_; rotate_left)))
  all_goals (first
 | (refine l6Word_ret _ _ _ _ (q.1) (q.2.1) ?_ ?_ ?_ ?_; (first | exact Or.inl rfl | exact Or.inr rfl); (focus (simp [-zg, -zd, ↓Qb, ↓Qa, go_sem, Try.results185, li, dat, Xb, Zf, g3]; done)); (focus ((((show (q.1.length : Int) = n); omega)); done)); (focus (refine ⟨?_, ?_⟩ <;> omega)))
 | skip)
@[go_sem] def l6WordC : Con := .rel fun args H => match args with
  | [.ptr b 0, .int .i64 n] => match H b with
    | some [.list m cs, .int .i64 p] => ((Is cY m cs) ∧ (m ≤ 2000) ∧ (0 ≤ p) ∧ (p + 100 ≤ 1000000) ∧ (0 ≤ n) ∧ (n ≤ 100), fun c => (Uu (Zs n p c).1, upd H b (some [.list m cs, .int .i64 (Zs n p c).2])))
    | _ => (False, fun _ => (.any, H))
  | _ => (False, fun _ => (.any, H))
theorem l6WordC_ok : ConOk Try.prog 185 l6WordC := by
  refine ⟨Qp Try.func185 (by decide) rfl, fun args H h => ?_⟩
  revert h
  dsimp only
  split
  · split
    · rename_i hH
      intro h
      obtain ⟨⟨ys, rfl, rfl⟩, hl, h0_, hp_, h0, hn⟩ := h
      try simp only [Qt] at *
      exact SpecR.enc ((l6Word_spec ys _ _ _ hl h0_ hp_ h0 hn).frame hH).shut fun c => Prod.ext (l6Word_okD _ h0 hn _ _).2.symm rfl
    · intro h; exact h.elim
  · intro h
    exact h.elim
@[go_sem] def Γy31 : FuncId → Con := ext Γy30 185 l6WordC
theorem zaik : ∀ g, ConOk Try.prog g (Γy31 g) := Qo Ww l6WordC_ok

@[go_sem] def sPz (x : Ints2) : D := .st [li cI x.1, li cI x.2]
@[go_sem] def Ur : Ints2 → D := sPz
theorem l6Lasso_flat (x : Ints2) : dat (Ur x) = Ur x := by simp [go_sem]
def zaaz  : Ints2 → Prop := fun x => x.1.length ≤ 5 ∧ 1 ≤ x.2.length ∧ x.2.length ≤ 8
def zamw  (x : (Ints2) × D) : Prop := zaaz x.1 ∧ dat x.2 = Ur x.1
def zaay  (p : Int) (c : Any) : ((Ints2) × D) × Int := dsel (zamw) ((([], [0]) : Ints2), Ur (([], [0]))) 210 p c
def Xm  (p : Int) (c : Any) : (Ints2) × Int := ((zaay p c).1.1, (zaay p c).2)
theorem zapd   (p : Int) (c : Any) : (zaaz (Xm p c).1 ∧ p ≤ (Xm p c).2 ∧ (Xm p c).2 ≤ p + 210) ∧ dat (zaay p c).1.2 = Ur (Xm p c).1 := by
  have hx : zaaz (([], [0])) := by simp [zaaz]
  have h := Yd (good := zamw) (x0 := ((([], [0]) : Ints2), Ur (([], [0])))) ⟨hx, l6Lasso_flat _⟩ (K := 210) (by omega) (p := p) c
  exact ⟨⟨h.1.1, h.2.1, h.2.2⟩, h.1.2⟩
theorem zamv   (p : Int) (c : Any) : zaaz (Xm p c).1 ∧ p ≤ (Xm p c).2 ∧ (Xm p c).2 ≤ p + 210 := (zapd  p c).1
theorem zapc  (ys : List UInt8) (p : Int) (b : Nat) {e_ : Exit} {S_ : St} (x : Ints2) (p' : Int) (he_ : e_ = .ret ∨ e_ = .normal)
    (h1 : (Qf Try.prog S_ Try.f133.results.toList).1 ∧ dat (resD (Qf Try.prog S_ Try.f133.results.toList).2.1) = Ur x ∧ (Qf Try.prog S_ Try.f133.results.toList).2.2.H b = some [li cY ys, .int .i64 p']) (hg : zaaz x) (h2 : p ≤ p' ∧ p' ≤ p + 210) :
    retR Try.prog Try.f133 (fun c => ((zaay p c).1.2, one b [li cY ys, .int .i64 (zaay p c).2])) e_ S_ :=
  Wy (good := zamw) (enc := fun x : (Ints2) × D => x.2) (cells := fun q => [li cY ys, .int .i64 q]) (x, resD (Qf Try.prog S_ Try.f133.results.toList).2.1) p' he_ ⟨h1.1, rfl, h1.2.2⟩ ⟨hg, h1.2.1⟩ h2
set_option maxHeartbeats 8000000 in
theorem l6Lasso_spec (ys : List UInt8) (p : Int) (b : Nat)  (hl : ys.length ≤ 2000) (h0_ : 0 ≤ p) (hp_ : p + 210 ≤ 1000000)  : SpecR Try.prog 133 [.ptr b 0] (one b [li cY ys, .int .i64 p]) (fun c => ((zaay p c).1.2, one b [li cY ys, .int .i64 (zaay p c).2])) := by
  refine SpecR.of_walk Try.func133 rfl (by simp [Try.f133]) fun B => ?_
  have hr1 := Ut ys (p := p) (by omega) (xs := [2, 0, 3, 1, 5]) (lo := 0) (hi := 5) (by simp) (by simp); obtain ⟨n1, hn1⟩ : ∃ n1, numI ys p [2, 0, 3, 1, 5] = n1 := ⟨_, rfl⟩; rw [hn1] at hr1; have u1 : ∀ c, 0 ≤ (Zs n1 (p + 1) c).2 ∧ (Zs n1 (p + 1) c).2 ≤ 1000000 ∧ 0 ≤ (Zs n1 (p + 1) c).2 + 1 ∧ (Zs n1 (p + 1) c).2 + 1 + 100 ≤ 1000000 ∧ 0 ≤ numI ys (Zs n1 (p + 1) c).2 [2, 1, 3, 4] ∧ numI ys (Zs n1 (p + 1) c).2 [2, 1, 3, 4] ≤ 100 := (fun c => by (have h := l6Word_ok n1 (by omega) (by omega) (p + 1) c); (have r := Ut ys (p := (Zs n1 (p + 1) c).2) (by omega) (xs := [2, 1, 3, 4]) (lo := 1) (hi := 4) (by simp) (by simp)); omega)
  all_goals (repeat' (first
 | refine Qu ?_
 | refine Qc (id := 0) zaik [] (by kernel_rfl) ?_; simp [-zg, -zd, ↓Qb, ↓Qa, go_sem]
 | refine Qc (id := 1) zaik [] (by kernel_rfl) ?_; simp [-zg, -zd, ↓Qb, ↓Qa, go_sem, hl, (show 0 ≤ p by omega), (show p ≤ 1000000 by omega), (show 0 ≤ p + 1 by omega), (show p + 1 ≤ 1000000 by omega), hn1, hr1, (show n1 ≤ 100 by omega), (show p + 1 + 100 ≤ 1000000 by omega), u1]; try ((intro c1 c1'); (have z0 := l6Word_ok n1 (by omega) (by omega) (p + 1) c1); (have u2 := u1 c1); (generalize Zs n1 (p + 1) c1 = z at *); (obtain ⟨st, p2⟩ := z); (dsimp only at z0 u2 ⊢); (simp only [Wq] at z0); (have r := Ut ys (p := p2) (by omega) (xs := [2, 1, 3, 4]) (lo := 1) (hi := 4) (by simp) (by simp)); (generalize numI ys p2 [2, 1, 3, 4] = n2 at *); (have y0 := l6Word_ok n2 (by omega) (by omega) (p2 + 1) c1'); (generalize Zs n2 (p2 + 1) c1' = y at *); (obtain ⟨lo, p3⟩ := y); (dsimp only at y0 ⊢); (simp only [Wq] at y0); (clear u1))
 | refine Qc (id := 2) zaik [] (by kernel_rfl) ?_; simp [-zg, -zd, ↓Qb, ↓Qa, go_sem, hl, (show 0 ≤ p3 by omega), (show p3 ≤ 1000000 by omega), (show 0 ≤ p3 + 1 by omega), (show p3 + 1 ≤ 1000000 by omega)]
 | ((refine Zl 3 rfl fun lb hlb => ?_); (have nbl : ¬ b = lb := (by rintro rfl; simp [upd] at hlb)); (clear hlb); (refine Qx (fun H1 => H1 b = some [.list ys.length (cat cY ys), .int .i64 (p3 + 1)] ∧ H1 lb = some [li cI st, li cI lo]) ⟨by simp [upd, nbl], by simp [upd, li]⟩ fun H1 ⟨w1, w2⟩ => ?_)); refine Xo (id := 3) zaik mixed [] [3] (by kernel_rfl) (by kernel_rfl) (by simp [-zg, -zd, ↓Qb, ↓Qa, go_sem, w1, w2, nbl, zS nbl, (show lo.length ≤ 9223372036854775807 by omega), (show 2 * lo.length * 8 ≤ 281474976710656 by omega), (show lo.length + lo.length ≤ 9223372036854775807 by omega), (show 2 * (lo.length + lo.length) * 8 ≤ 281474976710656 by omega)]) ?_; simp [-zg, -zd, ↓Qb, ↓Qa, go_sem, w1, w2, nbl, zS nbl, (show lo.length ≤ 9223372036854775807 by omega), (show 2 * lo.length * 8 ≤ 281474976710656 by omega), (show lo.length + lo.length ≤ 9223372036854775807 by omega), (show 2 * (lo.length + lo.length) * 8 ≤ 281474976710656 by omega)]
 | (first | (have z_ := nbl) | (refine Xv 3 ?_; simp [go_sem, dat])); refine Qc (id := 4) zaik [] (by kernel_rfl) ?_; simp [-zg, -zd, ↓Qb, ↓Qa, go_sem]
 | refine Qd (c := .tmp 17) ?_; simp [-zg, -zd, ↓Qb, ↓Qa, go_sem]; try first | (refine ⟨?_, ?_⟩ <;> refine zA ?_) | (refine ⟨fun c17 => ?_, fun c17 => ?_⟩ <;> (try simp [B_iff, B_not] at c17))
 | (refine Qe ?_)
 | (refine Qs ?_; simp [-zg, -zd, ↓Qb, ↓Qa, go_sem])
 | (refine Qr ?_; simp [-zg, -zd, ↓Qb, ↓Qa, go_sem])
 | (refine Qv ?_; try simp [-zg, -zd, ↓Qb, ↓Qa, go_sem, Try.results133])
 | (intro hx; refine zA ?_)
 | (intro hx; change retR _ _ _ _ _)
 | (refine ⟨?_, ?_⟩ <;> refine zA ?_)
 | (intro hx; constructor <;> intro hs)
 | (constructor <;> intro hs)
 | (refine ⟨?_, fun hs => ?_⟩; refine zA ?_)
 | (refine ⟨fun hs => ?_, ?_⟩; rotate_left; refine zA ?_; rotate_left)))
  all_goals (first
 | (refine zapc _ _ _ ((st, lo)) (p3 + 1) ?_ ?_ ?_ ?_; (first | exact Or.inl rfl | exact Or.inr rfl); (focus (simp [-zg, -zd, ↓Qb, ↓Qa, go_sem, Try.results133, dat, Xb, li, Zf]; done)); (focus ((exact ⟨by dsimp only; omega, by dsimp only; omega, by dsimp only; omega⟩); done)); (focus (refine ⟨?_, ?_⟩ <;> omega)))
 | (refine zapc _ _ _ ((st, lo ++ lo)) (p3 + 1) ?_ ?_ ?_ ?_; (first | exact Or.inl rfl | exact Or.inr rfl); (focus (simp [-zg, -zd, ↓Qb, ↓Qa, go_sem, Try.results133, dat, Xb, li, Zf, Zt, w1, nbl, zS nbl]; done)); (focus ((exact ⟨by dsimp only; omega, by simp; omega, by simp; omega⟩); done)); (focus (refine ⟨?_, ?_⟩ <;> omega)))
 | skip)
@[go_sem] def l6LassoC : Con := .rel fun args H => match args with
  | [.ptr b 0] => match H b with
    | some [.list m cs, .int .i64 p] => ((Is cY m cs) ∧ (m ≤ 2000) ∧ (0 ≤ p) ∧ (p + 210 ≤ 1000000), fun c => (Ur (Xm p c).1, upd H b (some [.list m cs, .int .i64 (Xm p c).2])))
    | _ => (False, fun _ => (.any, H))
  | _ => (False, fun _ => (.any, H))
theorem l6LassoC_ok : ConOk Try.prog 133 l6LassoC := by
  refine ⟨Qp Try.func133 (by decide) rfl, fun args H h => ?_⟩
  revert h
  dsimp only
  split
  · split
    · rename_i hH
      intro h
      obtain ⟨⟨ys, rfl, rfl⟩, hl, h0_, hp_⟩ := h
      try simp only [Qt] at *
      exact SpecR.enc ((l6Lasso_spec ys _ _ hl h0_ hp_ ).frame hH).shut fun c => Prod.ext (zapd  _ _).2.symm rfl
    · intro h; exact h.elim
  · intro h
    exact h.elim
@[go_sem] def Γy32 : FuncId → Con := ext Γy31 133 l6LassoC
theorem Jq : ∀ g, ConOk Try.prog g (Γy32 g) := Qo zaik l6LassoC_ok

structure LZ where
  s : List Int
  q : Int
  H : Hp
def LZi (b qb y : Nat) (ys : List UInt8) (e : List Int) (c2 j2 : Nat) (p0 : Int) (m0 : Nat) (r : LZ) : Prop := r.s.length ≤ 200 ∧ m0 ≤ r.s.length ∧ p0 ≤ r.q ∧ r.q ≤ p0 + (r.s.length - m0 : Int) ∧ r.H b = some [.list ys.length (cat cY ys), .int .i64 (r.q)] ∧ r.H qb = some [.fr 1 r.s.length (cat cI r.s), .sl y 1 0 e.length c2] ∧ r.H y = some (cat cI e ++ zrP j2 .any)

@[go_sem] def Up : Ints2 → D := sPz
theorem l6Mutate_flat (x : Ints2) : dat (Up x) = Up x := by simp [go_sem]
def zabf (a : List Int) (e : List Int) : Ints2 → Prop := fun x => x.1.length ≤ 300 ∧ x.2.length ≤ 300
def zaja (a : List Int) (e : List Int) (x : (Ints2) × D) : Prop := zabf a e x.1 ∧ dat x.2 = Up x.1
def zaar (a : List Int) (e : List Int) (p : Int) (c : Any) : ((Ints2) × D) × Int := dsel (zaja a e) ((([], []) : Ints2), Up (([], []))) 210 p c
def Ve (a : List Int) (e : List Int) (p : Int) (c : Any) : (Ints2) × Int := ((zaar a e p c).1.1, (zaar a e p c).2)
theorem zamu (a : List Int) (e : List Int) (hS : a.length ≤ 100 ∧ 1 ≤ e.length ∧ e.length ≤ 100) (p : Int) (c : Any) : (zabf a e (Ve a e p c).1 ∧ p ≤ (Ve a e p c).2 ∧ (Ve a e p c).2 ≤ p + 210) ∧ dat (zaar a e p c).1.2 = Up (Ve a e p c).1 := by
  have hx : zabf a e (([], [])) := by simp [zabf]
  have h := Yd (good := zaja a e) (x0 := ((([], []) : Ints2), Up (([], [])))) ⟨hx, l6Mutate_flat _⟩ (K := 210) (by omega) (p := p) c
  exact ⟨⟨h.1.1, h.2.1, h.2.2⟩, h.1.2⟩
theorem l6Mutate_ok (a : List Int) (e : List Int) (hS : a.length ≤ 100 ∧ 1 ≤ e.length ∧ e.length ≤ 100) (p : Int) (c : Any) : zabf a e (Ve a e p c).1 ∧ p ≤ (Ve a e p c).2 ∧ (Ve a e p c).2 ≤ p + 210 := (zamu a e hS p c).1
theorem zadc (a : List Int) (e : List Int) (ys : List UInt8) (p : Int) (b : Nat) {e_ : Exit} {S_ : St} (x : Ints2) (p' : Int) (he_ : e_ = .ret ∨ e_ = .normal)
    (h1 : (Qf Try.prog S_ Try.f132.results.toList).1 ∧ dat (resD (Qf Try.prog S_ Try.f132.results.toList).2.1) = Up x ∧ (Qf Try.prog S_ Try.f132.results.toList).2.2.H b = some [li cY ys, .int .i64 p']) (hg : zabf a e x) (h2 : p ≤ p' ∧ p' ≤ p + 210) :
    retR Try.prog Try.f132 (fun c => ((zaar a e p c).1.2, one b [li cY ys, .int .i64 (zaar a e p c).2])) e_ S_ :=
  Wy (good := zaja a e) (enc := fun x : (Ints2) × D => x.2) (cells := fun q => [li cY ys, .int .i64 q]) (x, resD (Qf Try.prog S_ Try.f132.results.toList).2.1) p' he_ ⟨h1.1, rfl, h1.2.2⟩ ⟨hg, h1.2.1⟩ h2
set_option maxHeartbeats 16000000 in
theorem l6Mutate_spec (ys : List UInt8) (p : Int) (b : Nat) (a : List Int) (e : List Int) (hl : ys.length ≤ 2000) (h0_ : 0 ≤ p) (hp_ : p + 210 ≤ 1000000) (hS : a.length ≤ 100 ∧ 1 ≤ e.length ∧ e.length ≤ 100) : SpecR Try.prog 132 [.ptr b 0, .st [li cI a, li cI e]] (one b [li cY ys, .int .i64 p]) (fun c => ((zaar a e p c).1.2, one b [li cY ys, .int .i64 (zaar a e p c).2])) := by
  refine SpecR.of_walk Try.func132 rfl (by simp [Try.f132]) fun B => ?_
  obtain ⟨s1, s2, s3⟩ := hS
  all_goals (repeat' (first
 | refine Qu ?_
 | refine Qc (id := 0) Jq [] (by kernel_rfl) ?_; simp [-zg, -zd, ↓Qb, ↓Qa, go_sem]; try (refine Xv 3 ?_; simp [go_sem])
 | refine Xo (id := 1) Jq mixed [] [3] (by kernel_rfl) (by kernel_rfl) (by simp [-zg, -zd, ↓Qb, ↓Qa, go_sem, (show a.length ≤ 9223372036854775807 by omega), (show 2 * a.length * 8 ≤ 281474976710656 by omega), (show e.length ≤ 9223372036854775807 by omega), (show 2 * e.length * 8 ≤ 281474976710656 by omega)]) ?_; simp [-zg, -zd, ↓Qb, ↓Qa, go_sem, (show a.length ≤ 9223372036854775807 by omega), (show 2 * a.length * 8 ≤ 281474976710656 by omega), (show e.length ≤ 9223372036854775807 by omega), (show 2 * e.length * 8 ≤ 281474976710656 by omega)]; try ((refine AW_box2z 5 rfl fun qb x y j1 j2 c1 c2 hqb hx hy n1 n2 n3 hc1 hd1 hc2 hd2 => ?_); (have nbq : ¬ b = qb := (by rintro rfl; simp [upd] at hqb)); (have nbx : ¬ b = x := (by rintro rfl; simp [upd] at hx)); (have nby : ¬ b = y := (by rintro rfl; simp [upd] at hy)); (clear hqb hx hy); (refine Qx (fun H1 => H1 b = some [.list ys.length (cat cY ys), .int .i64 (p)] ∧ H1 qb = some [.sl x 1 0 a.length c1, .sl y 1 0 e.length c2] ∧ H1 x = some (cat cI a ++ zrP j1 .any) ∧ H1 y = some (cat cI e ++ zrP j2 .any)) ⟨by simp [upd, nbq, zS nbq, nbx, zS nbx, nby, zS nby, n1, zS n1, n2, zS n2, n3, zS n3], by simp [upd, nbq, zS nbq, nbx, zS nbx, nby, zS nby, n1, zS n1, n2, zS n2, n3, zS n3], by simp [upd, nbq, zS nbq, nbx, zS nbx, nby, zS nby, n1, zS n1, n2, zS n2, n3, zS n3], by simp [upd, nbq, zS nbq, nbx, zS nbx, nby, zS nby, n1, zS n1, n2, zS n2, n3, zS n3]⟩ fun H1 ⟨w1, w2, w3, w4⟩ => ?_))
 | refine Qc (id := 2) Jq [] (by kernel_rfl) ?_; simp [-zg, -zd, ↓Qb, ↓Qa, go_sem, w1, hl, (show 0 ≤ p by omega), (show p ≤ 1000000 by omega), (show 0 ≤ p + 1 by omega), (show p + 1 ≤ 1000000 by omega)]; try ((generalize pkI ys p 40 = kk at *); (refine Qx (fun H2 => H2 b = some [.list ys.length (cat cY ys), .int .i64 (p + 1)] ∧ H2 qb = some [.sl x 1 0 a.length c1, .sl y 1 0 e.length c2] ∧ H2 x = some (cat cI a ++ zrP j1 .any) ∧ H2 y = some (cat cI e ++ zrP j2 .any)) ⟨by simp [upd, nbq, zS nbq, nbx, zS nbx, nby, zS nby, n1, zS n1, n2, zS n2, n3, zS n3], by simp [upd, nbq, zS nbq, nbx, zS nbx, nby, zS nby, n1, zS n1, n2, zS n2, n3, zS n3, w2], by simp [upd, nbq, zS nbq, nbx, zS nbx, nby, zS nby, n1, zS n1, n2, zS n2, n3, zS n3, w3], by simp [upd, nbq, zS nbq, nbx, zS nbx, nby, zS nby, n1, zS n1, n2, zS n2, n3, zS n3, w4]⟩ fun H2 ⟨w1, w2, w3, w4⟩ => ?_))
 | refine Qc (id := 3) Jq [] (by kernel_rfl) ?_; simp [-zg, -zd, ↓Qb, ↓Qa, go_sem]
 | refine Qc (id := 4) Jq [] (by kernel_rfl) ?_; simp [-zg, -zd, ↓Qb, ↓Qa, go_sem, w1, w2, nbq, zS nbq, nbx, zS nbx, nby, zS nby, n1, zS n1, n2, zS n2, n3, zS n3]; try ((have hz0 : True := trivial); (refine Qx (fun H3 => H3 b = some [.list ys.length (cat cY ys), .int .i64 (p + 1)] ∧ H3 qb = some [.sl x 1 0 a.length c1, .fr 1 0 []] ∧ H3 x = some (cat cI a ++ zrP j1 .any)) ⟨by simp [upd, nbq, zS nbq, nbx, zS nbx, nby, zS nby, n1, zS n1, n2, zS n2, n3, zS n3, w1], by simp [upd, nbq, zS nbq, nbx, zS nbx, nby, zS nby, n1, zS n1, n2, zS n2, n3, zS n3], by simp [upd, nbq, zS nbq, nbx, zS nbx, nby, zS nby, n1, zS n1, n2, zS n2, n3, zS n3, w3]⟩ fun H3 ⟨t1, t2, t3⟩ => ?_))
 | refine Qc (id := 5) Jq [] (by kernel_rfl) ?_; simp [-zg, -zd, ↓Qb, ↓Qa, go_sem]
 | ((have he0 : 0 < e.length := (by omega))); refine Xr (id := 6) Jq mixed [(qb, [.sl x 1 0 a.length c1, .sl y 1 0 e.length c2])] [] [] (by kernel_rfl) (by kernel_rfl) (by simp [-zg, -zd, ↓Qb, ↓Qa, go_sem, w1, w2, w3, w4, hl, nbq, zS nbq, nbx, zS nbx, nby, zS nby, n1, zS n1, n2, zS n2, n3, zS n3, (show 0 ≤ p + 1 by omega), (show p + 1 ≤ 1000000 by omega), (show 0 ≤ p + 1 + 1 by omega), (show p + 1 + 1 ≤ 1000000 by omega), he0, (show 0 < e.length + j2 by omega), (show 1 ≤ e.length + j2 by omega)]) (by simp [-zg, -zd, ↓Qb, ↓Qa, go_sem, w1, w2, w3, w4, hl, nbq, zS nbq, nbx, zS nbx, nby, zS nby, n1, zS n1, n2, zS n2, n3, zS n3, (show 0 ≤ p + 1 by omega), (show p + 1 ≤ 1000000 by omega), (show 0 ≤ p + 1 + 1 by omega), (show p + 1 + 1 ≤ 1000000 by omega), he0, (show 0 < e.length + j2 by omega), (show 1 ≤ e.length + j2 by omega)]) ?_; simp [-zg, -zd, ↓Qb, ↓Qa, go_sem, w1, w2, w3, w4, hl, nbq, zS nbq, nbx, zS nbx, nby, zS nby, n1, zS n1, n2, zS n2, n3, zS n3, (show 0 ≤ p + 1 by omega), (show p + 1 ≤ 1000000 by omega), (show 0 ≤ p + 1 + 1 by omega), (show p + 1 + 1 ≤ 1000000 by omega), he0, (show 0 < e.length + j2 by omega), (show 1 ≤ e.length + j2 by omega)]; try ((generalize numI ys (p + 1) [8, -1, 7, 9223372036854775807] = vv at *); (have hel : (e.set 0 vv).length = e.length := (by simp)); (refine Qx (fun H3 => H3 b = some [.list ys.length (cat cY ys), .int .i64 (p + 1 + 1)] ∧ H3 qb = some [.sl x 1 0 a.length c1, .sl y 1 0 (e.set 0 vv).length c2] ∧ H3 x = some (cat cI a ++ zrP j1 .any) ∧ H3 y = some (cat cI (e.set 0 vv) ++ zrP j2 .any)) ⟨by simp [upd, nbq, zS nbq, nbx, zS nbx, nby, zS nby, n1, zS n1, n2, zS n2, n3, zS n3], by simp [upd, nbq, zS nbq, nbx, zS nbx, nby, zS nby, n1, zS n1, n2, zS n2, n3, zS n3, w2], by simp [upd, nbq, zS nbq, nbx, zS nbx, nby, zS nby, n1, zS n1, n2, zS n2, n3, zS n3, w3], by simp [upd, nbq, zS nbq, nbx, zS nbx, nby, zS nby, n1, zS n1, n2, zS n2, n3, zS n3]⟩ fun H3 ⟨t1, t2, t3, t4⟩ => ?_); (generalize e.set 0 vv = e8 at *))
 | refine Qc (id := 7) Jq [] (by kernel_rfl) ?_; simp [-zg, -zd, ↓Qb, ↓Qa, go_sem]
 | refine Xr (id := 8) Jq mixed [(qb, [.sl x 1 0 a.length c1, .sl y 1 0 e.length c2])] [] [] (by kernel_rfl) (by kernel_rfl) (by simp [-zg, -zd, ↓Qb, ↓Qa, go_sem, w1, w2, w3, w4, hl, nbq, zS nbq, nbx, zS nbx, nby, zS nby, n1, zS n1, n2, zS n2, n3, zS n3, (show 0 ≤ p + 1 by omega), (show p + 1 ≤ 1000000 by omega), (show 0 ≤ p + 1 + 1 by omega), (show p + 1 + 1 ≤ 1000000 by omega), (show a.length ≤ 9223372036854775806 by omega), (show 2 * (a.length + 1) * 8 ≤ 281474976710656 by omega), (show c1 ≤ a.length + j1 by omega), (show a.length ≤ a.length + j1 by omega)]) (by simp [-zg, -zd, ↓Qb, ↓Qa, go_sem, w1, w2, w3, w4, hl, nbq, zS nbq, nbx, zS nbx, nby, zS nby, n1, zS n1, n2, zS n2, n3, zS n3, (show 0 ≤ p + 1 by omega), (show p + 1 ≤ 1000000 by omega), (show 0 ≤ p + 1 + 1 by omega), (show p + 1 + 1 ≤ 1000000 by omega), (show a.length ≤ 9223372036854775806 by omega), (show 2 * (a.length + 1) * 8 ≤ 281474976710656 by omega), (show c1 ≤ a.length + j1 by omega), (show a.length ≤ a.length + j1 by omega)]) ?_; simp [-zg, -zd, ↓Qb, ↓Qa, go_sem, w1, w2, w3, w4, hl, nbq, zS nbq, nbx, zS nbx, nby, zS nby, n1, zS n1, n2, zS n2, n3, zS n3, (show 0 ≤ p + 1 by omega), (show p + 1 ≤ 1000000 by omega), (show 0 ≤ p + 1 + 1 by omega), (show p + 1 + 1 ≤ 1000000 by omega), (show a.length ≤ 9223372036854775806 by omega), (show 2 * (a.length + 1) * 8 ≤ 281474976710656 by omega), (show c1 ≤ a.length + j1 by omega), (show a.length ≤ a.length + j1 by omega)]; try ((generalize numI ys (p + 1) [8, 0, -9223372036854775808] = vv at *); (have hal : (a ++ [vv]).length = a.length + 1 := (by simp)); (refine Qx (fun H3 => H3 b = some [.list ys.length (cat cY ys), .int .i64 (p + 1 + 1)] ∧ H3 qb = some [.fr 1 (a ++ [vv]).length (cat cI (a ++ [vv])), .sl y 1 0 e.length c2] ∧ H3 y = some (cat cI e ++ zrP j2 .any)) ⟨by simp [upd, nbq, zS nbq, nbx, zS nbx, nby, zS nby, n1, zS n1, n2, zS n2, n3, zS n3], by simp [upd, nbq, zS nbq, nbx, zS nbx, nby, zS nby, n1, zS n1, n2, zS n2, n3, zS n3, Zg], by simp [upd, nbq, zS nbq, nbx, zS nbx, nby, zS nby, n1, zS n1, n2, zS n2, n3, zS n3, w4]⟩ fun H3 ⟨t1, t2, t4⟩ => ?_); (generalize a ++ [vv] = a8 at *))
 | refine Qc (id := 9) Jq [] (by kernel_rfl) ?_; simp [-zg, -zd, ↓Qb, ↓Qa, go_sem]
 | ((obtain ⟨s, qq, HH⟩ := r); (obtain ⟨f1, f2, f3, f4, t1, t2, t4⟩ := hr); (dsimp only at f1 f2 f3 f4 t1 t2 t4); (have hk2 := zaku ys (p := qq) (by omega) (n := 2) (by omega)); (refine Zp qb 0 (all := [.fr 1 s.length (cat cI s), .sl y 1 0 e.length c2]) t2 rfl fun xb cp jj hx2 f5 f6 => ?_); (have m1 : ¬ xb = b := (by rintro rfl; simp [upd, nbq, zS nbq, t1] at hx2)); (have m2 : ¬ xb = qb := (by rintro rfl; simp [upd, t2] at hx2)); (have m3 : ¬ xb = y := (by rintro rfl; simp [upd, n2, zS n2, t4] at hx2)); (clear hx2); (refine Qx (fun H3 => H3 b = some [.list ys.length (cat cY ys), .int .i64 (qq)] ∧ H3 qb = some [.sl xb 1 0 s.length cp, .sl y 1 0 e.length c2] ∧ H3 y = some (cat cI e ++ zrP j2 .any) ∧ H3 xb = some (cat cI s ++ zrP jj .any)) ⟨by simp [upd, m1, zS m1, nbq, zS nbq, t1], by simp [upd, m2, zS m2], by simp [upd, m3, zS m3, n2, zS n2, t4], by simp [upd]⟩ fun H4 ⟨r1, r2, r4, r3⟩ => ?_)); refine Xr (id := 10) Jq mixed [(qb, [.sl xb 1 0 s.length cp, .sl y 1 0 e.length c2])] [] [] (by kernel_rfl) (by kernel_rfl) (by simp [-zg, -zd, ↓Qb, ↓Qa, go_sem, r1, r2, hl, nbq, zS nbq, nbx, zS nbx, nby, zS nby, n1, zS n1, n2, zS n2, n3, zS n3, (show 0 ≤ qq by omega), (show qq ≤ 1000000 by omega), (show 0 ≤ qq + 1 by omega), (show qq + 1 ≤ 1000000 by omega), Qk (x := 80 + pkI ys qq 2) (by omega) (by omega)]) (by simp [-zg, -zd, ↓Qb, ↓Qa, go_sem, r1, r2, hl, nbq, zS nbq, nbx, zS nbx, nby, zS nby, n1, zS n1, n2, zS n2, n3, zS n3, (show 0 ≤ qq by omega), (show qq ≤ 1000000 by omega), (show 0 ≤ qq + 1 by omega), (show qq + 1 ≤ 1000000 by omega), Qk (x := 80 + pkI ys qq 2) (by omega) (by omega)]) ?_; simp [-zg, -zd, ↓Qb, ↓Qa, go_sem, r1, r2, hl, nbq, zS nbq, nbx, zS nbx, nby, zS nby, n1, zS n1, n2, zS n2, n3, zS n3, (show 0 ≤ qq by omega), (show qq ≤ 1000000 by omega), (show 0 ≤ qq + 1 by omega), (show qq + 1 ≤ 1000000 by omega), Qk (x := 80 + pkI ys qq 2) (by omega) (by omega)]; try ((generalize pkI ys qq 2 = k2 at *); (refine Qx (fun H3 => H3 b = some [.list ys.length (cat cY ys), .int .i64 (qq + 1)] ∧ H3 qb = some [.sl xb 1 0 s.length cp, .sl y 1 0 e.length c2] ∧ H3 y = some (cat cI e ++ zrP j2 .any) ∧ H3 xb = some (cat cI s ++ zrP jj .any)) ⟨by simp [upd], by simp [upd, zS nbq, r2], by simp [upd, zS nby, r4], by simp [upd, m1, r3]⟩ fun H5 ⟨u1, u2, u4, u3⟩ => ?_))
 | refine Qc (id := 11) Jq [] (by kernel_rfl) ?_; simp [-zg, -zd, ↓Qb, ↓Qa, go_sem, u1, u2, u3, m2, zS m2, (show s.length ≤ 9223372036854775806 by omega), (show 2 * (s.length + 1) * 8 ≤ 281474976710656 by omega), (show cp ≤ s.length + jj by omega), (show s.length ≤ s.length + jj by omega), Zg]
 | (first | (have z_ := hz0; (refine Ja qb 0 (b' := x) (sz := 1) (m := a.length) (cp := c1) (all := [.sl x 1 0 a.length c1, .fr 1 0 []]) (cs := cat cI a ++ zrP j1 D.any) (by simp [upd, nbq, zS nbq, nbx, zS nbx, nby, zS nby, n1, zS n1, n2, zS n2, n3, zS n3, t2]) rfl n1 (by simp [upd, nbq, zS nbq, nbx, zS nbx, nby, zS nby, n1, zS n1, n2, zS n2, n3, zS n3, t3]) (by omega) (by simp [Qy]) (by simp [Qy]; omega) ?_); (simp only [Nat.mul_one, Xw])) | ((refine Ja qb 0 (b' := x) (sz := 1) (m := a.length) (cp := c1) (all := [.sl x 1 0 a.length c1, .sl y 1 0 e8.length c2]) (cs := cat cI a ++ zrP j1 D.any) (by simp [upd, nbq, zS nbq, nbx, zS nbx, nby, zS nby, n1, zS n1, n2, zS n2, n3, zS n3, t2]) rfl n1 (by simp [upd, nbq, zS nbq, nbx, zS nbx, nby, zS nby, n1, zS n1, n2, zS n2, n3, zS n3, t3]) (by omega) (by simp [Qy]) (by simp [Qy]; omega) ?_); (simp only [Nat.mul_one, Xw]); (refine Ja qb 1 (b' := y) (sz := 1) (m := e8.length) (cp := c2) (all := [.fr 1 a.length (cat cI a), .sl y 1 0 e8.length c2]) (cs := cat cI e8 ++ zrP j2 D.any) (by simp [upd, nbq, zS nbq, nbx, zS nbx, nby, zS nby, n1, zS n1, n2, zS n2, n3, zS n3, t2]) rfl n2 (by simp [upd, nbq, zS nbq, nbx, zS nbx, nby, zS nby, n1, zS n1, n2, zS n2, n3, zS n3, t4]) (by omega) (by simp [Qy]) (by simp [Qy]; omega) ?_); (simp only [Nat.mul_one, Xw])) | ((refine Ja qb 1 (b' := y) (sz := 1) (m := e.length) (cp := c2) (all := [.fr 1 a8.length (cat cI a8), .sl y 1 0 e.length c2]) (cs := cat cI e ++ zrP j2 D.any) (by simp [upd, nbq, zS nbq, nbx, zS nbx, nby, zS nby, n1, zS n1, n2, zS n2, n3, zS n3, t2]) rfl n2 (by simp [upd, nbq, zS nbq, nbx, zS nbx, nby, zS nby, n1, zS n1, n2, zS n2, n3, zS n3, t4]) (by omega) (by simp [Qy]) (by simp [Qy]; omega) ?_); (simp only [Nat.mul_one, Xw])) | ((refine Ja qb 0 (b' := xb) (sz := 1) (m := s.length) (cp := cp) (all := [.sl xb 1 0 s.length cp, .sl y 1 0 e.length c2]) (cs := cat cI s ++ zrP jj D.any) (by simp [upd, nbq, zS nbq, nbx, zS nbx, nby, zS nby, n1, zS n1, n2, zS n2, n3, zS n3, m1, zS m1, m2, zS m2, m3, zS m3, u2]) rfl (zS m2) (by simp [upd, nbq, zS nbq, nbx, zS nbx, nby, zS nby, n1, zS n1, n2, zS n2, n3, zS n3, m1, zS m1, m2, zS m2, m3, zS m3, u3]) (by omega) (by simp [Qy]) (by simp [Qy]; omega) ?_); (simp only [Nat.mul_one, Xw]); (refine Ja qb 1 (b' := y) (sz := 1) (m := e.length) (cp := c2) (all := [.fr 1 s.length (cat cI s), .sl y 1 0 e.length c2]) (cs := cat cI e ++ zrP j2 D.any) (by simp [upd, nbq, zS nbq, nbx, zS nbx, nby, zS nby, n1, zS n1, n2, zS n2, n3, zS n3, m1, zS m1, m2, zS m2, m3, zS m3, u2]) rfl n2 (by simp [upd, nbq, zS nbq, nbx, zS nbx, nby, zS nby, n1, zS n1, n2, zS n2, n3, zS n3, m1, zS m1, m2, zS m2, m3, zS m3, u4]) (by omega) (by simp [Qy]) (by simp [Qy]; omega) ?_); (simp only [Nat.mul_one, Xw])) | ((refine Ja qb 0 (b' := x) (sz := 1) (m := a.length) (cp := c1) (all := [.sl x 1 0 a.length c1, .sl y 1 0 e.length c2]) (cs := cat cI a ++ zrP j1 D.any) (by simp [upd, nbq, zS nbq, nbx, zS nbx, nby, zS nby, n1, zS n1, n2, zS n2, n3, zS n3, w2]) rfl n1 (by simp [upd, nbq, zS nbq, nbx, zS nbx, nby, zS nby, n1, zS n1, n2, zS n2, n3, zS n3, w3]) (by omega) (by simp [Qy]) (by simp [Qy]; omega) ?_); (simp only [Nat.mul_one, Xw]); (refine Ja qb 1 (b' := y) (sz := 1) (m := e.length) (cp := c2) (all := [.fr 1 a.length (cat cI a), .sl y 1 0 e.length c2]) (cs := cat cI e ++ zrP j2 D.any) (by simp [upd, nbq, zS nbq, nbx, zS nbx, nby, zS nby, n1, zS n1, n2, zS n2, n3, zS n3, w2]) rfl n2 (by simp [upd, nbq, zS nbq, nbx, zS nbx, nby, zS nby, n1, zS n1, n2, zS n2, n3, zS n3, w4]) (by omega) (by simp [Qy]) (by simp [Qy]; omega) ?_); (simp only [Nat.mul_one, Xw]))); refine Qc (id := 12) Jq [] (by kernel_rfl) ?_; simp [-zg, -zd, ↓Qb, ↓Qa, go_sem, nbq, zS nbq, nbx, zS nbx, nby, zS nby, n1, zS n1, n2, zS n2, n3, zS n3]
 | refine Qd (c := .tmp 17) ?_; simp [-zg, -zd, ↓Qb, ↓Qa, go_sem]; try first | (refine ⟨?_, ?_⟩ <;> refine zA ?_) | (refine ⟨fun c17 => ?_, fun c17 => ?_⟩ <;> (try simp [B_iff, B_not] at c17))
 | refine Qd (c := .tmp 21) ?_; simp [-zg, -zd, ↓Qb, ↓Qa, go_sem]; try first | (refine ⟨?_, ?_⟩ <;> refine zA ?_) | (refine ⟨fun c21 => ?_, fun c21 => ?_⟩ <;> (try simp [B_iff, B_not] at c21))
 | refine Qd (c := .tmp 29) ?_; simp [-zg, -zd, ↓Qb, ↓Qa, go_sem]; try first | (refine ⟨?_, ?_⟩ <;> refine zA ?_) | (refine ⟨fun c29 => ?_, fun c29 => ?_⟩ <;> (try simp [B_iff, B_not] at c29))
 | refine Qd (c := .tmp 39) ?_; simp [-zg, -zd, ↓Qb, ↓Qa, go_sem]; try first | (refine ⟨?_, ?_⟩ <;> refine zA ?_) | (refine ⟨fun c39 => ?_, fun c39 => ?_⟩ <;> (try simp [B_iff, B_not] at c39); (first | (have h39 : kk = 3 := c39; (refine Ja qb 0 (b' := x) (sz := 1) (m := a.length) (cp := c1) (all := [.sl x 1 0 a.length c1, .sl y 1 0 e.length c2]) (cs := cat cI a ++ zrP j1 D.any) (by simp [upd, nbq, zS nbq, nbx, zS nbx, nby, zS nby, n1, zS n1, n2, zS n2, n3, zS n3, w2]) rfl n1 (by simp [upd, nbq, zS nbq, nbx, zS nbx, nby, zS nby, n1, zS n1, n2, zS n2, n3, zS n3, w3]) (by omega) (by simp [Qy]) (by simp [Qy]; omega) ?_); (simp only [Nat.mul_one, Xw]); (refine Qx (fun H3 => H3 b = some [.list ys.length (cat cY ys), .int .i64 (p + 1)] ∧ H3 qb = some [.fr 1 a.length (cat cI a), .sl y 1 0 e.length c2] ∧ H3 y = some (cat cI e ++ zrP j2 .any)) ⟨by simp [upd, nbq, zS nbq, nbx, zS nbx, nby, zS nby, n1, zS n1, n2, zS n2, n3, zS n3, w1], by simp [upd, nbq, zS nbq, nbx, zS nbx, nby, zS nby, n1, zS n1, n2, zS n2, n3, zS n3], by simp [upd, nbq, zS nbq, nbx, zS nbx, nby, zS nby, n1, zS n1, n2, zS n2, n3, zS n3, w4]⟩ fun H3 ⟨v1, v2, v4⟩ => ?_)) | skip))
 | refine Qd (c := .tmp 47) ?_; simp [-zg, -zd, ↓Qb, ↓Qa, go_sem]; try first | (refine ⟨?_, ?_⟩ <;> refine zA ?_) | (refine ⟨fun c47 => ?_, fun c47 => ?_⟩ <;> (try simp [B_iff, B_not] at c47))
 | (refine Qe (id := 1) (Xa (ι := LZ) (fun r : LZ => ⟨(upd (upd (upd (fun _ => .any) 0 (.ptr b 0)) 4 (.box [.nil, .nil])) 5 (.ptr qb 0)), r.H⟩) (fun r => LZi b qb y ys e c2 j2 (p + 1) a.length r) (fun r => 300 - r.s.length) (⟨a, p + 1, H3⟩) ?_ ?_ ?_); exact ⟨by dsimp only; omega, Nat.le_refl _, by dsimp only; omega, by dsimp only; omega, v1, v2, v4⟩; ((repeat' (first | exact Qh (by assumption) | exact Qj | refine Qg ?_ ?_ | refine Qi ?_)) <;> simp [-zg, -zd, ↓Qb, ↓Qa, go_sem]); rintro r hr)
 | (refine ⟨⟨s ++ [1], qq + 1, upd (upd H5 xb none) qb (some [.fr 1 (s.length + 1) (cat cI (s ++ [1])), .sl y 1 0 e.length c2])⟩, ⟨by simp; omega, by simp; omega, by dsimp only; omega, by simp; omega, by simp [upd, nbq, zS nbq, m1, zS m1, u1], by simp [upd], by simp [upd, n2, zS n2, m3, zS m3, u4]⟩, by first | omega | (simp; done) | (simp; omega), ?_⟩; ((repeat' (first | exact Qh (by assumption) | exact Qj | refine Qg ?_ ?_ | refine Qi ?_)) <;> simp [-zg, -zd, ↓Qb, ↓Qa, go_sem]))
 | (refine Qe ?_)
 | (refine Qs ?_; simp [-zg, -zd, ↓Qb, ↓Qa, go_sem])
 | (refine Qr ?_; simp [-zg, -zd, ↓Qb, ↓Qa, go_sem])
 | (refine Qv ?_; try simp [-zg, -zd, ↓Qb, ↓Qa, go_sem, Try.results132])
 | (intro hx; refine zA ?_)
 | (intro hx; change retR _ _ _ _ _)
 | (refine ⟨?_, ?_⟩ <;> refine zA ?_)
 | (intro hx; constructor <;> intro hs)
 | (constructor <;> intro hs)
 | (refine ⟨?_, fun hs => ?_⟩; refine zA ?_)
 | (refine ⟨fun hs => ?_, ?_⟩; rotate_left; refine zA ?_; rotate_left)))
  all_goals (first
 | (refine zadc _ _ _ _ _ ((a, [])) (p + 1) ?_ ?_ ?_ ?_; (first | exact Or.inl rfl | exact Or.inr rfl); (focus (simp [-zg, -zd, ↓Qb, ↓Qa, go_sem, Try.results132, dat, Xb, li, Zf, Xp, t1, nbq, zS nbq, nbx, zS nbx, nby, zS nby, n1, zS n1, n2, zS n2, n3, zS n3]; done)); (focus ((exact ⟨by dsimp only; omega, by simp⟩); done)); (focus (refine ⟨?_, ?_⟩ <;> omega)))
 | (refine zadc _ _ _ _ _ ((a, e8)) (p + 1 + 1) ?_ ?_ ?_ ?_; (first | exact Or.inl rfl | exact Or.inr rfl); (focus (simp [-zg, -zd, ↓Qb, ↓Qa, go_sem, Try.results132, dat, Xb, li, Zf, t1, nbq, zS nbq, nbx, zS nbx, nby, zS nby, n1, zS n1, n2, zS n2, n3, zS n3]; done)); (focus ((exact ⟨by dsimp only; omega, by dsimp only; omega⟩); done)); (focus (refine ⟨?_, ?_⟩ <;> omega)))
 | (refine zadc _ _ _ _ _ ((a8, e)) (p + 1 + 1) ?_ ?_ ?_ ?_; (first | exact Or.inl rfl | exact Or.inr rfl); (focus (simp [-zg, -zd, ↓Qb, ↓Qa, go_sem, Try.results132, dat, Xb, li, Zf, t1, nbq, zS nbq, nbx, zS nbx, nby, zS nby, n1, zS n1, n2, zS n2, n3, zS n3]; done)); (focus ((exact ⟨by dsimp only; omega, by dsimp only; omega⟩); done)); (focus (refine ⟨?_, ?_⟩ <;> omega)))
 | (refine zadc _ _ _ _ _ ((s, e)) (qq + 1) ?_ ?_ ?_ ?_; (first | exact Or.inl rfl | exact Or.inr rfl); (focus (simp [-zg, -zd, ↓Qb, ↓Qa, go_sem, Try.results132, dat, Xb, li, Zf, u1, nbq, zS nbq, nbx, zS nbx, nby, zS nby, n1, zS n1, n2, zS n2, n3, zS n3, m1, zS m1]; done)); (focus ((exact ⟨by dsimp only; omega, by dsimp only; omega⟩); done)); (focus (refine ⟨?_, ?_⟩ <;> omega)))
 | (refine zadc _ _ _ _ _ ((a, e)) (p + 1) ?_ ?_ ?_ ?_; (first | exact Or.inl rfl | exact Or.inr rfl); (focus (simp [-zg, -zd, ↓Qb, ↓Qa, go_sem, Try.results132, dat, Xb, li, Zf, w1, nbq, zS nbq, nbx, zS nbx, nby, zS nby, n1, zS n1, n2, zS n2, n3, zS n3]; done)); (focus ((exact ⟨by dsimp only; omega, by dsimp only; omega⟩); done)); (focus (refine ⟨?_, ?_⟩ <;> omega)))
 | skip)
@[go_sem] def l6MutateC : Con := .rel fun args H => match args with
  | [.ptr b 0, .st [.list n_a c_a, .list n_e c_e]] => match H b with
    | some [.list m cs, .int .i64 p] => ((Is cY m cs) ∧ (m ≤ 2000) ∧ (0 ≤ p) ∧ (p + 210 ≤ 1000000) ∧ (Is cI n_a c_a) ∧ (Is cI n_e c_e) ∧ ((de cI c_a).length ≤ 100 ∧ 1 ≤ (de cI c_e).length ∧ (de cI c_e).length ≤ 100), fun c => (Up (Ve (de cI c_a) (de cI c_e) p c).1, upd H b (some [.list m cs, .int .i64 (Ve (de cI c_a) (de cI c_e) p c).2])))
    | _ => (False, fun _ => (.any, H))
  | _ => (False, fun _ => (.any, H))
theorem l6MutateC_ok : ConOk Try.prog 132 l6MutateC := by
  refine ⟨Qp Try.func132 (by decide) rfl, fun args H h => ?_⟩
  revert h
  dsimp only
  split
  · split
    · rename_i hH
      intro h
      obtain ⟨⟨ys, rfl, rfl⟩, hl, h0_, hp_, ⟨a, rfl, rfl⟩, ⟨e, rfl, rfl⟩, hS⟩ := h
      try simp only [Qt] at *
      exact SpecR.enc ((l6Mutate_spec ys _ _ a e hl h0_ hp_ hS).frame hH).shut fun c => Prod.ext (zamu _ _ hS _ _).2.symm rfl
    · intro h; exact h.elim
  · intro h
    exact h.elim
@[go_sem] def Γy33 : FuncId → Con := ext Γy32 132 l6MutateC
theorem zalf : ∀ g, ConOk Try.prog g (Γy33 g) := Qo Jq l6MutateC_ok


@[go_sem] def Wm : Au × Ints2 → D := fun x => .tup [sA x.1, sPz x.2]
theorem zaoa (x : Au × Ints2) : dat (Wm x) = Wm x := by simp [go_sem]
def zabn (xs : List UInt8) : Au × Ints2 → Prop := fun x => AuM x.1 ∧ x.2.1.length ≤ 300 ∧ x.2.2.length ≤ 300
def zaco (xs : List UInt8) (x : (Au × Ints2) × D) : Prop := zabn xs x.1 ∧ dat x.2 = Wm x.1
def zabm (xs : List UInt8) (c : Any) : (Au × Ints2) × D := sel (zaco xs) (((([], [], []), ([], [])) : Au × Ints2), Wm ((([], [], []), ([], [])))) c
def zado (xs : List UInt8) (c : Any) : Au × Ints2 := (zabm xs c).1
theorem zago (xs : List UInt8)  (c : Any) : zaco xs (zabm xs c) := by
  have hx : zabn xs ((([], [], []), ([], []))) := ⟨AuM.nil, by simp, by simp⟩
  exact Zz (p := zaco xs) (x0 := (((([], [], []), ([], [])) : Au × Ints2), Wm ((([], [], []), ([], []))))) ⟨hx, zaoa _⟩ c
theorem DrawAccepts_ok (xs : List UInt8)  (c : Any) : zabn xs (zado xs c) := (zago xs  c).1
theorem zaot (xs : List UInt8) {e_ : Exit} {S_ : St} (x : Au × Ints2) (he_ : e_ = .ret ∨ e_ = .normal)
    (h1 : (Qf Try.prog S_ Try.f46.results.toList).1 ∧ dat (resD (Qf Try.prog S_ Try.f46.results.toList).2.1) = Wm x) (hg : zabn xs x) :
    retR Try.prog Try.f46 (fun c => ((zabm xs c).2, fun _ => none)) e_ S_ :=
  Zw (good := zaco xs) (enc := fun x : (Au × Ints2) × D => x.2) (x, resD (Qf Try.prog S_ Try.f46.results.toList).2.1) he_ ⟨h1.1, rfl⟩ ⟨hg, h1.2⟩
set_option maxHeartbeats 8000000 in
theorem zanz (xs : List UInt8)  : SpecR Try.prog 46 [li cY xs] (fun _ => none) (fun c => ((zabm xs c).2, fun _ => none)) := by
  refine SpecR.of_walk Try.func46 rfl (by simp [Try.f46]) fun B => ?_
  have hl := cut_len xs
  all_goals (repeat' (first
 | refine Qu ?_
 | refine Qc (id := 0) zalf [] (by kernel_rfl) ?_; simp [-zg, -zd, ↓Qb, ↓Qa, go_sem]
 | refine Qc (id := 1) zalf [] (by kernel_rfl) ?_; simp [-zg, -zd, ↓Qb, ↓Qa, go_sem]; try (refine Zl 4 rfl fun b hb => ?_; clear hb)
 | ((have u2 : ∀ c, AuS (Xj 0 c).1 ∧ 0 ≤ (Xj 0 c).2 ∧ (Xj 0 c).2 ≤ 300 := (fun c => by have h := zaee 0 c; exact ⟨h.1, by omega, by omega⟩)); (have u3 : ∀ c, AuS ((Xj 0 c).1.1, (Xj 0 c).1.2.1, (Xj 0 c).1.2.2) ∧ 0 ≤ (Xj 0 c).2 ∧ (Xj 0 c).2 + 3 ≤ 1000000 := (fun c => ⟨(u2 c).1, (u2 c).2.1, by have := (u2 c).2.2; omega⟩))); refine Qc (id := 2) zalf [] (by kernel_rfl) ?_; simp [-zg, -zd, ↓Qb, ↓Qa, go_sem, hl, u3]; try ((intro c2 c2'); (have h2 := u2 c2); (generalize (Xj 0 c2) = z at *); (obtain ⟨⟨za, zb, zc⟩, pz⟩ := z); (obtain ⟨h2, h2a, h2b⟩ := h2); (dsimp only at h2 h2a h2b ⊢); (have h3 := zaix za zb zc h2 pz c2'); (generalize Vd za zb zc pz c2' = w at *); (obtain ⟨⟨wa, wb, wc⟩, pw⟩ := w); (have h4 : AuM (wa, wb, wc) := h3.1); (have h5 := h3.2); (dsimp only at h5 ⊢); (clear h3 u2 u3); (refine Xv 5 ?_); (simp [go_sem, dat, Xb]))
 | ((have u5 : ∀ c, ((Xm pw c).1.1.length ≤ 5 ∧ 1 ≤ (Xm pw c).1.2.length ∧ (Xm pw c).1.2.length ≤ 8) ∧ pw ≤ (Xm pw c).2 ∧ (Xm pw c).2 ≤ pw + 210 := (fun c => zamv pw c)); (have u6 : ∀ c, (Xm pw c).1.1.length ≤ 100 ∧ 1 ≤ (Xm pw c).1.2.length ∧ (Xm pw c).1.2.length ≤ 100 ∧ 0 ≤ (Xm pw c).2 ∧ (Xm pw c).2 + 210 ≤ 1000000 := (fun c => by have h := u5 c; omega))); refine Xr (id := 3) zalf mixed [] [] [4] (by kernel_rfl) (by kernel_rfl) (by simp [-zg, -zd, ↓Qb, ↓Qa, go_sem, hl, (show 0 ≤ pw by omega), (show pw + 210 ≤ 1000000 by omega), u6]) (by simp [-zg, -zd, ↓Qb, ↓Qa, go_sem, hl, (show 0 ≤ pw by omega), (show pw + 210 ≤ 1000000 by omega), u6]) ?_; simp [-zg, -zd, ↓Qb, ↓Qa, go_sem, hl, (show 0 ≤ pw by omega), (show pw + 210 ≤ 1000000 by omega), u6]; try ((intro c3 c3'); (have h6 := u6 c3); (generalize (Xm pw c3) = v at *); (obtain ⟨⟨va, vb⟩, pv⟩ := v); (dsimp only at h6 ⊢); (have h7 := l6Mutate_ok va vb ⟨by omega, by omega, by omega⟩ pv c3'); (generalize Ve va vb pv c3' = v2 at *); (obtain ⟨⟨vc, vd⟩, pv2⟩ := v2); (have h8 : vc.length ≤ 300 ∧ vd.length ≤ 300 := h7.1))
 | (refine Qe ?_)
 | (refine Qs ?_; simp [-zg, -zd, ↓Qb, ↓Qa, go_sem])
 | (refine Qr ?_; simp [-zg, -zd, ↓Qb, ↓Qa, go_sem])
 | (refine Qv ?_; try simp [-zg, -zd, ↓Qb, ↓Qa, go_sem, Try.results46])
 | (intro hx; refine zA ?_)
 | (intro hx; change retR _ _ _ _ _)
 | (refine ⟨?_, ?_⟩ <;> refine zA ?_)
 | (intro hx; constructor <;> intro hs)
 | (constructor <;> intro hs)
 | (refine ⟨?_, fun hs => ?_⟩; refine zA ?_)
 | (refine ⟨fun hs => ?_, ?_⟩; rotate_left; refine zA ?_; rotate_left)))
  all_goals (first
 | (refine zaot _ (((wa, wb, wc), (vc, vd))) ?_ ?_ ?_; (first | exact Or.inl rfl | exact Or.inr rfl); (focus (simp [-zg, -zd, ↓Qb, ↓Qa, go_sem, Try.results46, dat, Xb, li]; done)); (focus ((exact ⟨h4, h8.1, h8.2⟩); done)))
 | skip)
@[go_sem] def zaeo : Con := .rel fun args H => match args with
  | [.list n_xs c_xs] => ((Is cY n_xs c_xs), fun c => (Wm (zado (de cY c_xs) c), H))
  | _ => (False, fun _ => (.any, H))
theorem zagp : ConOk Try.prog 46 zaeo := by
  refine ⟨Qp Try.func46 (by decide) rfl, fun args H h => ?_⟩
  revert h
  dsimp only
  split
  · intro h
    obtain ⟨xs, rfl, rfl⟩ := h
    try simp only [Qt] at *
    exact SpecR.enc ((SpecR.frame0 (zanz xs ) (H := H)).shut) fun c => Prod.ext (zago _  c).2.symm rfl
  · intro h
    exact h.elim
@[go_sem] def Γy34 : FuncId → Con := ext Γy33 46 zaeo
theorem zale : ∀ g, ConOk Try.prog g (Γy34 g) := Qo zalf zagp

@[go_sem] def Wg : Au × Au → D := fun x => .tup [sA x.1, sA x.2]
theorem zadn (x : Au × Au) : dat (Wg x) = Wg x := by simp [go_sem]
def zaac (xs : List UInt8) : Au × Au → Prop := fun x => AuM x.1 ∧ AuM x.2
def zaae (xs : List UInt8) (x : (Au × Au) × D) : Prop := zaac xs x.1 ∧ dat x.2 = Wg x.1
def zaab (xs : List UInt8) (c : Any) : (Au × Au) × D := sel (zaae xs) (((([], [], []), ([], [], [])) : Au × Au), Wg ((([], [], []), ([], [], [])))) c
def zaaa (xs : List UInt8) (c : Any) : Au × Au := (zaab xs c).1
theorem zabg (xs : List UInt8)  (c : Any) : zaae xs (zaab xs c) := by
  have hx : zaac xs ((([], [], []), ([], [], []))) := ⟨AuM.nil, AuM.nil⟩
  exact Zz (p := zaae xs) (x0 := (((([], [], []), ([], [], [])) : Au × Au), Wg ((([], [], []), ([], [], []))))) ⟨hx, zadn _⟩ c
theorem zaen (xs : List UInt8)  (c : Any) : zaac xs (zaaa xs c) := (zabg xs  c).1
theorem zadv (xs : List UInt8) {e_ : Exit} {S_ : St} (x : Au × Au) (he_ : e_ = .ret ∨ e_ = .normal)
    (h1 : (Qf Try.prog S_ Try.f61.results.toList).1 ∧ dat (resD (Qf Try.prog S_ Try.f61.results.toList).2.1) = Wg x) (hg : zaac xs x) :
    retR Try.prog Try.f61 (fun c => ((zaab xs c).2, fun _ => none)) e_ S_ :=
  Zw (good := zaae xs) (enc := fun x : (Au × Au) × D => x.2) (x, resD (Qf Try.prog S_ Try.f61.results.toList).2.1) he_ ⟨h1.1, rfl⟩ ⟨hg, h1.2⟩
set_option maxHeartbeats 8000000 in
theorem zadm (xs : List UInt8)  : SpecR Try.prog 61 [li cY xs] (fun _ => none) (fun c => ((zaab xs c).2, fun _ => none)) := by
  refine SpecR.of_walk Try.func61 rfl (by simp [Try.f61]) fun B => ?_
  have hl := cut_len xs
  all_goals (repeat' (first
 | refine Qu ?_
 | refine Qc (id := 0) zale [] (by kernel_rfl) ?_; simp [-zg, -zd, ↓Qb, ↓Qa, go_sem]
 | refine Qc (id := 1) zale [] (by kernel_rfl) ?_; simp [-zg, -zd, ↓Qb, ↓Qa, go_sem]; try (refine Zl 4 rfl fun b hb => ?_; clear hb)
 | ((have u2 : ∀ c, AuS (Xj 0 c).1 ∧ 0 ≤ (Xj 0 c).2 ∧ (Xj 0 c).2 ≤ 300 := (fun c => by have h := zaee 0 c; exact ⟨h.1, by omega, by omega⟩)); (have u3 : ∀ c, AuS ((Xj 0 c).1.1, (Xj 0 c).1.2.1, (Xj 0 c).1.2.2) ∧ 0 ≤ (Xj 0 c).2 ∧ (Xj 0 c).2 + 3 ≤ 1000000 := (fun c => ⟨(u2 c).1, (u2 c).2.1, by have := (u2 c).2.2; omega⟩))); refine Qc (id := 2) zale [] (by kernel_rfl) ?_; simp [-zg, -zd, ↓Qb, ↓Qa, go_sem, hl, u3]; try ((intro c2 c2'); (have h2 := u2 c2); (generalize (Xj 0 c2) = z at *); (obtain ⟨⟨za, zb, zc⟩, pz⟩ := z); (obtain ⟨h2, h2a, h2b⟩ := h2); (dsimp only at h2 h2a h2b ⊢); (have h3 := zaix za zb zc h2 pz c2'); (generalize Vd za zb zc pz c2' = w at *); (obtain ⟨⟨wa, wb, wc⟩, pw⟩ := w); (have h4 : AuM (wa, wb, wc) := h3.1); (have h5 := h3.2); (dsimp only at h5 ⊢); (clear h3 u2 u3); (refine Xv 5 ?_); (simp [go_sem, dat, Xb]))
 | ((have u2 : ∀ c, AuS (Xj pw c).1 ∧ 0 ≤ (Xj pw c).2 ∧ (Xj pw c).2 ≤ 700 := (fun c => by have h := zaee pw c; exact ⟨h.1, by omega, by omega⟩)); (have u3 : ∀ c, AuS ((Xj pw c).1.1, (Xj pw c).1.2.1, (Xj pw c).1.2.2) ∧ 0 ≤ (Xj pw c).2 ∧ (Xj pw c).2 + 3 ≤ 1000000 := (fun c => ⟨(u2 c).1, (u2 c).2.1, by have := (u2 c).2.2; omega⟩))); refine Xr (id := 3) zale mixed [] [] [4] (by kernel_rfl) (by kernel_rfl) (by simp [-zg, -zd, ↓Qb, ↓Qa, go_sem, hl, (show 0 ≤ pw by omega), (show pw + 300 ≤ 1000000 by omega), u3]) (by simp [-zg, -zd, ↓Qb, ↓Qa, go_sem, hl, (show 0 ≤ pw by omega), (show pw + 300 ≤ 1000000 by omega), u3]) ?_; simp [-zg, -zd, ↓Qb, ↓Qa, go_sem, hl, (show 0 ≤ pw by omega), (show pw + 300 ≤ 1000000 by omega), u3]; try ((intro c3 c3'); (have h6 := (u2 c3).1); (generalize (Xj pw c3) = v at *); (obtain ⟨⟨va, vb, vc⟩, pv⟩ := v); (dsimp only at h6 ⊢); (have h7 := zaix va vb vc h6 pv c3'); (generalize Vd va vb vc pv c3' = v2 at *); (obtain ⟨⟨xa, xb, xc⟩, pv2⟩ := v2); (have h8 : AuM (xa, xb, xc) := h7.1))
 | (refine Qe ?_)
 | (refine Qs ?_; simp [-zg, -zd, ↓Qb, ↓Qa, go_sem])
 | (refine Qr ?_; simp [-zg, -zd, ↓Qb, ↓Qa, go_sem])
 | (refine Qv ?_; try simp [-zg, -zd, ↓Qb, ↓Qa, go_sem, Try.results61])
 | (intro hx; refine zA ?_)
 | (intro hx; change retR _ _ _ _ _)
 | (refine ⟨?_, ?_⟩ <;> refine zA ?_)
 | (intro hx; constructor <;> intro hs)
 | (constructor <;> intro hs)
 | (refine ⟨?_, fun hs => ?_⟩; refine zA ?_)
 | (refine ⟨fun hs => ?_, ?_⟩; rotate_left; refine zA ?_; rotate_left)))
  all_goals (first
 | (refine zadv _ (((wa, wb, wc), (xa, xb, xc))) ?_ ?_ ?_; (first | exact Or.inl rfl | exact Or.inr rfl); (focus (simp [-zg, -zd, ↓Qb, ↓Qa, go_sem, Try.results61, dat, Xb, li]; done)); (focus ((exact ⟨h4, h8⟩); done)))
 | skip)
@[go_sem] def zaat : Con := .rel fun args H => match args with
  | [.list n_xs c_xs] => ((Is cY n_xs c_xs), fun c => (Wg (zaaa (de cY c_xs) c), H))
  | _ => (False, fun _ => (.any, H))
theorem zadw : ConOk Try.prog 61 zaat := by
  refine ⟨Qp Try.func61 (by decide) rfl, fun args H h => ?_⟩
  revert h
  dsimp only
  split
  · intro h
    obtain ⟨xs, rfl, rfl⟩ := h
    try simp only [Qt] at *
    exact SpecR.enc ((SpecR.frame0 (zadm xs ) (H := H)).shut) fun c => Prod.ext (zabg _  c).2.symm rfl
  · intro h
    exact h.elim
@[go_sem] def Γy35 : FuncId → Con := ext Γy34 61 zaat
theorem Γy35_ok : ∀ g, ConOk Try.prog g (Γy35 g) := Qo zale zadw

@[go_sem] def Wh : Au × Au → D := fun x => .tup [sA x.1, sA x.2]
theorem zafn (x : Au × Au) : dat (Wh x) = Wh x := by simp [go_sem]
def zaas (xs : List UInt8) : Au × Au → Prop := fun x => AuM x.1 ∧ AuM x.2
def zaam (xs : List UInt8) (x : (Au × Au) × D) : Prop := zaas xs x.1 ∧ dat x.2 = Wh x.1
def zaag (xs : List UInt8) (c : Any) : (Au × Au) × D := sel (zaam xs) (((([], [], []), ([], [], [])) : Au × Au), Wh ((([], [], []), ([], [], [])))) c
def zagh (xs : List UInt8) (c : Any) : Au × Au := (zaag xs c).1
theorem zagj (xs : List UInt8)  (c : Any) : zaam xs (zaag xs c) := by
  have hx : zaas xs ((([], [], []), ([], [], []))) := ⟨AuM.nil, AuM.nil⟩
  exact Zz (p := zaam xs) (x0 := (((([], [], []), ([], [], [])) : Au × Au), Wh ((([], [], []), ([], [], []))))) ⟨hx, zafn _⟩ c
theorem zagi (xs : List UInt8) {e_ : Exit} {S_ : St} (x : Au × Au) (he_ : e_ = .ret ∨ e_ = .normal)
    (h1 : (Qf Try.prog S_ Try.f45.results.toList).1 ∧ dat (resD (Qf Try.prog S_ Try.f45.results.toList).2.1) = Wh x) (hg : zaas xs x) :
    retR Try.prog Try.f45 (fun c => ((zaag xs c).2, fun _ => none)) e_ S_ :=
  Zw (good := zaam xs) (enc := fun x : (Au × Au) × D => x.2) (x, resD (Qf Try.prog S_ Try.f45.results.toList).2.1) he_ ⟨h1.1, rfl⟩ ⟨hg, h1.2⟩
set_option maxHeartbeats 8000000 in
theorem zafm (xs : List UInt8)  : SpecR Try.prog 45 [li cY xs] (fun _ => none) (fun c => ((zaag xs c).2, fun _ => none)) := by
  refine SpecR.of_walk Try.func45 rfl (by simp [Try.f45]) fun B => ?_
  (repeat' (first
 | refine Qu ?_
 | refine Qc (id := 0) Γy35_ok [] (by kernel_rfl) ?_; simp [-zg, -zd, ↓Qb, ↓Qa, go_sem]
 | refine Qc (id := 1) Γy35_ok [] (by kernel_rfl) ?_; simp [-zg, -zd, ↓Qb, ↓Qa, go_sem]; try ((intro c2); (have h2 : AuM (zaaa xs c2).1 ∧ AuM (zaaa xs c2).2 := zaen xs c2); (generalize (zaaa xs c2) = z at *))
 | (refine Qe ?_)
 | (refine Qs ?_; simp [-zg, -zd, ↓Qb, ↓Qa, go_sem])
 | (refine Qr ?_; simp [-zg, -zd, ↓Qb, ↓Qa, go_sem])
 | (refine Qv ?_; try simp [-zg, -zd, ↓Qb, ↓Qa, go_sem, Try.results45])
 | (intro hx; refine zA ?_)
 | (intro hx; change retR _ _ _ _ _)
 | (refine ⟨?_, ?_⟩ <;> refine zA ?_)
 | (intro hx; constructor <;> intro hs)
 | (constructor <;> intro hs)
 | (refine ⟨?_, fun hs => ?_⟩; refine zA ?_)
 | (refine ⟨fun hs => ?_, ?_⟩; rotate_left; refine zA ?_; rotate_left)))
  all_goals (first
 | (refine zagi _ (z) ?_ ?_ ?_; (first | exact Or.inl rfl | exact Or.inr rfl); (focus (simp [-zg, -zd, ↓Qb, ↓Qa, go_sem, Try.results45, dat, Xb, li]; done)); (focus ((exact h2); done)))
 | skip)
@[go_sem] def zabz : Con := .rel fun args H => match args with
  | [.list n_xs c_xs] => ((Is cY n_xs c_xs), fun c => (Wh (zagh (de cY c_xs) c), H))
  | _ => (False, fun _ => (.any, H))
theorem zagk : ConOk Try.prog 45 zabz := by
  refine ⟨Qp Try.func45 (by decide) rfl, fun args H h => ?_⟩
  revert h
  dsimp only
  split
  · intro h
    obtain ⟨xs, rfl, rfl⟩ := h
    try simp only [Qt] at *
    exact SpecR.enc ((SpecR.frame0 (zafm xs ) (H := H)).shut) fun c => Prod.ext (zagj _  c).2.symm rfl
  · intro h
    exact h.elim
@[go_sem] def Γy36 : FuncId → Con := ext Γy35 45 zabz
theorem Vg : ∀ g, ConOk Try.prog g (Γy36 g) := Qo Γy35_ok zagk

end
end Go.Proofs.Ytkjimmkemnmajaa.Vm

