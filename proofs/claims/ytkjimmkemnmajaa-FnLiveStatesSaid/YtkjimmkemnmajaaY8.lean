/-
  Draws: automata. No conditions.
-/
import Derived.Test.YtkjimmkemnmajaaY7
namespace Go.Proofs.Ytkjimmkemnmajaa.Vm
open Go
set_option linter.unusedVariables false
set_option linter.unusedSimpArgs false
set_option maxRecDepth 200000

theorem bitsA_le (x y : Int) : bitsD .and .i64 x y ≤ 9223372036854775807 := by
  show IntKind.i64.wrap _ ≤ _
  unfold IntKind.wrap; simp [IntKind.bits, IntKind.signed]; split <;> omega
abbrev Au := List Int × List Bool × List Tr4
def sA (x : Au) : D := .st [li cI x.1, li cB x.2.1, li cT x.2.2]
attribute [go_sem] sA
def AuS (x : Au) : Prop := x.1.length ≤ 5000 ∧ x.2.1.length ≤ 5000 ∧ x.2.2.length ≤ 5000 ∧ SmallT x.2.2
theorem AuS.nil : AuS ([], [], []) := ⟨by simp, by simp, by simp, SmallT.nil⟩
structure LA where
  k : Nat
  js : List Int
  qs : List Bool
  q : Int
  H : Hp
def LA1 (b ab yb : Nat) (ys : List UInt8) (n1 cy jy : Nat) (p0 : Int) (q : LA) : Prop := q.k ≤ n1 ∧ q.js.length ≤ q.k ∧ q.qs.length = n1 ∧ p0 + 1 ≤ q.q ∧ q.q ≤ p0 + 1 + 3 * q.k ∧ q.H b = some [.list ys.length (cat cY ys), .int .i64 (q.q)] ∧ q.H ab = some [.fr 1 q.js.length (cat cI q.js), .sl yb 1 0 n1 cy, .fr 4 0 []] ∧ q.H yb = some (cat cB q.qs ++ List.replicate jy .any)
def LB (b ab yb : Nat) (ys : List UInt8) (n1 cy jy : Nat) (p0 : Int) (q : LA) : Prop := q.k < n1 ∧ q.js.length ≤ q.k ∧ q.qs.length = n1 ∧ p0 + 1 ≤ q.q ∧ q.q ≤ p0 + 1 + 3 * q.k + 3 ∧ q.H b = some [.list ys.length (cat cY ys), .int .i64 (q.q)] ∧ q.H ab = some [.fr 1 q.js.length (cat cI q.js), .sl yb 1 0 n1 cy, .fr 4 0 []] ∧ q.H yb = some (cat cB q.qs ++ List.replicate jy .any)
theorem LB.skip {b ab yb : Nat} {ys : List UInt8} {n1 cy jy : Nat} {p0 : Int} {k : Nat} {js : List Int} {qs : List Bool} {q2 : Int} {H : Hp} (h : LB b ab yb ys n1 cy jy p0 ⟨k, js, qs, q2, H⟩) : LA1 b ab yb ys n1 cy jy p0 ⟨k + 1, js, qs, q2, H⟩ := by
  obtain ⟨h1, h2, h3, h4, h5, h6, h7, h8⟩ := h
  dsimp only at h1 h2 h3 h4 h5 h6 h7 h8
  exact ⟨by dsimp only; omega, by dsimp only; omega, h3, h4, by dsimp only; omega, h6, h7, h8⟩
def MA (b : Nat) (ys : List UInt8) (p : Int) (S : St) : Prop := ∃ p0 : Int, p + 1 ≤ p0 ∧ p0 ≤ p + 101 ∧ S.T 0 = .ptr b 0 ∧ S.T 2 = .box [.nil, .nil, .nil] ∧ S.H b = some [.list ys.length (cat cY ys), .int .i64 p0]
theorem MA.sub {b : Nat} {ys : List UInt8} {p0 : Int} {S : St} (h0 : S.T 0 = .ptr b 0) (h2 : S.T 2 = .box [.nil, .nil, .nil]) (h3 : S.H b = some [.list ys.length (cat cY ys), .int .i64 p0]) : Sub S ⟨upd (upd (fun _ => .any) 0 (.ptr b 0)) 2 (.box [.nil, .nil, .nil]), upd (fun _ => none) b (some [.list ys.length (cat cY ys), .int .i64 p0])⟩ :=
  zaai (zaai (zaad fun b' cs h => by
    by_cases e : b' = b
    · subst e; rw [upd_eq] at h; rw [h3]; exact h
    · rw [zaaq e] at h; cases h) h0) h2
theorem AW_merge {P : Program} {B : Base} {n : Nat} {S : St} {c : Code} {K : St → Prop} {Q : Exit → St → Prop} (M : St → Prop) (h1 : AW P B n c (Exit.thenA M Q) S) (h2 : ∀ S', M S' → K S') : AW P B n c (Exit.thenA K Q) S :=
  AW_mono h1 fun e S' hq => by
    cases e with
    | normal => exact h2 S' hq
    | _ => exact hq
structure LE where
  es : List Tr4
  m : Int
  q : Int
  H : Hp
def LE2 (b ab yb : Nat) (ys : List UInt8) (n1 cy jy : Nat) (q0 : Int) (js : List Int) (qs : List Bool) (r : LE) : Prop := (0 ≤ r.m ∧ r.m ≤ 10) ∧ (r.es.length : Int) + r.m ≤ 10 ∧ SmallT r.es ∧ q0 + 1 ≤ r.q ∧ r.q ≤ q0 + 1 + 4 * (10 - r.m) ∧ r.H b = some [.list ys.length (cat cY ys), .int .i64 (r.q)] ∧ r.H ab = some [.fr 1 js.length (cat cI js), .sl yb 1 0 n1 cy, .fr 4 r.es.length (cat cT r.es)] ∧ r.H yb = some (cat cB qs ++ List.replicate jy .any)
theorem AW_boxNilM {P : Program} {B : Base} {n : Nat} {S : St} {c : Code} {Q : Exit → St → Prop} (t : Nat) {d : D} (hT : S.T t = .box [.nil, d, .nil]) (h : AW P B n c Q ⟨upd S.T t (.box [.fr 1 0 [], d, .fr 4 0 []]), S.H⟩) : AW P B n c Q S :=
  AW_rebox t hT (fun μ I w vs f hr => by
    simp only [RepL] at hr ⊢
    obtain ⟨v, vs', f1, f2, e1, e2, r1, v2, vs2, g1, g2, e3, e4, r2, v3, vs3, g3, g4, e5, e6, r3, r4⟩ := hr
    exact ⟨v, vs', f1, f2, e1, e2, rep_nilfrN r1, v2, vs2, g1, g2, e3, e4, r2, v3, vs3, g3, g4, e5, e6, rep_nilfrN r3, r4⟩) (fun N hb => by simp only [bndL, bnd] at hb ⊢; exact ⟨trivial, hb.2.1, trivial, trivial⟩) h

noncomputable def l7Automaton_enc : Au → D := sA
attribute [go_sem] l7Automaton_enc
theorem l7Automaton_flat (x : Au) : dat (l7Automaton_enc x) = l7Automaton_enc x := by simp [go_sem]
def l7Automaton_good  : Au → Prop := fun x => AuS x
def l7Automaton_gd  (x : (Au) × D) : Prop := l7Automaton_good x.1 ∧ dat x.2 = l7Automaton_enc x.1
noncomputable def l7Automaton_selD  (p : Int) (c : Any) : ((Au) × D) × Int := dsel (l7Automaton_gd) ((([], [], []) : Au), l7Automaton_enc (([], [], []))) 300 p c
noncomputable def zaar  (p : Int) (c : Any) : (Au) × Int := ((l7Automaton_selD p c).1.1, (l7Automaton_selD p c).2)
theorem l7Automaton_okD   (p : Int) (c : Any) : (l7Automaton_good (zaar p c).1 ∧ p ≤ (zaar p c).2 ∧ (zaar p c).2 ≤ p + 300) ∧ dat (l7Automaton_selD p c).1.2 = l7Automaton_enc (zaar p c).1 := by
  have hx : l7Automaton_good (([], [], [])) := AuS.nil
  have h := dsel_ok (good := l7Automaton_gd) (x0 := ((([], [], []) : Au), l7Automaton_enc (([], [], [])))) ⟨hx, l7Automaton_flat _⟩ (K := 300) (by omega) (p := p) c
  exact ⟨⟨h.1.1, h.2.1, h.2.2⟩, h.1.2⟩
theorem l7Automaton_ok   (p : Int) (c : Any) : l7Automaton_good (zaar p c).1 ∧ p ≤ (zaar p c).2 ∧ (zaar p c).2 ≤ p + 300 := (l7Automaton_okD  p c).1
theorem l7Automaton_ret  (ys : List UInt8) (p : Int) (b : Nat) {e_ : Exit} {S_ : St} (x : Au) (p' : Int) (he_ : e_ = .ret ∨ e_ = .normal)
    (h1 : (zaak Try.prog S_ Try.f131.results.toList).1 ∧ dat (resD (zaak Try.prog S_ Try.f131.results.toList).2.1) = l7Automaton_enc x ∧ (zaak Try.prog S_ Try.f131.results.toList).2.2.H b = some [li cY ys, .int .i64 p']) (hg : l7Automaton_good x) (h2 : p ≤ p' ∧ p' ≤ p + 300) :
    retR Try.prog Try.f131 (fun c => ((l7Automaton_selD p c).1.2, one b [li cY ys, .int .i64 (l7Automaton_selD p c).2])) e_ S_ :=
  ret_draw (good := l7Automaton_gd) (enc := fun x : (Au) × D => x.2) (cells := fun q => [li cY ys, .int .i64 q]) (x, resD (zaak Try.prog S_ Try.f131.results.toList).2.1) p' he_ ⟨h1.1, rfl, h1.2.2⟩ ⟨hg, h1.2.1⟩ h2
set_option maxHeartbeats 16000000 in
theorem l7Automaton_spec (ys : List UInt8) (p : Int) (b : Nat)  (hl : ys.length ≤ 2000) (h0_ : 0 ≤ p) (hp_ : p + 300 ≤ 1000000)  : SpecR Try.prog 131 [.ptr b 0] (one b [li cY ys, .int .i64 p]) (fun c => ((l7Automaton_selD p c).1.2, one b [li cY ys, .int .i64 (l7Automaton_selD p c).2])) := by
  refine SpecR.of_walk Try.func131 rfl (by simp [Try.f131]) fun B => ?_
  (repeat' (first
    | refine AW_seq ?_
    | refine zaac (id := 0) Γy26_ok [] (by kernel_rfl) ?_; simp  [-List.getD_eq_getElem?_getD, -List.drop_one, ↓zaab, ↓zaaa, go_sem]
    | refine zaac (id := 1) Γy26_ok [] (by kernel_rfl) ?_; simp  [-List.getD_eq_getElem?_getD, -List.drop_one, ↓zaab, ↓zaaa, go_sem, hl, (show 0 ≤ p by omega), (show p ≤ 1000000 by omega), (show 0 ≤ p + 1 by omega), (show p + 1 ≤ 1000000 by omega)]; try ((refine AW_merge (MA b ys p) ?_ fun S' hM => ?_; rotate_left; (obtain ⟨p0, hq1, hq2, h0, h2, h3⟩ := hM; refine AW_less (S' := ⟨upd (upd (fun _ => .any) 0 (.ptr b 0)) 2 (.box [.nil, .nil, .nil]), upd (fun _ => none) b (some [.list ys.length (cat cY ys), .int .i64 p0])⟩) (MA.sub h0 h2 h3) ?_)))
    | refine zaac (id := 2) Γy26_ok [] (by kernel_rfl) ?_; simp  [-List.getD_eq_getElem?_getD, -List.drop_one, ↓zaab, ↓zaaa, go_sem, hl, (show 0 ≤ p + 1 by omega), (show p + 1 ≤ 1000000 by omega), (show 0 ≤ p + 1 + 1 by omega), (show p + 1 + 1 ≤ 1000000 by omega), (show p + 1 + 100 ≤ 1000000 by omega)]; try ((intro c2 c2'); (have z0 := l5Formula_ok (p + 1) c2); (generalize l5Formula_sel (p + 1) c2 = z at *); (obtain ⟨z1, z2, z3⟩ := z0); (obtain ⟨⟨fk, fv, fs⟩, p2⟩ := z); (dsimp only at z1 z2 z3); (simp only [Tree.k_mk, Tree.v_mk, Tree.ks_mk]); (have y0 := TranslateFormula_ok fk fv fs c2'); (generalize TranslateFormula_sel fk fv fs c2' = y at *); (obtain ⟨⟨xa, xb, xc⟩, okt⟩ := y); (simp only [TranslateFormula_good] at y0); (obtain ⟨y1, y2, y3, y4⟩ := y0); (refine AW_shut 3 ?_); (simp [go_sem]))
    | refine zaac (id := 3) Γy26_ok [20] (by kernel_rfl) ?_; simp  [-List.getD_eq_getElem?_getD, -List.drop_one, ↓zaab, ↓zaaa, go_sem]; try (refine ⟨fun s3a => ?_, fun s3a => ?_⟩ <;> (try simp [B_iff, B_not] at s3a) <;> try (refine ⟨fun s3b => ?_, fun s3b => ?_⟩ <;> (try simp [B_iff, B_not] at s3b)))
    | refine zaac (id := 4) Γy26_ok [] (by kernel_rfl) ?_; simp  [-List.getD_eq_getElem?_getD, -List.drop_one, ↓zaab, ↓zaaa, go_sem]
    | refine zaac (id := 5) Γy26_ok [] (by kernel_rfl) ?_; simp  [-List.getD_eq_getElem?_getD, -List.drop_one, ↓zaab, ↓zaaa, go_sem, hl, (show 0 ≤ p0 by omega), (show p0 ≤ 1000000 by omega), (show 0 ≤ p0 + 1 by omega), (show p0 + 1 ≤ 1000000 by omega)]; try ((have hr := numI_range ys (p := p0) (by omega) (xs := [3, 2, 4, 1, 5]) (lo := 1) (hi := 5) (by simp) (by simp)); (generalize numI ys p0 [3, 2, 4, 1, 5] = nn at *); (obtain ⟨n1, hn1⟩ : ∃ n1 : Nat, nn = (n1 : Int) := ⟨nn.toNat, by omega⟩); (subst hn1))
    | refine zaac (id := 6) Γy26_ok [] (by kernel_rfl) ?_; simp  [-List.getD_eq_getElem?_getD, -List.drop_one, ↓zaab, ↓zaaa, go_sem, make_cB, (by omega : (n1 : Int) ≤ 281474976710656), (by omega : (n1 : Int) ≤ 9223372036854775807), (by omega : (0 : Int) ≤ (n1 : Int))]; try ((refine AW_boxNilM 6 rfl ?_); (refine AW_matBox 6 rfl fun ab hab => ?_); (have nba : ¬ b = ab := (by rintro rfl; simp [upd] at hab)); (clear hab); (refine AW_matCell ab 1 (all := [.fr 1 0 [], .fr 1 n1 (cat cB (List.replicate n1 false)), .fr 4 0 []]) (by simp [upd]) rfl fun yb cy jy hyb hcy hdy => ?_); (have nby : ¬ b = yb := (by rintro rfl; simp [upd, nba] at hyb)); (have nay : ¬ ab = yb := (by rintro rfl; simp [upd] at hyb)); (clear hyb); (refine AW_gen (fun H1 => LA1 b ab yb ys n1 cy jy p0 ⟨0, [], List.replicate n1 false, p0 + 1, H1⟩) ⟨Nat.zero_le _, Nat.le_refl _, by simp, by dsimp only; omega, by dsimp only; omega, by simp [upd, nba, Ne.symm nba, nby, Ne.symm nby, nay, Ne.symm nay], by simp [upd, nba, Ne.symm nba, nby, Ne.symm nby, nay, Ne.symm nay, cat_nil], by simp [upd]⟩ fun H2 hL => ?_))
    | refine zaac (id := 7) Γy26_ok [] (by kernel_rfl) ?_; simp  [-List.getD_eq_getElem?_getD, -List.drop_one, ↓zaab, ↓zaaa, go_sem]
    | ((obtain ⟨g1, g2, g3, g4, g5, g6, g7, g8⟩ := id hq)); refine zaac (id := 8) Γy26_ok [] (by kernel_rfl) ?_; simp  [-List.getD_eq_getElem?_getD, -List.drop_one, ↓zaab, ↓zaaa, go_sem]
    | refine zaao (id := 10) Γy26_ok mixed [(ab, [.fr 1 q.js.length (cat cI q.js), .sl yb 1 0 n1 cy, .fr 4 0 []])] [] [] (by kernel_rfl) (by kernel_rfl) (by simp [-List.getD_eq_getElem?_getD, -List.drop_one, ↓zaab, ↓zaaa, go_sem, g6, g7, g8, hl, nba, Ne.symm nba, nby, Ne.symm nby, nay, Ne.symm nay, (show 0 ≤ q.q by omega), (show q.q ≤ 1000000 by omega), (show 0 ≤ q.q + 1 by omega), (show q.q + 1 ≤ 1000000 by omega), (show q.k < n1 by omega), (show q.k < n1 + jy by omega), (show q.k + 1 ≤ n1 + jy by omega), (show q.k < q.qs.length by omega), g3]) (by simp [-List.getD_eq_getElem?_getD, -List.drop_one, ↓zaab, ↓zaaa, go_sem, g6, g7, g8, hl, nba, Ne.symm nba, nby, Ne.symm nby, nay, Ne.symm nay, (show 0 ≤ q.q by omega), (show q.q ≤ 1000000 by omega), (show 0 ≤ q.q + 1 by omega), (show q.q + 1 ≤ 1000000 by omega), (show q.k < n1 by omega), (show q.k < n1 + jy by omega), (show q.k + 1 ≤ n1 + jy by omega), (show q.k < q.qs.length by omega), g3]) ?_; simp  [-List.getD_eq_getElem?_getD, -List.drop_one, ↓zaab, ↓zaaa, go_sem, g6, g7, g8, hl, nba, Ne.symm nba, nby, Ne.symm nby, nay, Ne.symm nay, (show 0 ≤ q.q by omega), (show q.q ≤ 1000000 by omega), (show 0 ≤ q.q + 1 by omega), (show q.q + 1 ≤ 1000000 by omega), (show q.k < n1 by omega), (show q.k < n1 + jy by omega), (show q.k + 1 ≤ n1 + jy by omega), (show q.k < q.qs.length by omega), g3]; try ((generalize decide (pkI ys q.q 3 = 0) = ac at *); (refine AW_gen (fun H1 => H1 b = some [.list ys.length (cat cY ys), .int .i64 (q.q + 1)] ∧ H1 ab = some [.fr 1 q.js.length (cat cI q.js), .sl yb 1 0 n1 cy, .fr 4 0 []] ∧ H1 yb = some (cat cB (q.qs.set q.k ac) ++ List.replicate jy .any)) ⟨by simp [upd, nba, Ne.symm nba, nby, Ne.symm nby, nay, Ne.symm nay], by simp [upd, nba, Ne.symm nba, nby, Ne.symm nby, nay, Ne.symm nay, g7], by simp [upd, nba, Ne.symm nba, nby, Ne.symm nby, nay, Ne.symm nay]⟩ fun H2 ⟨v1, v2, v3⟩ => ?_))
    | refine zaac (id := 11) Γy26_ok [47, 52] (by kernel_rfl) ?_; simp  [-List.getD_eq_getElem?_getD, -List.drop_one, ↓zaab, ↓zaaa, go_sem, v1, hl, (show 0 ≤ q.q + 1 by omega), (show q.q + 1 ≤ 1000000 by omega), (show 0 ≤ q.q + 1 + 1 by omega), (show q.q + 1 + 1 ≤ 1000000 by omega), (show 0 ≤ q.q + 1 + 1 + 1 by omega), (show q.q + 1 + 1 + 1 ≤ 1000000 by omega)]; try (refine ⟨fun s11a => ?_, fun s11a => ?_⟩ <;> (try simp [B_iff, B_not] at s11a) <;> try (refine ⟨fun s11b => ?_, fun s11b => ?_⟩ <;> (try simp [B_iff, B_not] at s11b) <;> try (refine ⟨fun s11c => ?_, fun s11c => ?_⟩ <;> (try simp [B_iff, B_not] at s11c))))
    | (first | (refine AW_gen (fun H1 => LB b ab yb ys n1 cy jy p0 ⟨q.k, q.js, q.qs.set q.k ac, q.q + 1 + 1 + 1, H1⟩) ?_ fun H3 hB => ?_; (focus (refine ⟨?_, ?_, ?_, ?_, ?_, ?_, ?_, ?_⟩ <;> first | omega | (dsimp only; omega) | (simp; done) | (simp; omega) | (simp [upd, nba, Ne.symm nba, nby, Ne.symm nby, nay, Ne.symm nay, v1, v2, v3]; done))); obtain ⟨q2, hq2⟩ : ∃ x, q.q + 1 + 1 + 1 = x := ⟨_, rfl⟩; rw [hq2] at hB) | (refine AW_gen (fun H1 => LB b ab yb ys n1 cy jy p0 ⟨q.k, q.js, q.qs.set q.k ac, q.q + 1 + 1, H1⟩) ?_ fun H3 hB => ?_; (focus (refine ⟨?_, ?_, ?_, ?_, ?_, ?_, ?_, ?_⟩ <;> first | omega | (dsimp only; omega) | (simp; done) | (simp; omega) | (simp [upd, nba, Ne.symm nba, nby, Ne.symm nby, nay, Ne.symm nay, v1, v2, v3]; done))); obtain ⟨q2, hq2⟩ : ∃ x, q.q + 1 + 1 = x := ⟨_, rfl⟩; rw [hq2] at hB) | (refine AW_gen (fun H1 => LB b ab yb ys n1 cy jy p0 ⟨q.k, q.js, q.qs.set q.k ac, q.q + 1, H1⟩) ?_ fun H3 hB => ?_; (focus (refine ⟨?_, ?_, ?_, ?_, ?_, ?_, ?_, ?_⟩ <;> first | omega | (dsimp only; omega) | (simp; done) | (simp; omega) | (simp [upd, nba, Ne.symm nba, nby, Ne.symm nby, nay, Ne.symm nay, v1, v2, v3]; done))); obtain ⟨q2, hq2⟩ : ∃ x, q.q + 1 = x := ⟨_, rfl⟩; rw [hq2] at hB)); refine zaac (id := 12) Γy26_ok [] (by kernel_rfl) ?_; simp  [-List.getD_eq_getElem?_getD, -List.drop_one, ↓zaab, ↓zaaa, go_sem, (show H3 ab = some [.fr 1 q.js.length (cat cI q.js), .sl yb 1 0 n1 cy, .fr 4 0 []] from hB.2.2.2.2.2.2.1), (show q.js.length ≤ 9223372036854775806 by omega), (show 2 * (q.js.length + 1) * 8 ≤ 281474976710656 by omega), snoc_cI]; try ((refine AW_gen (fun H1 => LA1 b ab yb ys n1 cy jy p0 ⟨q.k + 1, q.js ++ [(q.k : Int)], q.qs.set q.k ac, q2, H1⟩) ⟨by have := hB.1; dsimp only; omega, by simp; omega, hB.2.2.1, by have := hB.2.2.2.1; dsimp only at this ⊢; omega, by have := hB.2.2.2.2.1; dsimp only at this ⊢; omega, by have := hB.2.2.2.2.2.1; simpa [upd, nba, Ne.symm nba, nby, Ne.symm nby, nay, Ne.symm nay] using this, by simp [upd], by have := hB.2.2.2.2.2.2.2; simpa [upd, nba, Ne.symm nba, nby, Ne.symm nby, nay, Ne.symm nay] using this⟩ fun H4 hz => ?_); (obtain ⟨zz, hzz⟩ : ∃ zz : LA, zz = ⟨q.k + 1, q.js ++ [(q.k : Int)], q.qs.set q.k ac, q2, H4⟩ := ⟨_, rfl⟩); (rw [← hzz] at hz); (have z1 : (q.k : Int) + 1 = (zz.k : Int) := (by rw [hzz]; dsimp only; omega)); (have z4 : H4 = zz.H := (by rw [hzz])); (rw [z4]); (clear hzz hB))
    | (first | (have z9 := z1) | ((first | (refine AW_gen (fun H1 => LB b ab yb ys n1 cy jy p0 ⟨q.k, q.js, q.qs.set q.k ac, q.q + 1 + 1 + 1, H1⟩) ?_ fun H3 hB => ?_; (focus (refine ⟨?_, ?_, ?_, ?_, ?_, ?_, ?_, ?_⟩ <;> first | omega | (dsimp only; omega) | (simp; done) | (simp; omega) | (simp [upd, nba, Ne.symm nba, nby, Ne.symm nby, nay, Ne.symm nay, v1, v2, v3]; done))); obtain ⟨q2, hq2⟩ : ∃ x, q.q + 1 + 1 + 1 = x := ⟨_, rfl⟩; rw [hq2] at hB) | (refine AW_gen (fun H1 => LB b ab yb ys n1 cy jy p0 ⟨q.k, q.js, q.qs.set q.k ac, q.q + 1 + 1, H1⟩) ?_ fun H3 hB => ?_; (focus (refine ⟨?_, ?_, ?_, ?_, ?_, ?_, ?_, ?_⟩ <;> first | omega | (dsimp only; omega) | (simp; done) | (simp; omega) | (simp [upd, nba, Ne.symm nba, nby, Ne.symm nby, nay, Ne.symm nay, v1, v2, v3]; done))); obtain ⟨q2, hq2⟩ : ∃ x, q.q + 1 + 1 = x := ⟨_, rfl⟩; rw [hq2] at hB) | (refine AW_gen (fun H1 => LB b ab yb ys n1 cy jy p0 ⟨q.k, q.js, q.qs.set q.k ac, q.q + 1, H1⟩) ?_ fun H3 hB => ?_; (focus (refine ⟨?_, ?_, ?_, ?_, ?_, ?_, ?_, ?_⟩ <;> first | omega | (dsimp only; omega) | (simp; done) | (simp; omega) | (simp [upd, nba, Ne.symm nba, nby, Ne.symm nby, nay, Ne.symm nay, v1, v2, v3]; done))); obtain ⟨q2, hq2⟩ : ∃ x, q.q + 1 = x := ⟨_, rfl⟩; rw [hq2] at hB)); (obtain ⟨zz, hzz⟩ : ∃ zz : LA, zz = ⟨q.k + 1, q.js, q.qs.set q.k ac, q2, H3⟩ := ⟨_, rfl⟩); (have hz : LA1 b ab yb ys n1 cy jy p0 zz := (by rw [hzz]; exact hB.skip)); (have z1 : (q.k : Int) + 1 = (zz.k : Int) := (by rw [hzz]; dsimp only; omega)); (have z4 : H3 = zz.H := (by rw [hzz])); (rw [z4]); (clear hzz hB))); refine zaac (id := 9) Γy26_ok [] (by kernel_rfl) ?_; simp  [-List.getD_eq_getElem?_getD, -List.drop_one, ↓zaab, ↓zaaa, go_sem, wrapS (k := q.k) (by omega)]
    | ((obtain ⟨g1, g2, g3, g4, g5, g6, g7, g8⟩ := hq)); refine zaac (id := 13) Γy26_ok [] (by kernel_rfl) ?_; simp  [-List.getD_eq_getElem?_getD, -List.drop_one, ↓zaab, ↓zaaa, go_sem, g6, hl, (show 0 ≤ q.q by omega), (show q.q ≤ 1000000 by omega), (show 0 ≤ q.q + 1 by omega), (show q.q + 1 ≤ 1000000 by omega)]; try ((have hr2 := numI_range ys (p := q.q) (by omega) (xs := [6, 4, 8, 3, 10]) (lo := 3) (hi := 10) (by simp) (by simp)); (generalize numI ys q.q [6, 4, 8, 3, 10] = mm at *); (refine AW_gen (fun H1 => LE2 b ab yb ys n1 cy jy q.q q.js q.qs ⟨[], mm, q.q + 1, H1⟩) ⟨by dsimp only; omega, by simp; omega, SmallT.nil, by dsimp only; omega, by dsimp only; omega, by simp [upd, nba, Ne.symm nba, nby, Ne.symm nby, nay, Ne.symm nay], by simp [upd, nba, Ne.symm nba, nby, Ne.symm nby, nay, Ne.symm nay, g7, cat_nil], by simp [upd, nba, Ne.symm nba, nby, Ne.symm nby, nay, Ne.symm nay, g8]⟩ fun H2 hE => ?_))
    | ((obtain ⟨e1, e2, e3, e4, e5, e6, e7, e8⟩ := id hr)); refine zaac (id := 14) Γy26_ok [] (by kernel_rfl) ?_; simp  [-List.getD_eq_getElem?_getD, -List.drop_one, ↓zaab, ↓zaaa, go_sem]
    | refine zaac (id := 16) Γy26_ok [] (by kernel_rfl) ?_; simp  [-List.getD_eq_getElem?_getD, -List.drop_one, ↓zaab, ↓zaaa, go_sem, e6, hl, (show 0 ≤ r.q by omega), (show r.q ≤ 1000000 by omega), (show 0 ≤ r.q + 1 by omega), (show r.q + 1 ≤ 1000000 by omega)]; try ((generalize numI ys r.q [1, 3, 0, 2, 7] = care at *); (refine AW_gen (fun H1 => H1 b = some [.list ys.length (cat cY ys), .int .i64 (r.q + 1)] ∧ H1 ab = some [.fr 1 q.js.length (cat cI q.js), .sl yb 1 0 n1 cy, .fr 4 r.es.length (cat cT r.es)] ∧ H1 yb = some (cat cB q.qs ++ List.replicate jy .any)) ⟨by simp [upd, nba, Ne.symm nba, nby, Ne.symm nby, nay, Ne.symm nay], by simp [upd, nba, Ne.symm nba, nby, Ne.symm nby, nay, Ne.symm nay, e7], by simp [upd, nba, Ne.symm nba, nby, Ne.symm nby, nay, Ne.symm nay, e8]⟩ fun H3 ⟨v1, v2, v3⟩ => ?_))
    | ((refine AW_matCell ab 2 (all := [.fr 1 q.js.length (cat cI q.js), .sl yb 1 0 n1 cy, .fr 4 r.es.length (cat cT r.es)]) v2 rfl fun zb cz jz hzb hcz hdz => ?_); (have nbz : ¬ b = zb := (by rintro rfl; simp [upd, nba, v1] at hzb)); (have naz : ¬ ab = zb := (by rintro rfl; simp [upd, v2] at hzb)); (have nyz : ¬ yb = zb := (by rintro rfl; simp [upd, v3, Ne.symm nay] at hzb)); (clear hzb)); refine zaao (id := 17) Γy26_ok mixed [(ab, [.fr 1 q.js.length (cat cI q.js), .sl yb 1 0 n1 cy, .sl zb 4 0 r.es.length cz])] [] [0, 9, 5] (by kernel_rfl) (by kernel_rfl) (by simp [-List.getD_eq_getElem?_getD, -List.drop_one, ↓zaab, ↓zaaa, go_sem, v1, hl, nba, Ne.symm nba, nby, Ne.symm nby, nay, Ne.symm nay, nbz, Ne.symm nbz, naz, Ne.symm naz, nyz, Ne.symm nyz, (show 0 ≤ r.q + 1 by omega), (show r.q + 1 ≤ 1000000 by omega), (show 0 ≤ r.q + 1 + 1 by omega), (show r.q + 1 + 1 ≤ 1000000 by omega), (show 0 ≤ r.q + 1 + 1 + 1 by omega), (show r.q + 1 + 1 + 1 ≤ 1000000 by omega), (show 0 ≤ r.q + 1 + 1 + 1 + 1 by omega), (show r.q + 1 + 1 + 1 + 1 ≤ 1000000 by omega), (show (n1 : Int) ≤ 1000000 by omega), (show r.es.length ≤ 9223372036854775806 by omega), (show 2 * (r.es.length + 1) * 32 ≤ 281474976710656 by omega), hdz]) (by simp [-List.getD_eq_getElem?_getD, -List.drop_one, ↓zaab, ↓zaaa, go_sem, v1, hl, nba, Ne.symm nba, nby, Ne.symm nby, nay, Ne.symm nay, nbz, Ne.symm nbz, naz, Ne.symm naz, nyz, Ne.symm nyz, (show 0 ≤ r.q + 1 by omega), (show r.q + 1 ≤ 1000000 by omega), (show 0 ≤ r.q + 1 + 1 by omega), (show r.q + 1 + 1 ≤ 1000000 by omega), (show 0 ≤ r.q + 1 + 1 + 1 by omega), (show r.q + 1 + 1 + 1 ≤ 1000000 by omega), (show 0 ≤ r.q + 1 + 1 + 1 + 1 by omega), (show r.q + 1 + 1 + 1 + 1 ≤ 1000000 by omega), (show (n1 : Int) ≤ 1000000 by omega), (show r.es.length ≤ 9223372036854775806 by omega), (show 2 * (r.es.length + 1) * 32 ≤ 281474976710656 by omega), hdz]) ?_; simp  [-List.getD_eq_getElem?_getD, -List.drop_one, ↓zaab, ↓zaaa, go_sem, v1, hl, nba, Ne.symm nba, nby, Ne.symm nby, nay, Ne.symm nay, nbz, Ne.symm nbz, naz, Ne.symm naz, nyz, Ne.symm nyz, (show 0 ≤ r.q + 1 by omega), (show r.q + 1 ≤ 1000000 by omega), (show 0 ≤ r.q + 1 + 1 by omega), (show r.q + 1 + 1 ≤ 1000000 by omega), (show 0 ≤ r.q + 1 + 1 + 1 by omega), (show r.q + 1 + 1 + 1 ≤ 1000000 by omega), (show 0 ≤ r.q + 1 + 1 + 1 + 1 by omega), (show r.q + 1 + 1 + 1 + 1 ≤ 1000000 by omega), (show (n1 : Int) ≤ 1000000 by omega), (show r.es.length ≤ 9223372036854775806 by omega), (show 2 * (r.es.length + 1) * 32 ≤ 281474976710656 by omega), hdz]; try ((have hsm : bitsD .and .i64 (pkI ys (r.q + 1 + 1) 8) care ≤ 9223372036854775807 := bitsA_le _ _); (refine AW_gen (fun H1 => LE2 b ab yb ys n1 cy jy q.q q.js q.qs ⟨r.es ++ [(pkI ys (r.q + 1) n1, care, bitsD .and .i64 (pkI ys (r.q + 1 + 1) 8) care, pkI ys (r.q + 1 + 1 + 1) n1)], r.m - 1, r.q + 1 + 1 + 1 + 1, H1⟩) ⟨by dsimp only; omega, by simp; omega, e3.snoc hsm, by dsimp only; omega, by dsimp only; omega, by simp [upd, nba, Ne.symm nba, nby, Ne.symm nby, nay, Ne.symm nay, nbz, Ne.symm nbz, naz, Ne.symm naz], by simp [upd, nba, Ne.symm nba, nby, Ne.symm nby, nay, Ne.symm nay, nbz, Ne.symm nbz, naz, Ne.symm naz, snoc_cT], by simp [upd, nba, Ne.symm nba, nby, Ne.symm nby, nay, Ne.symm nay, nbz, Ne.symm nbz, naz, Ne.symm naz, nyz, Ne.symm nyz, v3]⟩ fun H4 hE4 => ?_); (generalize ((pkI ys (r.q + 1) n1, care, bitsD .and .i64 (pkI ys (r.q + 1 + 1) 8) care, pkI ys (r.q + 1 + 1 + 1) n1) : Tr4) = ed at *))
    | refine zaac (id := 15) Γy26_ok [] (by kernel_rfl) ?_; simp  [-List.getD_eq_getElem?_getD, -List.drop_one, ↓zaab, ↓zaaa, go_sem, wrap_in (x := r.m - 1) (by omega) (by omega)]
    | ((obtain ⟨e1, e2, e3, e4, e5, e6, e7, e8⟩ := hr); (refine AW_unmatCell ab 1 (b' := yb) (sz := 1) (m := n1) (cp := cy) (all := [.fr 1 q.js.length (cat cI q.js), .sl yb 1 0 n1 cy, .fr 4 r.es.length (cat cT r.es)]) (cs := cat cB q.qs ++ List.replicate jy .any) e7 rfl nay e8 (by omega) (by simp [zaaj]; omega) (by simp [zaaj]; omega) ?_); (simp only [Nat.mul_one, cat_take_app1c (f := cB) q.qs (List.replicate jy D.any) (n := n1) g3.symm])); refine zaac (id := 18) Γy26_ok [] (by kernel_rfl) ?_; simp  [-List.getD_eq_getElem?_getD, -List.drop_one, ↓zaab, ↓zaaa, go_sem, nba, Ne.symm nba, nby, Ne.symm nby, nay, Ne.symm nay]
    | refine zaaf (c := .tmp 12) ?_; simp [-List.getD_eq_getElem?_getD, -List.drop_one, ↓zaab, ↓zaaa, go_sem]; try first | (refine ⟨?_, ?_⟩ <;> change AW _ _ _ _ _ _) | (refine ⟨fun c12 => ?_, fun c12 => ?_⟩ <;> (try simp [B_iff, B_not] at c12))
    | refine zaaf (c := .tmp 25) ?_; simp [-List.getD_eq_getElem?_getD, -List.drop_one, ↓zaab, ↓zaaa, go_sem]; try first | (refine ⟨?_, ?_⟩ <;> change AW _ _ _ _ _ _) | (refine ⟨fun c25 => ?_, fun c25 => ?_⟩ <;> (try simp [B_iff, B_not] at c25))
    | refine zaaf (c := .tmp 35) ?_; simp [-List.getD_eq_getElem?_getD, -List.drop_one, ↓zaab, ↓zaaa, go_sem]; try first | (refine ⟨?_, ?_⟩ <;> change AW _ _ _ _ _ _) | (refine ⟨fun c35 => ?_, fun c35 => ?_⟩ <;> (try simp [B_iff, B_not] at c35))
    | refine zaaf (c := .tmp 56) ?_; simp [-List.getD_eq_getElem?_getD, -List.drop_one, ↓zaab, ↓zaaa, go_sem]; try first | (refine ⟨?_, ?_⟩ <;> change AW _ _ _ _ _ _) | (refine ⟨fun c56 => ?_, fun c56 => ?_⟩ <;> (try simp [B_iff, B_not] at c56))
    | refine zaaf (c := .tmp 67) ?_; simp [-List.getD_eq_getElem?_getD, -List.drop_one, ↓zaab, ↓zaaa, go_sem]; try first | (refine ⟨?_, ?_⟩ <;> change AW _ _ _ _ _ _) | (refine ⟨fun c67 => ?_, fun c67 => ?_⟩ <;> (try simp [B_iff, B_not] at c67))
    | (refine zaag (id := 0) (AW_loop (ι := LA) (fun q : LA => ⟨(upd (upd (upd (upd (upd (fun _ => .any) 0 (.ptr b 0)) 2 (.box [.nil, .nil, .nil])) 5 (.int .i64 (n1 : Int))) 6 (.ptr ab 0)) 7 (.int .i64 (q.k : Int))), q.H⟩) (fun q => LA1 b ab yb ys n1 cy jy p0 q) (fun q => n1 - q.k) (⟨0, [], List.replicate n1 false, p0 + 1, H2⟩) ?_ ?_ ?_); exact hL; ((repeat' (first | exact zaad (by assumption) | exact zaah | refine zaai ?_ ?_ | refine zaae ?_)) <;> simp [-List.getD_eq_getElem?_getD, -List.drop_one, ↓zaab, ↓zaaa, go_sem]); rintro q hq)
    | (refine ⟨zz, hz, by first | omega | (simp; done) | (simp; omega), ?_⟩; ((repeat' (first | exact zaad (by assumption) | exact zaah | refine zaai ?_ ?_ | refine zaae ?_)) <;> simp [-List.getD_eq_getElem?_getD, -List.drop_one, ↓zaab, ↓zaaa, go_sem, z1]))
    | (refine zaag (id := 2) (AW_loop (ι := LE) (fun r : LE => ⟨(upd (upd (upd (upd (upd (fun _ => .any) 0 (.ptr b 0)) 2 (.box [.nil, .nil, .nil])) 5 (.int .i64 (n1 : Int))) 6 (.ptr ab 0)) 8 (.int .i64 r.m)), r.H⟩) (fun r => LE2 b ab yb ys n1 cy jy q.q q.js q.qs r) (fun r => r.m.toNat) (⟨[], mm, q.q + 1, H2⟩) ?_ ?_ ?_); exact hE; ((repeat' (first | exact zaad (by assumption) | exact zaah | refine zaai ?_ ?_ | refine zaae ?_)) <;> simp [-List.getD_eq_getElem?_getD, -List.drop_one, ↓zaab, ↓zaaa, go_sem]); rintro r hr)
    | (refine ⟨⟨r.es ++ [ed], r.m - 1, r.q + 1 + 1 + 1 + 1, H4⟩, hE4, by first | omega | (simp; done) | (simp; omega), ?_⟩; ((repeat' (first | exact zaad (by assumption) | exact zaah | refine zaai ?_ ?_ | refine zaae ?_)) <;> simp [-List.getD_eq_getElem?_getD, -List.drop_one, ↓zaab, ↓zaaa, go_sem]))
    | (refine zaag ?_)
    | (refine zaap ?_; simp [-List.getD_eq_getElem?_getD, -List.drop_one, ↓zaab, ↓zaaa, go_sem])
    | (refine zaan ?_; simp [-List.getD_eq_getElem?_getD, -List.drop_one, ↓zaab, ↓zaaa, go_sem])
    | (refine AW_ret ?_; try simp [-List.getD_eq_getElem?_getD, -List.drop_one, ↓zaab, ↓zaaa, go_sem, Try.results131])
    | (intro hx; change AW _ _ _ _ _ _)
    | (intro hx; change retR _ _ _ _ _)
    | (refine ⟨?_, ?_⟩ <;> change AW _ _ _ _ _ _)
    | (intro hx; refine ⟨fun hs => ?_, fun hs => ?_⟩)
    | (refine ⟨fun hs => ?_, fun hs => ?_⟩)
    | (refine ⟨?_, fun hs => ?_⟩; change AW _ _ _ _ _ _)
    | (refine ⟨fun hs => ?_, ?_⟩; rotate_left; change AW _ _ _ _ _ _; rotate_left)))
  all_goals (first
    | (refine ⟨p + 1, by omega, by omega, ?_, ?_, ?_⟩ <;> simp [upd, go_sem]; done)
    | (refine ⟨p2, by omega, by omega, ?_, ?_, ?_⟩ <;> simp [upd, go_sem]; done)
    | (refine l7Automaton_ret _ _ _ ((xa, xb, xc)) (p2) ?_ ?_ ?_ ?_; (first | exact Or.inl rfl | exact Or.inr rfl); (focus (simp [-List.getD_eq_getElem?_getD, -List.drop_one, ↓zaab, ↓zaaa, go_sem, Try.results131, dat, datL_map, li, cat_flat2]; done)); (focus ((exact ⟨by dsimp only; omega, by dsimp only; omega, by dsimp only; omega, y4⟩); done)); (focus (refine ⟨?_, ?_⟩ <;> omega)))
    | (refine l7Automaton_ret _ _ _ ((q.js, q.qs, r.es)) (r.q) ?_ ?_ ?_ ?_; (first | exact Or.inl rfl | exact Or.inr rfl); (focus (simp [-List.getD_eq_getElem?_getD, -List.drop_one, ↓zaab, ↓zaaa, go_sem, Try.results131, dat, datL_map, li, cat_flat2, e6, g3, nba, Ne.symm nba, nby, Ne.symm nby, nay, Ne.symm nay]; done)); (focus ((exact ⟨by dsimp only; omega, by dsimp only; omega, by dsimp only; omega, e3⟩); done)); (focus (refine ⟨?_, ?_⟩ <;> omega)))
    | skip)
noncomputable def l7AutomatonC : Con := .rel fun args H => match args with
  | [.ptr b 0] => match H b with
    | some [.list m cs, .int .i64 p] => ((Is cY m cs) ∧ (m ≤ 2000) ∧ (0 ≤ p) ∧ (p + 300 ≤ 1000000), fun c => (l7Automaton_enc (zaar p c).1, upd H b (some [.list m cs, .int .i64 (zaar p c).2])))
    | _ => (False, fun _ => (.any, H))
  | _ => (False, fun _ => (.any, H))
attribute [go_sem] l7AutomatonC
theorem l7AutomatonC_ok : ConOk Try.prog 131 l7AutomatonC := by
  refine ⟨zaal Try.func131 (by decide) rfl, fun args H h => ?_⟩
  revert h
  dsimp only
  split
  · split
    · rename_i hH
      intro h
      obtain ⟨⟨ys, rfl, rfl⟩, hl, h0_, hp_⟩ := h
      try simp only [de_cat] at *
      exact SpecR.enc ((l7Automaton_spec ys _ _ hl h0_ hp_ ).frame hH).shut fun c => Prod.ext (l7Automaton_okD  _ _).2.symm rfl
    · intro h; exact h.elim
  · intro h
    exact h.elim
noncomputable def Γy27 : FuncId → Con := ext Γy26 131 l7AutomatonC
attribute [go_sem] Γy27
theorem Γy27_ok : ∀ g, ConOk Try.prog g (Γy27 g) := ext_ok Γy26_ok l7AutomatonC_ok

end Go.Proofs.Ytkjimmkemnmajaa.Vm

