/-
  Draws: automata bent; arguments. No conditions.
-/
import Derived.Test.YtkjimmkemnmajaaY8
namespace Go.Proofs.Ytkjimmkemnmajaa.Vm
open Go
set_option linter.unusedVariables false
set_option linter.unusedSimpArgs false
set_option maxRecDepth 200000

theorem SmallT.cons {x : Tr4} {xs : List Tr4} : SmallT (x :: xs) ↔ x.2.2.1 ≤ 9223372036854775807 ∧ SmallT xs := by
  constructor
  · intro h
    exact ⟨h 0 (by simp), fun i hi => h (i + 1) (by simp; omega)⟩
  · rintro ⟨h1, h2⟩ i hi
    cases i with
    | zero => exact h1
    | succ i => exact h2 i (by simpa using hi)
theorem set_cT : ∀ (c : List Tr4) (ys : List D) (i : Nat) (v : Int), i < c.length * 4 → ∃ c' : List Tr4, c'.length = c.length ∧ (SmallT c → v ≤ 9223372036854775807 → SmallT c') ∧ (cat cT c ++ ys).set i (.int .i64 v) = cat cT c' ++ ys
  | [], ys, i, v, h => by simp at h
  | x :: c, ys, 0, v, h => ⟨(v, x.2) :: c, by simp, fun k _ => by rw [SmallT.cons] at k ⊢; exact k, rfl⟩
  | x :: c, ys, 1, v, h => ⟨(x.1, v, x.2.2) :: c, by simp, fun k _ => by rw [SmallT.cons] at k ⊢; exact k, rfl⟩
  | x :: c, ys, 2, v, h => ⟨(x.1, x.2.1, v, x.2.2.2) :: c, by simp, fun k hv => by rw [SmallT.cons] at k ⊢; exact ⟨hv, k.2⟩, rfl⟩
  | x :: c, ys, 3, v, h => ⟨(x.1, x.2.1, x.2.2.1, v) :: c, by simp, fun k _ => by rw [SmallT.cons] at k ⊢; exact k, rfl⟩
  | x :: c, ys, i + 4, v, h => by
    obtain ⟨c', h1, h2, h3⟩ := set_cT c ys i v (by simp only [List.length_cons] at h; omega)
    refine ⟨x :: c', by simp [h1], fun k hv => ?_, ?_⟩
    · rw [SmallT.cons] at k ⊢; exact ⟨k.1, h2 k.2 hv⟩
    · show (cT x ++ cat cT c ++ ys).set (i + 4) _ = cT x ++ cat cT c' ++ ys
      rw [List.append_assoc, List.append_assoc, ← h3]
      rfl
def LM (b ab zb : Nat) (ys : List UInt8) (a : List Int) (e : List Bool) (g : List Tr4) (cz jz : Nat) (q : Int) (H : Hp) : Prop := H b = some [.list ys.length (cat cY ys), .int .i64 (q)] ∧ H ab = some [.fr 1 a.length (cat cI a), .fr 1 e.length (cat cB e), .sl zb 4 0 g.length cz] ∧ H zb = some (cat cT g ++ List.replicate jz .any)

noncomputable def l7Mutate_enc : Au → D := sA
attribute [go_sem] l7Mutate_enc
theorem l7Mutate_flat (x : Au) : dat (l7Mutate_enc x) = l7Mutate_enc x := by simp [go_sem]
def l7Mutate_good (a : List Int) (e : List Bool) (g : List Tr4) : Au → Prop := fun x => x.1.length ≤ 5001 ∧ x.2.1.length ≤ 5000 ∧ x.2.2.length ≤ 5000 ∧ SmallT x.2.2
def l7Mutate_gd (a : List Int) (e : List Bool) (g : List Tr4) (x : (Au) × D) : Prop := l7Mutate_good a e g x.1 ∧ dat x.2 = l7Mutate_enc x.1
noncomputable def l7Mutate_selD (a : List Int) (e : List Bool) (g : List Tr4) (p : Int) (c : Any) : ((Au) × D) × Int := dsel (l7Mutate_gd a e g) ((([], [], []) : Au), l7Mutate_enc (([], [], []))) 3 p c
noncomputable def l7Mutate_sel (a : List Int) (e : List Bool) (g : List Tr4) (p : Int) (c : Any) : (Au) × Int := ((l7Mutate_selD a e g p c).1.1, (l7Mutate_selD a e g p c).2)
theorem l7Mutate_okD (a : List Int) (e : List Bool) (g : List Tr4) (hS : AuS (a, e, g)) (p : Int) (c : Any) : (l7Mutate_good a e g (l7Mutate_sel a e g p c).1 ∧ p ≤ (l7Mutate_sel a e g p c).2 ∧ (l7Mutate_sel a e g p c).2 ≤ p + 3) ∧ dat (l7Mutate_selD a e g p c).1.2 = l7Mutate_enc (l7Mutate_sel a e g p c).1 := by
  have hx : l7Mutate_good a e g (([], [], [])) := ⟨by simp, by simp, by simp, SmallT.nil⟩
  have h := dsel_ok (good := l7Mutate_gd a e g) (x0 := ((([], [], []) : Au), l7Mutate_enc (([], [], [])))) ⟨hx, l7Mutate_flat _⟩ (K := 3) (by omega) (p := p) c
  exact ⟨⟨h.1.1, h.2.1, h.2.2⟩, h.1.2⟩
theorem l7Mutate_ok (a : List Int) (e : List Bool) (g : List Tr4) (hS : AuS (a, e, g)) (p : Int) (c : Any) : l7Mutate_good a e g (l7Mutate_sel a e g p c).1 ∧ p ≤ (l7Mutate_sel a e g p c).2 ∧ (l7Mutate_sel a e g p c).2 ≤ p + 3 := (l7Mutate_okD a e g hS p c).1
theorem l7Mutate_ret (a : List Int) (e : List Bool) (g : List Tr4) (ys : List UInt8) (p : Int) (b : Nat) {e_ : Exit} {S_ : St} (x : Au) (p' : Int) (he_ : e_ = .ret ∨ e_ = .normal)
    (h1 : (zaak Try.prog S_ Try.f130.results.toList).1 ∧ dat (resD (zaak Try.prog S_ Try.f130.results.toList).2.1) = l7Mutate_enc x ∧ (zaak Try.prog S_ Try.f130.results.toList).2.2.H b = some [li cY ys, .int .i64 p']) (hg : l7Mutate_good a e g x) (h2 : p ≤ p' ∧ p' ≤ p + 3) :
    retR Try.prog Try.f130 (fun c => ((l7Mutate_selD a e g p c).1.2, one b [li cY ys, .int .i64 (l7Mutate_selD a e g p c).2])) e_ S_ :=
  ret_draw (good := l7Mutate_gd a e g) (enc := fun x : (Au) × D => x.2) (cells := fun q => [li cY ys, .int .i64 q]) (x, resD (zaak Try.prog S_ Try.f130.results.toList).2.1) p' he_ ⟨h1.1, rfl, h1.2.2⟩ ⟨hg, h1.2.1⟩ h2
set_option maxHeartbeats 16000000 in
theorem l7Mutate_spec (ys : List UInt8) (p : Int) (b : Nat) (a : List Int) (e : List Bool) (g : List Tr4) (hl : ys.length ≤ 2000) (h0_ : 0 ≤ p) (hp_ : p + 3 ≤ 1000000) (hS : AuS (a, e, g)) : SpecR Try.prog 130 [.ptr b 0, .st [li cI a, li cB e, li cT g]] (one b [li cY ys, .int .i64 p]) (fun c => ((l7Mutate_selD a e g p c).1.2, one b [li cY ys, .int .i64 (l7Mutate_selD a e g p c).2])) := by
  refine SpecR.of_walk Try.func130 rfl (by simp [Try.f130]) fun B => ?_
  obtain ⟨s1, s2, s3, s4⟩ := hS; dsimp only at s1 s2 s3 s4
  all_goals (repeat' (first
    | refine AW_seq ?_
    | refine zaac (id := 0) Γy27_ok [] (by kernel_rfl) ?_; simp  [-List.getD_eq_getElem?_getD, -List.drop_one, ↓zaab, ↓zaaa, go_sem]; try (refine AW_shut 3 ?_; simp [go_sem])
    | refine AW_region_draw (id := 1) Γy27_ok mixed [] [3] (by kernel_rfl) (by kernel_rfl) (by simp [-List.getD_eq_getElem?_getD, -List.drop_one, ↓zaab, ↓zaaa, go_sem, (show a.length ≤ 9223372036854775807 by omega), (show 2 * a.length * 8 ≤ 281474976710656 by omega), (show e.length ≤ 9223372036854775807 by omega), (show 2 * e.length * 1 ≤ 281474976710656 by omega), (show 2 * e.length ≤ 281474976710656 by omega), (show g.length ≤ 9223372036854775807 by omega), (show 2 * g.length * 32 ≤ 281474976710656 by omega)]) ?_; simp  [-List.getD_eq_getElem?_getD, -List.drop_one, ↓zaab, ↓zaaa, go_sem, (show a.length ≤ 9223372036854775807 by omega), (show 2 * a.length * 8 ≤ 281474976710656 by omega), (show e.length ≤ 9223372036854775807 by omega), (show 2 * e.length * 1 ≤ 281474976710656 by omega), (show 2 * e.length ≤ 281474976710656 by omega), (show g.length ≤ 9223372036854775807 by omega), (show 2 * g.length * 32 ≤ 281474976710656 by omega)]; try ((refine AW_matBox 5 rfl fun ab hab => ?_); (have nba : ¬ b = ab := (by rintro rfl; simp [upd] at hab)); (clear hab); (refine AW_matCell ab 2 (all := [.fr 1 a.length (cat cI a), .fr 1 e.length (cat cB e), .fr 4 g.length (cat cT g)]) (by simp [upd]) rfl fun zb cz jz hzb hcz hdz => ?_); (have nbz : ¬ b = zb := (by rintro rfl; simp [upd, nba] at hzb)); (have naz : ¬ ab = zb := (by rintro rfl; simp [upd] at hzb)); (clear hzb); (refine AW_gen (fun H1 => LM b ab zb ys a e g cz jz p H1) ⟨by simp [upd, nba, Ne.symm nba, nbz, Ne.symm nbz, naz, Ne.symm naz], by simp [upd, nba, Ne.symm nba, nbz, Ne.symm nbz, naz, Ne.symm naz], by simp [upd]⟩ fun H1 ⟨w1, w2, w3⟩ => ?_))
    | refine zaac (id := 2) Γy27_ok [] (by kernel_rfl) ?_; simp  [-List.getD_eq_getElem?_getD, -List.drop_one, ↓zaab, ↓zaaa, go_sem, w1, hl, (show 0 ≤ p by omega), (show p ≤ 1000000 by omega), (show 0 ≤ p + 1 by omega), (show p + 1 ≤ 1000000 by omega)]; try ((generalize pkI ys p 40 = kk at *); (refine AW_gen (fun H2 => LM b ab zb ys a e g cz jz (p + 1) H2) ⟨by simp [upd, nba, Ne.symm nba, nbz, Ne.symm nbz, naz, Ne.symm naz], by simp [upd, nba, Ne.symm nba, nbz, Ne.symm nbz, naz, Ne.symm naz, w2], by simp [upd, nba, Ne.symm nba, nbz, Ne.symm nbz, naz, Ne.symm naz, w3]⟩ fun H2 ⟨w1, w2, w3⟩ => ?_))
    | refine zaac (id := 3) Γy27_ok [] (by kernel_rfl) ?_; simp  [-List.getD_eq_getElem?_getD, -List.drop_one, ↓zaab, ↓zaaa, go_sem]
    | ((refine AW_matCell ab 0 (all := [.fr 1 a.length (cat cI a), .fr 1 e.length (cat cB e), .sl zb 4 0 g.length cz]) w2 rfl fun xb cx jx hxb hcx hdx => ?_); (have nbx : ¬ b = xb := (by rintro rfl; simp [upd, nba, w1] at hxb)); (have nax : ¬ ab = xb := (by rintro rfl; simp [upd, w2] at hxb)); (have nzx : ¬ zb = xb := (by rintro rfl; simp [upd, Ne.symm naz, w3] at hxb)); (clear hxb)); refine zaao (id := 4) Γy27_ok mixed [(ab, [.sl xb 1 0 a.length cx, .fr 1 e.length (cat cB e), .sl zb 4 0 g.length cz])] [] [] (by kernel_rfl) (by kernel_rfl) (by simp [-List.getD_eq_getElem?_getD, -List.drop_one, ↓zaab, ↓zaaa, go_sem, w1, hl, nba, Ne.symm nba, nbz, Ne.symm nbz, naz, Ne.symm naz, nbx, Ne.symm nbx, nax, Ne.symm nax, nzx, Ne.symm nzx, (show 0 ≤ p + 1 by omega), (show p + 1 ≤ 1000000 by omega), (show 0 ≤ p + 1 + 1 by omega), (show p + 1 + 1 ≤ 1000000 by omega), (show a.length ≤ 9223372036854775806 by omega), (show 2 * (a.length + 1) * 8 ≤ 281474976710656 by omega), (show cx ≤ a.length + jx by omega)]) (by simp [-List.getD_eq_getElem?_getD, -List.drop_one, ↓zaab, ↓zaaa, go_sem, w1, hl, nba, Ne.symm nba, nbz, Ne.symm nbz, naz, Ne.symm naz, nbx, Ne.symm nbx, nax, Ne.symm nax, nzx, Ne.symm nzx, (show 0 ≤ p + 1 by omega), (show p + 1 ≤ 1000000 by omega), (show 0 ≤ p + 1 + 1 by omega), (show p + 1 + 1 ≤ 1000000 by omega), (show a.length ≤ 9223372036854775806 by omega), (show 2 * (a.length + 1) * 8 ≤ 281474976710656 by omega), (show cx ≤ a.length + jx by omega)]) ?_; simp  [-List.getD_eq_getElem?_getD, -List.drop_one, ↓zaab, ↓zaaa, go_sem, w1, hl, nba, Ne.symm nba, nbz, Ne.symm nbz, naz, Ne.symm naz, nbx, Ne.symm nbx, nax, Ne.symm nax, nzx, Ne.symm nzx, (show 0 ≤ p + 1 by omega), (show p + 1 ≤ 1000000 by omega), (show 0 ≤ p + 1 + 1 by omega), (show p + 1 + 1 ≤ 1000000 by omega), (show a.length ≤ 9223372036854775806 by omega), (show 2 * (a.length + 1) * 8 ≤ 281474976710656 by omega), (show cx ≤ a.length + jx by omega)]; try ((generalize numI ys (p + 1) [0, -1, 64, 3] = vv at *); (refine AW_gen (fun H3 => LM b ab zb ys (a ++ [vv]) e g cz jz (p + 1 + 1) H3) ⟨by simp [upd, nba, Ne.symm nba, nbz, Ne.symm nbz, naz, Ne.symm naz, nbx, Ne.symm nbx, nax, Ne.symm nax], by simp [upd, nba, Ne.symm nba, nbz, Ne.symm nbz, naz, Ne.symm naz, nax, Ne.symm nax, snoc_cI], by simp [upd, nba, Ne.symm nba, nbz, Ne.symm nbz, naz, Ne.symm naz, nzx, Ne.symm nzx, w3]⟩ fun H3 hM => ?_))
    | refine zaac (id := 5) Γy27_ok [] (by kernel_rfl) ?_; simp  [-List.getD_eq_getElem?_getD, -List.drop_one, ↓zaab, ↓zaaa, go_sem]
    | refine zaac (id := 6) Γy27_ok [] (by kernel_rfl) ?_; simp  [-List.getD_eq_getElem?_getD, -List.drop_one, ↓zaab, ↓zaaa, go_sem, w2]
    | ((have hc0 : 0 < g.length := (by omega))); refine zaao (id := 7) Γy27_ok mixed [(ab, [.fr 1 a.length (cat cI a), .fr 1 e.length (cat cB e), .sl zb 4 0 g.length cz])] [] [] (by kernel_rfl) (by kernel_rfl) (by simp [-List.getD_eq_getElem?_getD, -List.drop_one, ↓zaab, ↓zaaa, go_sem, w1, w2, w3, hl, nba, Ne.symm nba, nbz, Ne.symm nbz, naz, Ne.symm naz, (show 0 ≤ p + 1 by omega), (show p + 1 ≤ 1000000 by omega), (show 0 ≤ p + 1 + 1 by omega), (show p + 1 + 1 ≤ 1000000 by omega), hc0, (show 4 ≤ g.length * 4 + jz by omega), (show 2 < g.length * 4 + jz by omega), (show 3 ≤ g.length * 4 + jz by omega)]) (by simp [-List.getD_eq_getElem?_getD, -List.drop_one, ↓zaab, ↓zaaa, go_sem, w1, w2, w3, hl, nba, Ne.symm nba, nbz, Ne.symm nbz, naz, Ne.symm naz, (show 0 ≤ p + 1 by omega), (show p + 1 ≤ 1000000 by omega), (show 0 ≤ p + 1 + 1 by omega), (show p + 1 + 1 ≤ 1000000 by omega), hc0, (show 4 ≤ g.length * 4 + jz by omega), (show 2 < g.length * 4 + jz by omega), (show 3 ≤ g.length * 4 + jz by omega)]) ?_; simp  [-List.getD_eq_getElem?_getD, -List.drop_one, ↓zaab, ↓zaaa, go_sem, w1, w2, w3, hl, nba, Ne.symm nba, nbz, Ne.symm nbz, naz, Ne.symm naz, (show 0 ≤ p + 1 by omega), (show p + 1 ≤ 1000000 by omega), (show 0 ≤ p + 1 + 1 by omega), (show p + 1 + 1 ≤ 1000000 by omega), hc0, (show 4 ≤ g.length * 4 + jz by omega), (show 2 < g.length * 4 + jz by omega), (show 3 ≤ g.length * 4 + jz by omega)]; try ((have hrv := numI_range ys (p := p + 1) (by omega) (xs := [8, -1, 7]) (lo := -1) (hi := 8) (by simp) (by simp)); (generalize numI ys (p + 1) [8, -1, 7] = vv at *); (obtain ⟨g', hc1, hc2, hc3⟩ := set_cT g (List.replicate jz D.any) 2 vv (by omega)); (have hc4 : stSeg (cat cT g ++ List.replicate jz D.any) (2) [.int .i64 vv] = cat cT g' ++ List.replicate jz D.any := hc3); (refine AW_gen (fun H1 => LM b ab zb ys a e g' cz jz (p + 1 + 1) H1) ⟨by simp [upd, nba, Ne.symm nba, nbz, Ne.symm nbz, naz, Ne.symm naz], by simp [upd, nba, Ne.symm nba, nbz, Ne.symm nbz, naz, Ne.symm naz, w2, hc1], by simp [upd, nba, Ne.symm nba, nbz, Ne.symm nbz, naz, Ne.symm naz, hc4]⟩ fun H2 hM => ?_))
    | refine zaac (id := 8) Γy27_ok [] (by kernel_rfl) ?_; simp  [-List.getD_eq_getElem?_getD, -List.drop_one, ↓zaab, ↓zaaa, go_sem]
    | refine zaac (id := 9) Γy27_ok [] (by kernel_rfl) ?_; simp  [-List.getD_eq_getElem?_getD, -List.drop_one, ↓zaab, ↓zaaa, go_sem, w2]
    | ((have hc0 : 0 < g.length := (by omega))); refine zaao (id := 10) Γy27_ok mixed [(ab, [.fr 1 a.length (cat cI a), .fr 1 e.length (cat cB e), .sl zb 4 0 g.length cz])] [] [] (by kernel_rfl) (by kernel_rfl) (by simp [-List.getD_eq_getElem?_getD, -List.drop_one, ↓zaab, ↓zaaa, go_sem, w1, w2, w3, hl, nba, Ne.symm nba, nbz, Ne.symm nbz, naz, Ne.symm naz, (show 0 ≤ p + 1 by omega), (show p + 1 ≤ 1000000 by omega), (show 0 ≤ p + 1 + 1 by omega), (show p + 1 + 1 ≤ 1000000 by omega), hc0, (show 4 ≤ g.length * 4 + jz by omega), (show 3 < g.length * 4 + jz by omega)]) (by simp [-List.getD_eq_getElem?_getD, -List.drop_one, ↓zaab, ↓zaaa, go_sem, w1, w2, w3, hl, nba, Ne.symm nba, nbz, Ne.symm nbz, naz, Ne.symm naz, (show 0 ≤ p + 1 by omega), (show p + 1 ≤ 1000000 by omega), (show 0 ≤ p + 1 + 1 by omega), (show p + 1 + 1 ≤ 1000000 by omega), hc0, (show 4 ≤ g.length * 4 + jz by omega), (show 3 < g.length * 4 + jz by omega)]) ?_; simp  [-List.getD_eq_getElem?_getD, -List.drop_one, ↓zaab, ↓zaaa, go_sem, w1, w2, w3, hl, nba, Ne.symm nba, nbz, Ne.symm nbz, naz, Ne.symm naz, (show 0 ≤ p + 1 by omega), (show p + 1 ≤ 1000000 by omega), (show 0 ≤ p + 1 + 1 by omega), (show p + 1 + 1 ≤ 1000000 by omega), hc0, (show 4 ≤ g.length * 4 + jz by omega), (show 3 < g.length * 4 + jz by omega)]; try ((have hrv := numI_range ys (p := p + 1) (by omega) (xs := [-1, 0, 64, 9223372036854775807]) (lo := -1) (hi := 9223372036854775807) (by simp) (by simp)); (generalize numI ys (p + 1) [-1, 0, 64, 9223372036854775807] = vv at *); (obtain ⟨g', hc1, hc2, hc3⟩ := set_cT g (List.replicate jz D.any) 3 vv (by omega)); (have hc4 : stSeg (cat cT g ++ List.replicate jz D.any) (3) [.int .i64 vv] = cat cT g' ++ List.replicate jz D.any := hc3); (refine AW_gen (fun H1 => LM b ab zb ys a e g' cz jz (p + 1 + 1) H1) ⟨by simp [upd, nba, Ne.symm nba, nbz, Ne.symm nbz, naz, Ne.symm naz], by simp [upd, nba, Ne.symm nba, nbz, Ne.symm nbz, naz, Ne.symm naz, w2, hc1], by simp [upd, nba, Ne.symm nba, nbz, Ne.symm nbz, naz, Ne.symm naz, hc4]⟩ fun H2 hM => ?_))
    | refine zaac (id := 11) Γy27_ok [] (by kernel_rfl) ?_; simp  [-List.getD_eq_getElem?_getD, -List.drop_one, ↓zaab, ↓zaaa, go_sem]
    | refine zaac (id := 12) Γy27_ok [] (by kernel_rfl) ?_; simp  [-List.getD_eq_getElem?_getD, -List.drop_one, ↓zaab, ↓zaaa, go_sem]
    | refine zaac (id := 13) Γy27_ok [] (by kernel_rfl) ?_; simp  [-List.getD_eq_getElem?_getD, -List.drop_one, ↓zaab, ↓zaaa, go_sem]
    | refine zaac (id := 14) Γy27_ok [] (by kernel_rfl) ?_; simp  [-List.getD_eq_getElem?_getD, -List.drop_one, ↓zaab, ↓zaaa, go_sem, w2]
    | ((have hc0 : 0 < g.length := (by omega))); refine zaao (id := 15) Γy27_ok mixed [(ab, [.fr 1 a.length (cat cI a), .fr 1 e.length (cat cB e), .sl zb 4 0 g.length cz])] [] [5] (by kernel_rfl) (by kernel_rfl) (by simp [-List.getD_eq_getElem?_getD, -List.drop_one, ↓zaab, ↓zaaa, go_sem, w1, w2, w3, hl, nba, Ne.symm nba, nbz, Ne.symm nbz, naz, Ne.symm naz, (show 0 ≤ p + 1 by omega), (show p + 1 ≤ 1000000 by omega), (show 0 ≤ p + 1 + 1 by omega), (show p + 1 + 1 ≤ 1000000 by omega), hc0, wrap_in (x := (g.length : Int) - 1) (by omega) (by omega), (show 0 ≤ (g.length : Int) - 1 by omega), (show (g.length : Int) - 1 < (g.length : Int) by omega), (show ((g.length : Int) - 1).toNat = g.length - 1 by omega), (show (g.length - 1) * 4 + 4 ≤ g.length * 4 + jz by omega), (show (g.length - 1) * 4 + 1 < g.length * 4 + jz by omega), (show (1 : Int) ≤ (g.length : Int) by omega), (show (g.length - 1) * 4 + 1 + 1 ≤ g.length * 4 + jz by omega), (show g.length - 1 < g.length by omega)]) (by simp [-List.getD_eq_getElem?_getD, -List.drop_one, ↓zaab, ↓zaaa, go_sem, w1, w2, w3, hl, nba, Ne.symm nba, nbz, Ne.symm nbz, naz, Ne.symm naz, (show 0 ≤ p + 1 by omega), (show p + 1 ≤ 1000000 by omega), (show 0 ≤ p + 1 + 1 by omega), (show p + 1 + 1 ≤ 1000000 by omega), hc0, wrap_in (x := (g.length : Int) - 1) (by omega) (by omega), (show 0 ≤ (g.length : Int) - 1 by omega), (show (g.length : Int) - 1 < (g.length : Int) by omega), (show ((g.length : Int) - 1).toNat = g.length - 1 by omega), (show (g.length - 1) * 4 + 4 ≤ g.length * 4 + jz by omega), (show (g.length - 1) * 4 + 1 < g.length * 4 + jz by omega), (show (1 : Int) ≤ (g.length : Int) by omega), (show (g.length - 1) * 4 + 1 + 1 ≤ g.length * 4 + jz by omega), (show g.length - 1 < g.length by omega)]) ?_; simp  [-List.getD_eq_getElem?_getD, -List.drop_one, ↓zaab, ↓zaaa, go_sem, w1, w2, w3, hl, nba, Ne.symm nba, nbz, Ne.symm nbz, naz, Ne.symm naz, (show 0 ≤ p + 1 by omega), (show p + 1 ≤ 1000000 by omega), (show 0 ≤ p + 1 + 1 by omega), (show p + 1 + 1 ≤ 1000000 by omega), hc0, wrap_in (x := (g.length : Int) - 1) (by omega) (by omega), (show 0 ≤ (g.length : Int) - 1 by omega), (show (g.length : Int) - 1 < (g.length : Int) by omega), (show ((g.length : Int) - 1).toNat = g.length - 1 by omega), (show (g.length - 1) * 4 + 4 ≤ g.length * 4 + jz by omega), (show (g.length - 1) * 4 + 1 < g.length * 4 + jz by omega), (show (1 : Int) ≤ (g.length : Int) by omega), (show (g.length - 1) * 4 + 1 + 1 ≤ g.length * 4 + jz by omega), (show g.length - 1 < g.length by omega)]; try ((have hrv := numI_range ys (p := p + 1) (by omega) (xs := [8, -1, 0]) (lo := -1) (hi := 8) (by simp) (by simp)); (generalize numI ys (p + 1) [8, -1, 0] = vv at *); (obtain ⟨g', hc1, hc2, hc3⟩ := set_cT g (List.replicate jz D.any) ((g.length - 1) * 4 + 1) vv (by omega)); (have hc4 : stSeg (cat cT g ++ List.replicate jz D.any) (((g.length - 1) * 4 + 1)) [.int .i64 vv] = cat cT g' ++ List.replicate jz D.any := hc3); (refine AW_gen (fun H1 => LM b ab zb ys a e g' cz jz (p + 1 + 1) H1) ⟨by simp [upd, nba, Ne.symm nba, nbz, Ne.symm nbz, naz, Ne.symm naz], by simp [upd, nba, Ne.symm nba, nbz, Ne.symm nbz, naz, Ne.symm naz, w2, hc1], by simp [upd, nba, Ne.symm nba, nbz, Ne.symm nbz, naz, Ne.symm naz, hc4]⟩ fun H2 hM => ?_))
    | (first | (obtain ⟨t1, t2, t3⟩ := hM; refine AW_unmatCell ab 2 (b' := zb) (sz := 4) (m := g'.length) (cp := cz) (all := [.fr 1 a.length (cat cI a), .fr 1 e.length (cat cB e), .sl zb 4 0 g'.length cz]) (cs := cat cT g' ++ List.replicate jz .any) t2 rfl naz t3 (by omega) (by simp [zaaj]) (by simp [zaaj, hc1]; omega) ?_; simp only [cat_take_app (f := cT)]) | (obtain ⟨t1, t2, t3⟩ := hM; obtain ⟨a', ha'⟩ : ∃ a', a ++ [vv] = a' := ⟨_, rfl⟩; have hal : a'.length = a.length + 1 := (by rw [← ha']; simp); rw [ha'] at t2; refine AW_unmatCell ab 2 (b' := zb) (sz := 4) (m := g.length) (cp := cz) (all := [.fr 1 a'.length (cat cI a'), .fr 1 e.length (cat cB e), .sl zb 4 0 g.length cz]) (cs := cat cT g ++ List.replicate jz .any) t2 rfl naz t3 (by omega) (by simp [zaaj]) (by simp [zaaj]; omega) ?_; simp only [cat_take_app (f := cT)]) | (have t1 := w1; refine AW_unmatCell ab 2 (b' := zb) (sz := 4) (m := g.length) (cp := cz) (all := [.fr 1 a.length (cat cI a), .fr 1 e.length (cat cB e), .sl zb 4 0 g.length cz]) (cs := cat cT g ++ List.replicate jz .any) w2 rfl naz w3 (by omega) (by simp [zaaj]) (by simp [zaaj]; omega) ?_; simp only [cat_take_app (f := cT)])); refine zaac (id := 16) Γy27_ok [] (by kernel_rfl) ?_; simp  [-List.getD_eq_getElem?_getD, -List.drop_one, ↓zaab, ↓zaaa, go_sem, nba, Ne.symm nba, nbz, Ne.symm nbz, naz, Ne.symm naz]
    | refine zaaf (c := .tmp 21) ?_; simp [-List.getD_eq_getElem?_getD, -List.drop_one, ↓zaab, ↓zaaa, go_sem]; try first | (refine ⟨?_, ?_⟩ <;> change AW _ _ _ _ _ _) | (refine ⟨fun c21 => ?_, fun c21 => ?_⟩ <;> (try simp [B_iff, B_not] at c21))
    | refine zaaf (c := .tmp 31) ?_; simp [-List.getD_eq_getElem?_getD, -List.drop_one, ↓zaab, ↓zaaa, go_sem]; try first | (refine ⟨?_, ?_⟩ <;> change AW _ _ _ _ _ _) | (refine ⟨fun c31 => ?_, fun c31 => ?_⟩ <;> (try simp [B_iff, B_not] at c31))
    | refine zaaf (c := .tmp 36) ?_; simp [-List.getD_eq_getElem?_getD, -List.drop_one, ↓zaab, ↓zaaa, go_sem]; try first | (refine ⟨?_, ?_⟩ <;> change AW _ _ _ _ _ _) | (refine ⟨fun c36 => ?_, fun c36 => ?_⟩ <;> (try simp [B_iff, B_not] at c36))
    | refine zaaf (c := .tmp 44) ?_; simp [-List.getD_eq_getElem?_getD, -List.drop_one, ↓zaab, ↓zaaa, go_sem]; try first | (refine ⟨?_, ?_⟩ <;> change AW _ _ _ _ _ _) | (refine ⟨fun c44 => ?_, fun c44 => ?_⟩ <;> (try simp [B_iff, B_not] at c44))
    | refine zaaf (c := .tmp 49) ?_; simp [-List.getD_eq_getElem?_getD, -List.drop_one, ↓zaab, ↓zaaa, go_sem]; try first | (refine ⟨?_, ?_⟩ <;> change AW _ _ _ _ _ _) | (refine ⟨fun c49 => ?_, fun c49 => ?_⟩ <;> (try simp [B_iff, B_not] at c49))
    | refine zaaf (c := .tmp 57) ?_; simp [-List.getD_eq_getElem?_getD, -List.drop_one, ↓zaab, ↓zaaa, go_sem]; try first | (refine ⟨?_, ?_⟩ <;> change AW _ _ _ _ _ _) | (refine ⟨fun c57 => ?_, fun c57 => ?_⟩ <;> (try simp [B_iff, B_not] at c57))
    | refine zaaf (c := .tmp 60) ?_; simp [-List.getD_eq_getElem?_getD, -List.drop_one, ↓zaab, ↓zaaa, go_sem]; try first | (refine ⟨?_, ?_⟩ <;> change AW _ _ _ _ _ _) | (refine ⟨fun c60 => ?_, fun c60 => ?_⟩ <;> (try simp [B_iff, B_not] at c60))
    | refine zaaf (c := .tmp 65) ?_; simp [-List.getD_eq_getElem?_getD, -List.drop_one, ↓zaab, ↓zaaa, go_sem]; try first | (refine ⟨?_, ?_⟩ <;> change AW _ _ _ _ _ _) | (refine ⟨fun c65 => ?_, fun c65 => ?_⟩ <;> (try simp [B_iff, B_not] at c65))
    | (refine zaag ?_)
    | (refine zaap ?_; simp [-List.getD_eq_getElem?_getD, -List.drop_one, ↓zaab, ↓zaaa, go_sem])
    | (refine zaan ?_; simp [-List.getD_eq_getElem?_getD, -List.drop_one, ↓zaab, ↓zaaa, go_sem])
    | (refine AW_ret ?_; try simp [-List.getD_eq_getElem?_getD, -List.drop_one, ↓zaab, ↓zaaa, go_sem, Try.results130])
    | (intro hx; change AW _ _ _ _ _ _)
    | (intro hx; change retR _ _ _ _ _)
    | (refine ⟨?_, ?_⟩ <;> change AW _ _ _ _ _ _)
    | (intro hx; refine ⟨fun hs => ?_, fun hs => ?_⟩)
    | (refine ⟨fun hs => ?_, fun hs => ?_⟩)
    | (refine ⟨?_, fun hs => ?_⟩; change AW _ _ _ _ _ _)
    | (refine ⟨fun hs => ?_, ?_⟩; rotate_left; change AW _ _ _ _ _ _; rotate_left)
    | ((fail_if_success change retR _ _ _ _ _); (exfalso; omega))))
  all_goals (first
    | (refine l7Mutate_ret _ _ _ _ _ _ (([], [], [])) (p + 1) ?_ ?_ ?_ ?_; (first | exact Or.inl rfl | exact Or.inr rfl); (focus (simp [-List.getD_eq_getElem?_getD, -List.drop_one, ↓zaab, ↓zaaa, go_sem, Try.results130, dat, datL, datL_map, li, cat_nil, w1, nba, Ne.symm nba, nbz, Ne.symm nbz, naz, Ne.symm naz]; done)); (focus ((exact ⟨by simp, by simp, by simp, SmallT.nil⟩); done)); (focus (refine ⟨?_, ?_⟩ <;> omega)))
    | (refine l7Mutate_ret _ _ _ _ _ _ ((a, e, g')) (p + 1 + 1) ?_ ?_ ?_ ?_; (first | exact Or.inl rfl | exact Or.inr rfl); (focus (simp [-List.getD_eq_getElem?_getD, -List.drop_one, ↓zaab, ↓zaaa, go_sem, Try.results130, dat, datL_map, li, cat_flat2, t1, nba, Ne.symm nba, nbz, Ne.symm nbz, naz, Ne.symm naz]; done)); (focus ((exact ⟨by dsimp only; omega, by dsimp only; omega, by dsimp only; omega, hc2 s4 (by omega)⟩); done)); (focus (refine ⟨?_, ?_⟩ <;> omega)))
    | (refine l7Mutate_ret _ _ _ _ _ _ ((a', e, g)) (p + 1 + 1) ?_ ?_ ?_ ?_; (first | exact Or.inl rfl | exact Or.inr rfl); (focus (simp [-List.getD_eq_getElem?_getD, -List.drop_one, ↓zaab, ↓zaaa, go_sem, Try.results130, dat, datL_map, li, cat_flat2, t1, nba, Ne.symm nba, nbz, Ne.symm nbz, naz, Ne.symm naz]; done)); (focus ((exact ⟨by dsimp only; omega, by dsimp only; omega, by dsimp only; omega, s4⟩); done)); (focus (refine ⟨?_, ?_⟩ <;> omega)))
    | (refine l7Mutate_ret _ _ _ _ _ _ ((a, e, g)) (p + 1) ?_ ?_ ?_ ?_; (first | exact Or.inl rfl | exact Or.inr rfl); (focus (simp [-List.getD_eq_getElem?_getD, -List.drop_one, ↓zaab, ↓zaaa, go_sem, Try.results130, dat, datL_map, li, cat_flat2, t1, nba, Ne.symm nba, nbz, Ne.symm nbz, naz, Ne.symm naz]; done)); (focus ((exact ⟨by dsimp only; omega, by dsimp only; omega, by dsimp only; omega, s4⟩); done)); (focus (refine ⟨?_, ?_⟩ <;> omega)))
    | skip)
noncomputable def l7MutateC : Con := .rel fun args H => match args with
  | [.ptr b 0, .st [.list n_a c_a, .list n_e c_e, .list n_g c_g]] => match H b with
    | some [.list m cs, .int .i64 p] => ((Is cY m cs) ∧ (m ≤ 2000) ∧ (0 ≤ p) ∧ (p + 3 ≤ 1000000) ∧ (Is cI n_a c_a) ∧ (Is cB n_e c_e) ∧ (Is cT n_g c_g) ∧ (AuS ((de cI c_a), (de cB c_e), (de cT c_g))), fun c => (l7Mutate_enc (l7Mutate_sel (de cI c_a) (de cB c_e) (de cT c_g) p c).1, upd H b (some [.list m cs, .int .i64 (l7Mutate_sel (de cI c_a) (de cB c_e) (de cT c_g) p c).2])))
    | _ => (False, fun _ => (.any, H))
  | _ => (False, fun _ => (.any, H))
attribute [go_sem] l7MutateC
theorem l7MutateC_ok : ConOk Try.prog 130 l7MutateC := by
  refine ⟨zaal Try.func130 (by decide) rfl, fun args H h => ?_⟩
  revert h
  dsimp only
  split
  · split
    · rename_i hH
      intro h
      obtain ⟨⟨ys, rfl, rfl⟩, hl, h0_, hp_, ⟨a, rfl, rfl⟩, ⟨e, rfl, rfl⟩, ⟨g, rfl, rfl⟩, hS⟩ := h
      try simp only [de_cat] at *
      exact SpecR.enc ((l7Mutate_spec ys _ _ a e g hl h0_ hp_ hS).frame hH).shut fun c => Prod.ext (l7Mutate_okD _ _ _ hS _ _).2.symm rfl
    · intro h; exact h.elim
  · intro h
    exact h.elim
noncomputable def Γy28 : FuncId → Con := ext Γy27 130 l7MutateC
attribute [go_sem] Γy28
theorem Γy28_ok : ∀ g, ConOk Try.prog g (Γy28 g) := ext_ok Γy27_ok l7MutateC_ok

theorem AuS.of {x : Au} (h : x.1.length ≤ 5000 ∧ x.2.1.length ≤ 5000 ∧ x.2.2.length ≤ 5000 ∧ SmallT x.2.2) : AuS x := h
def AuM (x : Au) : Prop := x.1.length ≤ 5001 ∧ x.2.1.length ≤ 5000 ∧ x.2.2.length ≤ 5000 ∧ SmallT x.2.2
theorem AuM.nil : AuM ([], [], []) := ⟨by simp, by simp, by simp, SmallT.nil⟩

noncomputable def DrawAutomatonValid_enc : Au → D := sA
attribute [go_sem] DrawAutomatonValid_enc
theorem DrawAutomatonValid_flat (x : Au) : dat (DrawAutomatonValid_enc x) = DrawAutomatonValid_enc x := by simp [go_sem]
def DrawAutomatonValid_good (xs : List UInt8) : Au → Prop := fun x => AuM x
def DrawAutomatonValid_gd (xs : List UInt8) (x : (Au) × D) : Prop := DrawAutomatonValid_good xs x.1 ∧ dat x.2 = DrawAutomatonValid_enc x.1
noncomputable def DrawAutomatonValid_selD (xs : List UInt8) (c : Any) : (Au) × D := sel (DrawAutomatonValid_gd xs) ((([], [], []) : Au), DrawAutomatonValid_enc (([], [], []))) c
noncomputable def DrawAutomatonValid_sel (xs : List UInt8) (c : Any) : Au := (DrawAutomatonValid_selD xs c).1
theorem DrawAutomatonValid_okD (xs : List UInt8)  (c : Any) : DrawAutomatonValid_gd xs (DrawAutomatonValid_selD xs c) := by
  have hx : DrawAutomatonValid_good xs (([], [], [])) := AuM.nil
  exact sel_ok (p := DrawAutomatonValid_gd xs) (x0 := ((([], [], []) : Au), DrawAutomatonValid_enc (([], [], [])))) ⟨hx, DrawAutomatonValid_flat _⟩ c
theorem DrawAutomatonValid_ok (xs : List UInt8)  (c : Any) : DrawAutomatonValid_good xs (DrawAutomatonValid_sel xs c) := (DrawAutomatonValid_okD xs  c).1
theorem DrawAutomatonValid_ret (xs : List UInt8) {e_ : Exit} {S_ : St} (x : Au) (he_ : e_ = .ret ∨ e_ = .normal)
    (h1 : (zaak Try.prog S_ Try.f124.results.toList).1 ∧ dat (resD (zaak Try.prog S_ Try.f124.results.toList).2.1) = DrawAutomatonValid_enc x) (hg : DrawAutomatonValid_good xs x) :
    retR Try.prog Try.f124 (fun c => ((DrawAutomatonValid_selD xs c).2, fun _ => none)) e_ S_ :=
  ret_prel (good := DrawAutomatonValid_gd xs) (enc := fun x : (Au) × D => x.2) (x, resD (zaak Try.prog S_ Try.f124.results.toList).2.1) he_ ⟨h1.1, rfl⟩ ⟨hg, h1.2⟩
set_option maxHeartbeats 8000000 in
theorem DrawAutomatonValid_pure (xs : List UInt8)  : SpecR Try.prog 124 [li cY xs] (fun _ => none) (fun c => ((DrawAutomatonValid_selD xs c).2, fun _ => none)) := by
  refine SpecR.of_walk Try.func124 rfl (by simp [Try.f124]) fun B => ?_
  have hl := cut_len xs
  all_goals (repeat' (first
    | refine AW_seq ?_
    | refine zaac (id := 0) Γy28_ok [] (by kernel_rfl) ?_; simp  [-List.getD_eq_getElem?_getD, -List.drop_one, ↓zaab, ↓zaaa, go_sem]
    | refine zaac (id := 1) Γy28_ok [] (by kernel_rfl) ?_; simp  [-List.getD_eq_getElem?_getD, -List.drop_one, ↓zaab, ↓zaaa, go_sem]; try (refine AW_matBox 3 rfl fun b hb => ?_; clear hb)
    | ((have u2 : ∀ c, AuS (zaar 0 c).1 ∧ 0 ≤ (zaar 0 c).2 ∧ (zaar 0 c).2 ≤ 300 := (fun c => by have h := l7Automaton_ok 0 c; exact ⟨h.1, by omega, by omega⟩)); (have u3 : ∀ c, AuS ((zaar 0 c).1.1, (zaar 0 c).1.2.1, (zaar 0 c).1.2.2) ∧ 0 ≤ (zaar 0 c).2 ∧ (zaar 0 c).2 + 3 ≤ 1000000 := (fun c => ⟨(u2 c).1, (u2 c).2.1, by have := (u2 c).2.2; omega⟩))); refine zaac (id := 2) Γy28_ok [] (by kernel_rfl) ?_; simp  [-List.getD_eq_getElem?_getD, -List.drop_one, ↓zaab, ↓zaaa, go_sem, hl, u3]; try ((intro c2 c2'); (have h2 := (u2 c2).1); (generalize (zaar 0 c2) = z at *); (obtain ⟨⟨za, zb, zc⟩, pz⟩ := z); (dsimp only at h2 ⊢); (have h3 := l7Mutate_ok za zb zc h2 pz c2'); (generalize l7Mutate_sel za zb zc pz c2' = w at *); (obtain ⟨⟨wa, wb, wc⟩, pw⟩ := w); (have h4 : AuM (wa, wb, wc) := h3.1))
    | (refine zaag ?_)
    | (refine zaap ?_; simp [-List.getD_eq_getElem?_getD, -List.drop_one, ↓zaab, ↓zaaa, go_sem])
    | (refine zaan ?_; simp [-List.getD_eq_getElem?_getD, -List.drop_one, ↓zaab, ↓zaaa, go_sem])
    | (refine AW_ret ?_; try simp [-List.getD_eq_getElem?_getD, -List.drop_one, ↓zaab, ↓zaaa, go_sem, Try.results124])
    | (intro hx; change AW _ _ _ _ _ _)
    | (intro hx; change retR _ _ _ _ _)
    | (refine ⟨?_, ?_⟩ <;> change AW _ _ _ _ _ _)
    | (intro hx; refine ⟨fun hs => ?_, fun hs => ?_⟩)
    | (refine ⟨fun hs => ?_, fun hs => ?_⟩)
    | (refine ⟨?_, fun hs => ?_⟩; change AW _ _ _ _ _ _)
    | (refine ⟨fun hs => ?_, ?_⟩; rotate_left; change AW _ _ _ _ _ _; rotate_left)))
  all_goals (first
    | (refine DrawAutomatonValid_ret _ ((wa, wb, wc)) ?_ ?_ ?_; (first | exact Or.inl rfl | exact Or.inr rfl); (focus (simp [-List.getD_eq_getElem?_getD, -List.drop_one, ↓zaab, ↓zaaa, go_sem, Try.results124, dat, datL_map, li]; done)); (focus ((exact h4); done)))
    | skip)
noncomputable def DrawAutomatonValidC : Con := .rel fun args H => match args with
  | [.list n_xs c_xs] => ((Is cY n_xs c_xs), fun c => (DrawAutomatonValid_enc (DrawAutomatonValid_sel (de cY c_xs) c), H))
  | _ => (False, fun _ => (.any, H))
attribute [go_sem] DrawAutomatonValidC
theorem DrawAutomatonValidC_ok : ConOk Try.prog 124 DrawAutomatonValidC := by
  refine ⟨zaal Try.func124 (by decide) rfl, fun args H h => ?_⟩
  revert h
  dsimp only
  split
  · intro h
    obtain ⟨xs, rfl, rfl⟩ := h
    try simp only [de_cat] at *
    exact SpecR.enc ((SpecR.frame0 (DrawAutomatonValid_pure xs ) (H := H)).shut) fun c => Prod.ext (DrawAutomatonValid_okD _  c).2.symm rfl
  · intro h
    exact h.elim
noncomputable def Γy29 : FuncId → Con := ext Γy28 124 DrawAutomatonValidC
attribute [go_sem] Γy29
theorem Γy29_ok : ∀ g, ConOk Try.prog g (Γy29 g) := ext_ok Γy28_ok DrawAutomatonValidC_ok

noncomputable def DrawLiveStates_enc : Au → D := sA
attribute [go_sem] DrawLiveStates_enc
theorem DrawLiveStates_flat (x : Au) : dat (DrawLiveStates_enc x) = DrawLiveStates_enc x := by simp [go_sem]
def DrawLiveStates_good (xs : List UInt8) : Au → Prop := fun x => AuM x
def DrawLiveStates_gd (xs : List UInt8) (x : (Au) × D) : Prop := DrawLiveStates_good xs x.1 ∧ dat x.2 = DrawLiveStates_enc x.1
noncomputable def DrawLiveStates_selD (xs : List UInt8) (c : Any) : (Au) × D := sel (DrawLiveStates_gd xs) ((([], [], []) : Au), DrawLiveStates_enc (([], [], []))) c
noncomputable def DrawLiveStates_sel (xs : List UInt8) (c : Any) : Au := (DrawLiveStates_selD xs c).1
theorem DrawLiveStates_okD (xs : List UInt8)  (c : Any) : DrawLiveStates_gd xs (DrawLiveStates_selD xs c) := by
  have hx : DrawLiveStates_good xs (([], [], [])) := AuM.nil
  exact sel_ok (p := DrawLiveStates_gd xs) (x0 := ((([], [], []) : Au), DrawLiveStates_enc (([], [], [])))) ⟨hx, DrawLiveStates_flat _⟩ c
theorem DrawLiveStates_ok (xs : List UInt8)  (c : Any) : DrawLiveStates_good xs (DrawLiveStates_sel xs c) := (DrawLiveStates_okD xs  c).1
theorem DrawLiveStates_ret (xs : List UInt8) {e_ : Exit} {S_ : St} (x : Au) (he_ : e_ = .ret ∨ e_ = .normal)
    (h1 : (zaak Try.prog S_ Try.f42.results.toList).1 ∧ dat (resD (zaak Try.prog S_ Try.f42.results.toList).2.1) = DrawLiveStates_enc x) (hg : DrawLiveStates_good xs x) :
    retR Try.prog Try.f42 (fun c => ((DrawLiveStates_selD xs c).2, fun _ => none)) e_ S_ :=
  ret_prel (good := DrawLiveStates_gd xs) (enc := fun x : (Au) × D => x.2) (x, resD (zaak Try.prog S_ Try.f42.results.toList).2.1) he_ ⟨h1.1, rfl⟩ ⟨hg, h1.2⟩
set_option maxHeartbeats 8000000 in
theorem DrawLiveStates_pure (xs : List UInt8)  : SpecR Try.prog 42 [li cY xs] (fun _ => none) (fun c => ((DrawLiveStates_selD xs c).2, fun _ => none)) := by
  refine SpecR.of_walk Try.func42 rfl (by simp [Try.f42]) fun B => ?_
  (repeat' (first
    | refine AW_seq ?_
    | refine zaac (id := 0) Γy29_ok [] (by kernel_rfl) ?_; simp  [-List.getD_eq_getElem?_getD, -List.drop_one, ↓zaab, ↓zaaa, go_sem]
    | refine zaac (id := 1) Γy29_ok [] (by kernel_rfl) ?_; simp  [-List.getD_eq_getElem?_getD, -List.drop_one, ↓zaab, ↓zaaa, go_sem]; try ((intro c2); (have h2 : AuM (DrawAutomatonValid_sel xs c2) := DrawAutomatonValid_ok xs c2); (generalize (DrawAutomatonValid_sel xs c2) = z at *))
    | (refine zaag ?_)
    | (refine zaap ?_; simp [-List.getD_eq_getElem?_getD, -List.drop_one, ↓zaab, ↓zaaa, go_sem])
    | (refine zaan ?_; simp [-List.getD_eq_getElem?_getD, -List.drop_one, ↓zaab, ↓zaaa, go_sem])
    | (refine AW_ret ?_; try simp [-List.getD_eq_getElem?_getD, -List.drop_one, ↓zaab, ↓zaaa, go_sem, Try.results42])
    | (intro hx; change AW _ _ _ _ _ _)
    | (intro hx; change retR _ _ _ _ _)
    | (refine ⟨?_, ?_⟩ <;> change AW _ _ _ _ _ _)
    | (intro hx; refine ⟨fun hs => ?_, fun hs => ?_⟩)
    | (refine ⟨fun hs => ?_, fun hs => ?_⟩)
    | (refine ⟨?_, fun hs => ?_⟩; change AW _ _ _ _ _ _)
    | (refine ⟨fun hs => ?_, ?_⟩; rotate_left; change AW _ _ _ _ _ _; rotate_left)))
  all_goals (first
    | (refine DrawLiveStates_ret _ (z) ?_ ?_ ?_; (first | exact Or.inl rfl | exact Or.inr rfl); (focus (simp [-List.getD_eq_getElem?_getD, -List.drop_one, ↓zaab, ↓zaaa, go_sem, Try.results42, dat, datL_map, li]; done)); (focus ((exact h2); done)))
    | skip)
noncomputable def DrawLiveStatesC : Con := .rel fun args H => match args with
  | [.list n_xs c_xs] => ((Is cY n_xs c_xs), fun c => (DrawLiveStates_enc (DrawLiveStates_sel (de cY c_xs) c), H))
  | _ => (False, fun _ => (.any, H))
attribute [go_sem] DrawLiveStatesC
theorem DrawLiveStatesC_ok : ConOk Try.prog 42 DrawLiveStatesC := by
  refine ⟨zaal Try.func42 (by decide) rfl, fun args H h => ?_⟩
  revert h
  dsimp only
  split
  · intro h
    obtain ⟨xs, rfl, rfl⟩ := h
    try simp only [de_cat] at *
    exact SpecR.enc ((SpecR.frame0 (DrawLiveStates_pure xs ) (H := H)).shut) fun c => Prod.ext (DrawLiveStates_okD _  c).2.symm rfl
  · intro h
    exact h.elim
end Go.Proofs.Ytkjimmkemnmajaa.Vm

