import Derived.Test.YtkjimmkemnmajaaY8
/-
  Draws: automata bent; arguments. No conditions.
-/
namespace Go.Proofs.Ytkjimmkemnmajaa.Vm
open Go
open List renaming getD_eq_getElem?_getD → zgE, drop_one → zdO, replicate → zrP
open Ne renaming symm → zS
set_option linter.unusedVariables false
set_option linter.unusedSimpArgs false
set_option maxRecDepth 200000

theorem SmallT.cons {x : Tr4} {xs : List Tr4} : SmallT (x :: xs) ↔ x.2.2.1 ≤ 9223372036854775807 ∧ SmallT xs := by
  constructor
  · intro h
    exact ⟨h 0 (by simp), fun i hi => h (i + 1) (by simp; omega)⟩
  · rintro ⟨h1, h2⟩ i hi
    cases i with
    | zero => exact h1
    | succ i => exact h2 i (by simpa using hi)
theorem set_cT : ∀ (c : List Tr4) (ys : List D) (i : Nat) (v : Int), i < c.length * 4 → ∃ c' : List Tr4, c'.length = c.length ∧ (SmallT c → v ≤ 9223372036854775807 → SmallT c') ∧ (cat cT c ++ ys).set i (.int .i64 v) = cat cT c' ++ ys
  | [], ys, i, v, h => by simp at h
  | x :: c, ys, 0, v, h => ⟨(v, x.2) :: c, by simp, fun k _ => by rw [SmallT.cons] at k ⊢; exact k, rfl⟩
  | x :: c, ys, 1, v, h => ⟨(x.1, v, x.2.2) :: c, by simp, fun k _ => by rw [SmallT.cons] at k ⊢; exact k, rfl⟩
  | x :: c, ys, 2, v, h => ⟨(x.1, x.2.1, v, x.2.2.2) :: c, by simp, fun k hv => by rw [SmallT.cons] at k ⊢; exact ⟨hv, k.2⟩, rfl⟩
  | x :: c, ys, 3, v, h => ⟨(x.1, x.2.1, x.2.2.1, v) :: c, by simp, fun k _ => by rw [SmallT.cons] at k ⊢; exact k, rfl⟩
  | x :: c, ys, i + 4, v, h => by
    obtain ⟨c', h1, h2, h3⟩ := set_cT c ys i v (by simp only [List.length_cons] at h; omega)
    refine ⟨x :: c', by simp [h1], fun k hv => ?_, ?_⟩
    · rw [SmallT.cons] at k ⊢; exact ⟨k.1, h2 k.2 hv⟩
    · show (cT x ++ cat cT c ++ ys).set (i + 4) _ = cT x ++ cat cT c' ++ ys
      rw [List.append_assoc, List.append_assoc, ← h3]
      rfl
def LM (b ab zb : Nat) (ys : List UInt8) (a : List Int) (e : List Bool) (g : List Tr4) (cz jz : Nat) (q : Int) (H : Hp) : Prop := H b = some [.list ys.length (cat cY ys), .int .i64 (q)] ∧ H ab = some [.fr 1 a.length (cat cI a), .fr 1 e.length (cat cB e), .sl zb 4 0 g.length cz] ∧ H zb = some (cat cT g ++ zrP jz .any)

noncomputable def l7Mutate_enc : Au → D := sA
attribute [go_sem] l7Mutate_enc
theorem l7Mutate_flat (x : Au) : dat (l7Mutate_enc x) = l7Mutate_enc x := by simp [go_sem]
def l7Mutate_good (a : List Int) (e : List Bool) (g : List Tr4) : Au → Prop := fun x => x.1.length ≤ 5001 ∧ x.2.1.length ≤ 5000 ∧ x.2.2.length ≤ 5000 ∧ SmallT x.2.2
def l7Mutate_gd (a : List Int) (e : List Bool) (g : List Tr4) (x : (Au) × D) : Prop := l7Mutate_good a e g x.1 ∧ dat x.2 = l7Mutate_enc x.1
noncomputable def l7Mutate_selD (a : List Int) (e : List Bool) (g : List Tr4) (p : Int) (c : Any) : ((Au) × D) × Int := dsel (l7Mutate_gd a e g) ((([], [], []) : Au), l7Mutate_enc (([], [], []))) 3 p c
noncomputable def l7Mutate_sel (a : List Int) (e : List Bool) (g : List Tr4) (p : Int) (c : Any) : (Au) × Int := ((l7Mutate_selD a e g p c).1.1, (l7Mutate_selD a e g p c).2)
theorem l7Mutate_okD (a : List Int) (e : List Bool) (g : List Tr4) (hS : AuS (a, e, g)) (p : Int) (c : Any) : (l7Mutate_good a e g (l7Mutate_sel a e g p c).1 ∧ p ≤ (l7Mutate_sel a e g p c).2 ∧ (l7Mutate_sel a e g p c).2 ≤ p + 3) ∧ dat (l7Mutate_selD a e g p c).1.2 = l7Mutate_enc (l7Mutate_sel a e g p c).1 := by
  have hx : l7Mutate_good a e g (([], [], [])) := ⟨by simp, by simp, by simp, SmallT.nil⟩
  have h := dsel_ok (good := l7Mutate_gd a e g) (x0 := ((([], [], []) : Au), l7Mutate_enc (([], [], [])))) ⟨hx, l7Mutate_flat _⟩ (K := 3) (by omega) (p := p) c
  exact ⟨⟨h.1.1, h.2.1, h.2.2⟩, h.1.2⟩
theorem l7Mutate_ok (a : List Int) (e : List Bool) (g : List Tr4) (hS : AuS (a, e, g)) (p : Int) (c : Any) : l7Mutate_good a e g (l7Mutate_sel a e g p c).1 ∧ p ≤ (l7Mutate_sel a e g p c).2 ∧ (l7Mutate_sel a e g p c).2 ≤ p + 3 := (l7Mutate_okD a e g hS p c).1
theorem l7Mutate_ret (a : List Int) (e : List Bool) (g : List Tr4) (ys : List UInt8) (p : Int) (b : Nat) {e_ : Exit} {S_ : St} (x : Au) (p' : Int) (he_ : e_ = .ret ∨ e_ = .normal)
    (h1 : (zaaj Try.prog S_ Try.f130.results.toList).1 ∧ dat (resD (zaaj Try.prog S_ Try.f130.results.toList).2.1) = l7Mutate_enc x ∧ (zaaj Try.prog S_ Try.f130.results.toList).2.2.H b = some [li cY ys, .int .i64 p']) (hg : l7Mutate_good a e g x) (h2 : p ≤ p' ∧ p' ≤ p + 3) :
    retR Try.prog Try.f130 (fun c => ((l7Mutate_selD a e g p c).1.2, one b [li cY ys, .int .i64 (l7Mutate_selD a e g p c).2])) e_ S_ :=
  ret_draw (good := l7Mutate_gd a e g) (enc := fun x : (Au) × D => x.2) (cells := fun q => [li cY ys, .int .i64 q]) (x, resD (zaaj Try.prog S_ Try.f130.results.toList).2.1) p' he_ ⟨h1.1, rfl, h1.2.2⟩ ⟨hg, h1.2.1⟩ h2
set_option maxHeartbeats 16000000 in
theorem l7Mutate_spec (ys : List UInt8) (p : Int) (b : Nat) (a : List Int) (e : List Bool) (g : List Tr4) (hl : ys.length ≤ 2000) (h0_ : 0 ≤ p) (hp_ : p + 3 ≤ 1000000) (hS : AuS (a, e, g)) : SpecR Try.prog 130 [.ptr b 0, .st [li cI a, li cB e, li cT g]] (one b [li cY ys, .int .i64 p]) (fun c => ((l7Mutate_selD a e g p c).1.2, one b [li cY ys, .int .i64 (l7Mutate_selD a e g p c).2])) := by
  refine SpecR.of_walk Try.func130 rfl (by simp [Try.f130]) fun B => ?_
  obtain ⟨s1, s2, s3, s4⟩ := hS; dsimp only at s1 s2 s3 s4
  all_goals (repeat' (first
    | refine AW_seq ?_
    | refine zaac (id := 0) Γy27_ok [] (by kernel_rfl) ?_; simp  [-zgE, -zdO, ↓zaab, ↓zaaa, go_sem]; try (refine AW_shut 3 ?_; simp [go_sem])
    | refine zaat (id := 1) Γy27_ok mixed [] [3] (by kernel_rfl) (by kernel_rfl) (by simp [-zgE, -zdO, ↓zaab, ↓zaaa, go_sem, (show a.length ≤ 9223372036854775807 by omega), (show 2 * a.length * 8 ≤ 281474976710656 by omega), (show e.length ≤ 9223372036854775807 by omega), (show 2 * e.length * 1 ≤ 281474976710656 by omega), (show 2 * e.length ≤ 281474976710656 by omega), (show g.length ≤ 9223372036854775807 by omega), (show 2 * g.length * 32 ≤ 281474976710656 by omega)]) ?_; simp  [-zgE, -zdO, ↓zaab, ↓zaaa, go_sem, (show a.length ≤ 9223372036854775807 by omega), (show 2 * a.length * 8 ≤ 281474976710656 by omega), (show e.length ≤ 9223372036854775807 by omega), (show 2 * e.length * 1 ≤ 281474976710656 by omega), (show 2 * e.length ≤ 281474976710656 by omega), (show g.length ≤ 9223372036854775807 by omega), (show 2 * g.length * 32 ≤ 281474976710656 by omega)]; try ((refine AW_matBox 5 rfl fun ab hab => ?_); (have nba : ¬ b = ab := (by rintro rfl; simp [upd] at hab)); (clear hab); (refine AW_matCell ab 2 (all := [.fr 1 a.length (cat cI a), .fr 1 e.length (cat cB e), .fr 4 g.length (cat cT g)]) (by simp [upd]) rfl fun zb cz jz hzb hcz hdz => ?_); (have nbz : ¬ b = zb := (by rintro rfl; simp [upd, nba] at hzb)); (have naz : ¬ ab = zb := (by rintro rfl; simp [upd] at hzb)); (clear hzb); (refine AW_gen (fun H1 => LM b ab zb ys a e g cz jz p H1) ⟨by simp [upd, nba, zS nba, nbz, zS nbz, naz, zS naz], by simp [upd, nba, zS nba, nbz, zS nbz, naz, zS naz], by simp [upd]⟩ fun H1 ⟨w1, w2, w3⟩ => ?_))
    | refine zaac (id := 2) Γy27_ok [] (by kernel_rfl) ?_; simp  [-zgE, -zdO, ↓zaab, ↓zaaa, go_sem, w1, hl, (show 0 ≤ p by omega), (show p ≤ 1000000 by omega), (show 0 ≤ p + 1 by omega), (show p + 1 ≤ 1000000 by omega)]; try ((generalize pkI ys p 40 = kk at *); (refine AW_gen (fun H2 => LM b ab zb ys a e g cz jz (p + 1) H2) ⟨by simp [upd, nba, zS nba, nbz, zS nbz, naz, zS naz], by simp [upd, nba, zS nba, nbz, zS nbz, naz, zS naz, w2], by simp [upd, nba, zS nba, nbz, zS nbz, naz, zS naz, w3]⟩ fun H2 ⟨w1, w2, w3⟩ => ?_))
    | refine zaac (id := 3) Γy27_ok [] (by kernel_rfl) ?_; simp  [-zgE, -zdO, ↓zaab, ↓zaaa, go_sem]
    | ((refine AW_matCell ab 0 (all := [.fr 1 a.length (cat cI a), .fr 1 e.length (cat cB e), .sl zb 4 0 g.length cz]) w2 rfl fun xb cx jx hxb hcx hdx => ?_); (have nbx : ¬ b = xb := (by rintro rfl; simp [upd, nba, w1] at hxb)); (have nax : ¬ ab = xb := (by rintro rfl; simp [upd, w2] at hxb)); (have nzx : ¬ zb = xb := (by rintro rfl; simp [upd, zS naz, w3] at hxb)); (clear hxb)); refine zaas (id := 4) Γy27_ok mixed [(ab, [.sl xb 1 0 a.length cx, .fr 1 e.length (cat cB e), .sl zb 4 0 g.length cz])] [] [] (by kernel_rfl) (by kernel_rfl) (by simp [-zgE, -zdO, ↓zaab, ↓zaaa, go_sem, w1, hl, nba, zS nba, nbz, zS nbz, naz, zS naz, nbx, zS nbx, nax, zS nax, nzx, zS nzx, (show 0 ≤ p + 1 by omega), (show p + 1 ≤ 1000000 by omega), (show 0 ≤ p + 1 + 1 by omega), (show p + 1 + 1 ≤ 1000000 by omega), (show a.length ≤ 9223372036854775806 by omega), (show 2 * (a.length + 1) * 8 ≤ 281474976710656 by omega), (show cx ≤ a.length + jx by omega)]) (by simp [-zgE, -zdO, ↓zaab, ↓zaaa, go_sem, w1, hl, nba, zS nba, nbz, zS nbz, naz, zS naz, nbx, zS nbx, nax, zS nax, nzx, zS nzx, (show 0 ≤ p + 1 by omega), (show p + 1 ≤ 1000000 by omega), (show 0 ≤ p + 1 + 1 by omega), (show p + 1 + 1 ≤ 1000000 by omega), (show a.length ≤ 9223372036854775806 by omega), (show 2 * (a.length + 1) * 8 ≤ 281474976710656 by omega), (show cx ≤ a.length + jx by omega)]) ?_; simp  [-zgE, -zdO, ↓zaab, ↓zaaa, go_sem, w1, hl, nba, zS nba, nbz, zS nbz, naz, zS naz, nbx, zS nbx, nax, zS nax, nzx, zS nzx, (show 0 ≤ p + 1 by omega), (show p + 1 ≤ 1000000 by omega), (show 0 ≤ p + 1 + 1 by omega), (show p + 1 + 1 ≤ 1000000 by omega), (show a.length ≤ 9223372036854775806 by omega), (show 2 * (a.length + 1) * 8 ≤ 281474976710656 by omega), (show cx ≤ a.length + jx by omega)]; try ((generalize numI ys (p + 1) [0, -1, 64, 3] = vv at *); (refine AW_gen (fun H3 => LM b ab zb ys (a ++ [vv]) e g cz jz (p + 1 + 1) H3) ⟨by simp [upd, nba, zS nba, nbz, zS nbz, naz, zS naz, nbx, zS nbx, nax, zS nax], by simp [upd, nba, zS nba, nbz, zS nbz, naz, zS naz, nax, zS nax, snoc_cI], by simp [upd, nba, zS nba, nbz, zS nbz, naz, zS naz, nzx, zS nzx, w3]⟩ fun H3 hM => ?_))
    | refine zaac (id := 5) Γy27_ok [] (by kernel_rfl) ?_; simp  [-zgE, -zdO, ↓zaab, ↓zaaa, go_sem]
    | refine zaac (id := 6) Γy27_ok [] (by kernel_rfl) ?_; simp  [-zgE, -zdO, ↓zaab, ↓zaaa, go_sem, w2]
    | ((have hc0 : 0 < g.length := (by omega))); refine zaas (id := 7) Γy27_ok mixed [(ab, [.fr 1 a.length (cat cI a), .fr 1 e.length (cat cB e), .sl zb 4 0 g.length cz])] [] [] (by kernel_rfl) (by kernel_rfl) (by simp [-zgE, -zdO, ↓zaab, ↓zaaa, go_sem, w1, w2, w3, hl, nba, zS nba, nbz, zS nbz, naz, zS naz, (show 0 ≤ p + 1 by omega), (show p + 1 ≤ 1000000 by omega), (show 0 ≤ p + 1 + 1 by omega), (show p + 1 + 1 ≤ 1000000 by omega), hc0, (show 4 ≤ g.length * 4 + jz by omega), (show 2 < g.length * 4 + jz by omega), (show 3 ≤ g.length * 4 + jz by omega)]) (by simp [-zgE, -zdO, ↓zaab, ↓zaaa, go_sem, w1, w2, w3, hl, nba, zS nba, nbz, zS nbz, naz, zS naz, (show 0 ≤ p + 1 by omega), (show p + 1 ≤ 1000000 by omega), (show 0 ≤ p + 1 + 1 by omega), (show p + 1 + 1 ≤ 1000000 by omega), hc0, (show 4 ≤ g.length * 4 + jz by omega), (show 2 < g.length * 4 + jz by omega), (show 3 ≤ g.length * 4 + jz by omega)]) ?_; simp  [-zgE, -zdO, ↓zaab, ↓zaaa, go_sem, w1, w2, w3, hl, nba, zS nba, nbz, zS nbz, naz, zS naz, (show 0 ≤ p + 1 by omega), (show p + 1 ≤ 1000000 by omega), (show 0 ≤ p + 1 + 1 by omega), (show p + 1 + 1 ≤ 1000000 by omega), hc0, (show 4 ≤ g.length * 4 + jz by omega), (show 2 < g.length * 4 + jz by omega), (show 3 ≤ g.length * 4 + jz by omega)]; try ((have hrv := numI_range ys (p := p + 1) (by omega) (xs := [8, -1, 7]) (lo := -1) (hi := 8) (by simp) (by simp)); (generalize numI ys (p + 1) [8, -1, 7] = vv at *); (obtain ⟨g', hc1, hc2, hc3⟩ := set_cT g (zrP jz D.any) 2 vv (by omega)); (have hc4 : stSeg (cat cT g ++ zrP jz D.any) (2) [.int .i64 vv] = cat cT g' ++ zrP jz D.any := hc3); (refine AW_gen (fun H1 => LM b ab zb ys a e g' cz jz (p + 1 + 1) H1) ⟨by simp [upd, nba, zS nba, nbz, zS nbz, naz, zS naz], by simp [upd, nba, zS nba, nbz, zS nbz, naz, zS naz, w2, hc1], by simp [upd, nba, zS nba, nbz, zS nbz, naz, zS naz, hc4]⟩ fun H2 hM => ?_))
    | refine zaac (id := 8) Γy27_ok [] (by kernel_rfl) ?_; simp  [-zgE, -zdO, ↓zaab, ↓zaaa, go_sem]
    | refine zaac (id := 9) Γy27_ok [] (by kernel_rfl) ?_; simp  [-zgE, -zdO, ↓zaab, ↓zaaa, go_sem, w2]
    | ((have hc0 : 0 < g.length := (by omega))); refine zaas (id := 10) Γy27_ok mixed [(ab, [.fr 1 a.length (cat cI a), .fr 1 e.length (cat cB e), .sl zb 4 0 g.length cz])] [] [] (by kernel_rfl) (by kernel_rfl) (by simp [-zgE, -zdO, ↓zaab, ↓zaaa, go_sem, w1, w2, w3, hl, nba, zS nba, nbz, zS nbz, naz, zS naz, (show 0 ≤ p + 1 by omega), (show p + 1 ≤ 1000000 by omega), (show 0 ≤ p + 1 + 1 by omega), (show p + 1 + 1 ≤ 1000000 by omega), hc0, (show 4 ≤ g.length * 4 + jz by omega), (show 3 < g.length * 4 + jz by omega)]) (by simp [-zgE, -zdO, ↓zaab, ↓zaaa, go_sem, w1, w2, w3, hl, nba, zS nba, nbz, zS nbz, naz, zS naz, (show 0 ≤ p + 1 by omega), (show p + 1 ≤ 1000000 by omega), (show 0 ≤ p + 1 + 1 by omega), (show p + 1 + 1 ≤ 1000000 by omega), hc0, (show 4 ≤ g.length * 4 + jz by omega), (show 3 < g.length * 4 + jz by omega)]) ?_; simp  [-zgE, -zdO, ↓zaab, ↓zaaa, go_sem, w1, w2, w3, hl, nba, zS nba, nbz, zS nbz, naz, zS naz, (show 0 ≤ p + 1 by omega), (show p + 1 ≤ 1000000 by omega), (show 0 ≤ p + 1 + 1 by omega), (show p + 1 + 1 ≤ 1000000 by omega), hc0, (show 4 ≤ g.length * 4 + jz by omega), (show 3 < g.length * 4 + jz by omega)]; try ((have hrv := numI_range ys (p := p + 1) (by omega) (xs := [-1, 0, 64, 9223372036854775807]) (lo := -1) (hi := 9223372036854775807) (by simp) (by simp)); (generalize numI ys (p + 1) [-1, 0, 64, 9223372036854775807] = vv at *); (obtain ⟨g', hc1, hc2, hc3⟩ := set_cT g (zrP jz D.any) 3 vv (by omega)); (have hc4 : stSeg (cat cT g ++ zrP jz D.any) (3) [.int .i64 vv] = cat cT g' ++ zrP jz D.any := hc3); (refine AW_gen (fun H1 => LM b ab zb ys a e g' cz jz (p + 1 + 1) H1) ⟨by simp [upd, nba, zS nba, nbz, zS nbz, naz, zS naz], by simp [upd, nba, zS nba, nbz, zS nbz, naz, zS naz, w2, hc1], by simp [upd, nba, zS nba, nbz, zS nbz, naz, zS naz, hc4]⟩ fun H2 hM => ?_))
    | refine zaac (id := 11) Γy27_ok [] (by kernel_rfl) ?_; simp  [-zgE, -zdO, ↓zaab, ↓zaaa, go_sem]
    | refine zaac (id := 12) Γy27_ok [] (by kernel_rfl) ?_; simp  [-zgE, -zdO, ↓zaab, ↓zaaa, go_sem]
    | refine zaac (id := 13) Γy27_ok [] (by kernel_rfl) ?_; simp  [-zgE, -zdO, ↓zaab, ↓zaaa, go_sem]
    | refine zaac (id := 14) Γy27_ok [] (by kernel_rfl) ?_; simp  [-zgE, -zdO, ↓zaab, ↓zaaa, go_sem, w2]
    | ((have hc0 : 0 < g.length := (by omega))); refine zaas (id := 15) Γy27_ok mixed [(ab, [.fr 1 a.length (cat cI a), .fr 1 e.length (cat cB e), .sl zb 4 0 g.length cz])] [] [5] (by kernel_rfl) (by kernel_rfl) (by simp [-zgE, -zdO, ↓zaab, ↓zaaa, go_sem, w1, w2, w3, hl, nba, zS nba, nbz, zS nbz, naz, zS naz, (show 0 ≤ p + 1 by omega), (show p + 1 ≤ 1000000 by omega), (show 0 ≤ p + 1 + 1 by omega), (show p + 1 + 1 ≤ 1000000 by omega), hc0, zaan (x := (g.length : Int) - 1) (by omega) (by omega), (show 0 ≤ (g.length : Int) - 1 by omega), (show (g.length : Int) - 1 < (g.length : Int) by omega), (show ((g.length : Int) - 1).toNat = g.length - 1 by omega), (show (g.length - 1) * 4 + 4 ≤ g.length * 4 + jz by omega), (show (g.length - 1) * 4 + 1 < g.length * 4 + jz by omega), (show (1 : Int) ≤ (g.length : Int) by omega), (show (g.length - 1) * 4 + 1 + 1 ≤ g.length * 4 + jz by omega), (show g.length - 1 < g.length by omega)]) (by simp [-zgE, -zdO, ↓zaab, ↓zaaa, go_sem, w1, w2, w3, hl, nba, zS nba, nbz, zS nbz, naz, zS naz, (show 0 ≤ p + 1 by omega), (show p + 1 ≤ 1000000 by omega), (show 0 ≤ p + 1 + 1 by omega), (show p + 1 + 1 ≤ 1000000 by omega), hc0, zaan (x := (g.length : Int) - 1) (by omega) (by omega), (show 0 ≤ (g.length : Int) - 1 by omega), (show (g.length : Int) - 1 < (g.length : Int) by omega), (show ((g.length : Int) - 1).toNat = g.length - 1 by omega), (show (g.length - 1) * 4 + 4 ≤ g.length * 4 + jz by omega), (show (g.length - 1) * 4 + 1 < g.length * 4 + jz by omega), (show (1 : Int) ≤ (g.length : Int) by omega), (show (g.length - 1) * 4 + 1 + 1 ≤ g.length * 4 + jz by omega), (show g.length - 1 < g.length by omega)]) ?_; simp  [-zgE, -zdO, ↓zaab, ↓zaaa, go_sem, w1, w2, w3, hl, nba, zS nba, nbz, zS nbz, naz, zS naz, (show 0 ≤ p + 1 by omega), (show p + 1 ≤ 1000000 by omega), (show 0 ≤ p + 1 + 1 by omega), (show p + 1 + 1 ≤ 1000000 by omega), hc0, zaan (x := (g.length : Int) - 1) (by omega) (by omega), (show 0 ≤ (g.length : Int) - 1 by omega), (show (g.length : Int) - 1 < (g.length : Int) by omega), (show ((g.length : Int) - 1).toNat = g.length - 1 by omega), (show (g.length - 1) * 4 + 4 ≤ g.length * 4 + jz by omega), (show (g.length - 1) * 4 + 1 < g.length * 4 + jz by omega), (show (1 : Int) ≤ (g.length : Int) by omega), (show (g.length - 1) * 4 + 1 + 1 ≤ g.length * 4 + jz by omega), (show g.length - 1 < g.length by omega)]; try ((have hrv := numI_range ys (p := p + 1) (by omega) (xs := [8, -1, 0]) (lo := -1) (hi := 8) (by simp) (by simp)); (generalize numI ys (p + 1) [8, -1, 0] = vv at *); (obtain ⟨g', hc1, hc2, hc3⟩ := set_cT g (zrP jz D.any) ((g.length - 1) * 4 + 1) vv (by omega)); (have hc4 : stSeg (cat cT g ++ zrP jz D.any) (((g.length - 1) * 4 + 1)) [.int .i64 vv] = cat cT g' ++ zrP jz D.any := hc3); (refine AW_gen (fun H1 => LM b ab zb ys a e g' cz jz (p + 1 + 1) H1) ⟨by simp [upd, nba, zS nba, nbz, zS nbz, naz, zS naz], by simp [upd, nba, zS nba, nbz, zS nbz, naz, zS naz, w2, hc1], by simp [upd, nba, zS nba, nbz, zS nbz, naz, zS naz, hc4]⟩ fun H2 hM => ?_))
    | (first | (obtain ⟨t1, t2, t3⟩ := hM; refine AW_unmatCell ab 2 (b' := zb) (sz := 4) (m := g'.length) (cp := cz) (all := [.fr 1 a.length (cat cI a), .fr 1 e.length (cat cB e), .sl zb 4 0 g'.length cz]) (cs := cat cT g' ++ zrP jz .any) t2 rfl naz t3 (by omega) (by simp [zaah]) (by simp [zaah, hc1]; omega) ?_; simp only [cat_take_app (f := cT)]) | (obtain ⟨t1, t2, t3⟩ := hM; obtain ⟨a', ha'⟩ : ∃ a', a ++ [vv] = a' := ⟨_, rfl⟩; have hal : a'.length = a.length + 1 := (by rw [← ha']; simp); rw [ha'] at t2; refine AW_unmatCell ab 2 (b' := zb) (sz := 4) (m := g.length) (cp := cz) (all := [.fr 1 a'.length (cat cI a'), .fr 1 e.length (cat cB e), .sl zb 4 0 g.length cz]) (cs := cat cT g ++ zrP jz .any) t2 rfl naz t3 (by omega) (by simp [zaah]) (by simp [zaah]; omega) ?_; simp only [cat_take_app (f := cT)]) | (have t1 := w1; refine AW_unmatCell ab 2 (b' := zb) (sz := 4) (m := g.length) (cp := cz) (all := [.fr 1 a.length (cat cI a), .fr 1 e.length (cat cB e), .sl zb 4 0 g.length cz]) (cs := cat cT g ++ zrP jz .any) w2 rfl naz w3 (by omega) (by simp [zaah]) (by simp [zaah]; omega) ?_; simp only [cat_take_app (f := cT)])); refine zaac (id := 16) Γy27_ok [] (by kernel_rfl) ?_; simp  [-zgE, -zdO, ↓zaab, ↓zaaa, go_sem, nba, zS nba, nbz, zS nbz, naz, zS naz]
    | refine zaad (c := .tmp 21) ?_; simp [-zgE, -zdO, ↓zaab, ↓zaaa, go_sem]; try first | (refine ⟨?_, ?_⟩ <;> change AW _ _ _ _ _ _) | (refine ⟨fun c21 => ?_, fun c21 => ?_⟩ <;> (try simp [B_iff, B_not] at c21))
    | refine zaad (c := .tmp 31) ?_; simp [-zgE, -zdO, ↓zaab, ↓zaaa, go_sem]; try first | (refine ⟨?_, ?_⟩ <;> change AW _ _ _ _ _ _) | (refine ⟨fun c31 => ?_, fun c31 => ?_⟩ <;> (try simp [B_iff, B_not] at c31))
    | refine zaad (c := .tmp 36) ?_; simp [-zgE, -zdO, ↓zaab, ↓zaaa, go_sem]; try first | (refine ⟨?_, ?_⟩ <;> change AW _ _ _ _ _ _) | (refine ⟨fun c36 => ?_, fun c36 => ?_⟩ <;> (try simp [B_iff, B_not] at c36))
    | refine zaad (c := .tmp 44) ?_; simp [-zgE, -zdO, ↓zaab, ↓zaaa, go_sem]; try first | (refine ⟨?_, ?_⟩ <;> change AW _ _ _ _ _ _) | (refine ⟨fun c44 => ?_, fun c44 => ?_⟩ <;> (try simp [B_iff, B_not] at c44))
    | refine zaad (c := .tmp 49) ?_; simp [-zgE, -zdO, ↓zaab, ↓zaaa, go_sem]; try first | (refine ⟨?_, ?_⟩ <;> change AW _ _ _ _ _ _) | (refine ⟨fun c49 => ?_, fun c49 => ?_⟩ <;> (try simp [B_iff, B_not] at c49))
    | refine zaad (c := .tmp 57) ?_; simp [-zgE, -zdO, ↓zaab, ↓zaaa, go_sem]; try first | (refine ⟨?_, ?_⟩ <;> change AW _ _ _ _ _ _) | (refine ⟨fun c57 => ?_, fun c57 => ?_⟩ <;> (try simp [B_iff, B_not] at c57))
    | refine zaad (c := .tmp 60) ?_; simp [-zgE, -zdO, ↓zaab, ↓zaaa, go_sem]; try first | (refine ⟨?_, ?_⟩ <;> change AW _ _ _ _ _ _) | (refine ⟨fun c60 => ?_, fun c60 => ?_⟩ <;> (try simp [B_iff, B_not] at c60))
    | refine zaad (c := .tmp 65) ?_; simp [-zgE, -zdO, ↓zaab, ↓zaaa, go_sem]; try first | (refine ⟨?_, ?_⟩ <;> change AW _ _ _ _ _ _) | (refine ⟨fun c65 => ?_, fun c65 => ?_⟩ <;> (try simp [B_iff, B_not] at c65))
    | (refine zaag ?_)
    | (refine zaap ?_; simp [-zgE, -zdO, ↓zaab, ↓zaaa, go_sem])
    | (refine zaao ?_; simp [-zgE, -zdO, ↓zaab, ↓zaaa, go_sem])
    | (refine AW_ret ?_; try simp [-zgE, -zdO, ↓zaab, ↓zaaa, go_sem, Try.results130])
    | (intro hx; change AW _ _ _ _ _ _)
    | (intro hx; change retR _ _ _ _ _)
    | (refine ⟨?_, ?_⟩ <;> change AW _ _ _ _ _ _)
    | (intro hx; refine ⟨fun hs => ?_, fun hs => ?_⟩)
    | (refine ⟨fun hs => ?_, fun hs => ?_⟩)
    | (refine ⟨?_, fun hs => ?_⟩; change AW _ _ _ _ _ _)
    | (refine ⟨fun hs => ?_, ?_⟩; rotate_left; change AW _ _ _ _ _ _; rotate_left)
    | ((fail_if_success change retR _ _ _ _ _); (exfalso; omega))))
  all_goals (first
    | (refine l7Mutate_ret _ _ _ _ _ _ (([], [], [])) (p + 1) ?_ ?_ ?_ ?_; (first | exact Or.inl rfl | exact Or.inr rfl); (focus (simp [-zgE, -zdO, ↓zaab, ↓zaaa, go_sem, Try.results130, dat, datL, datL_map, li, cat_nil, w1, nba, zS nba, nbz, zS nbz, naz, zS naz]; done)); (focus ((exact ⟨by simp, by simp, by simp, SmallT.nil⟩); done)); (focus (refine ⟨?_, ?_⟩ <;> omega)))
    | (refine l7Mutate_ret _ _ _ _ _ _ ((a, e, g')) (p + 1 + 1) ?_ ?_ ?_ ?_; (first | exact Or.inl rfl | exact Or.inr rfl); (focus (simp [-zgE, -zdO, ↓zaab, ↓zaaa, go_sem, Try.results130, dat, datL_map, li, cat_flat2, t1, nba, zS nba, nbz, zS nbz, naz, zS naz]; done)); (focus ((exact ⟨by dsimp only; omega, by dsimp only; omega, by dsimp only; omega, hc2 s4 (by omega)⟩); done)); (focus (refine ⟨?_, ?_⟩ <;> omega)))
    | (refine l7Mutate_ret _ _ _ _ _ _ ((a', e, g)) (p + 1 + 1) ?_ ?_ ?_ ?_; (first | exact Or.inl rfl | exact Or.inr rfl); (focus (simp [-zgE, -zdO, ↓zaab, ↓zaaa, go_sem, Try.results130, dat, datL_map, li, cat_flat2, t1, nba, zS nba, nbz, zS nbz, naz, zS naz]; done)); (focus ((exact ⟨by dsimp only; omega, by dsimp only; omega, by dsimp only; omega, s4⟩); done)); (focus (refine ⟨?_, ?_⟩ <;> omega)))
    | (refine l7Mutate_ret _ _ _ _ _ _ ((a, e, g)) (p + 1) ?_ ?_ ?_ ?_; (first | exact Or.inl rfl | exact Or.inr rfl); (focus (simp [-zgE, -zdO, ↓zaab, ↓zaaa, go_sem, Try.results130, dat, datL_map, li, cat_flat2, t1, nba, zS nba, nbz, zS nbz, naz, zS naz]; done)); (focus ((exact ⟨by dsimp only; omega, by dsimp only; omega, by dsimp only; omega, s4⟩); done)); (focus (refine ⟨?_, ?_⟩ <;> omega)))
    | skip)
noncomputable def l7MutateC : Con := .rel fun args H => match args with
  | [.ptr b 0, .st [.list n_a c_a, .list n_e c_e, .list n_g c_g]] => match H b with
    | some [.list m cs, .int .i64 p] => ((Is cY m cs) ∧ (m ≤ 2000) ∧ (0 ≤ p) ∧ (p + 3 ≤ 1000000) ∧ (Is cI n_a c_a) ∧ (Is cB n_e c_e) ∧ (Is cT n_g c_g) ∧ (AuS ((de cI c_a), (de cB c_e), (de cT c_g))), fun c => (l7Mutate_enc (l7Mutate_sel (de cI c_a) (de cB c_e) (de cT c_g) p c).1, upd H b (some [.list m cs, .int .i64 (l7Mutate_sel (de cI c_a) (de cB c_e) (de cT c_g) p c).2])))
    | _ => (False, fun _ => (.any, H))
  | _ => (False, fun _ => (.any, H))
attribute [go_sem] l7MutateC
theorem l7MutateC_ok : ConOk Try.prog 130 l7MutateC := by
  refine ⟨zaal Try.func130 (by decide) rfl, fun args H h => ?_⟩
  revert h
  dsimp only
  split
  · split
    · rename_i hH
      intro h
      obtain ⟨⟨ys, rfl, rfl⟩, hl, h0_, hp_, ⟨a, rfl, rfl⟩, ⟨e, rfl, rfl⟩, ⟨g, rfl, rfl⟩, hS⟩ := h
      try simp only [de_cat] at *
      exact SpecR.enc ((l7Mutate_spec ys _ _ a e g hl h0_ hp_ hS).frame hH).shut fun c => Prod.ext (l7Mutate_okD _ _ _ hS _ _).2.symm rfl
    · intro h; exact h.elim
  · intro h
    exact h.elim
noncomputable def Γy28 : FuncId → Con := ext Γy27 130 l7MutateC
attribute [go_sem] Γy28
theorem Γy28_ok : ∀ g, ConOk Try.prog g (Γy28 g) := zaaw Γy27_ok l7MutateC_ok

theorem AuS.of {x : Au} (h : x.1.length ≤ 5000 ∧ x.2.1.length ≤ 5000 ∧ x.2.2.length ≤ 5000 ∧ SmallT x.2.2) : AuS x := h
def AuM (x : Au) : Prop := x.1.length ≤ 5001 ∧ x.2.1.length ≤ 5000 ∧ x.2.2.length ≤ 5000 ∧ SmallT x.2.2
theorem AuM.nil : AuM ([], [], []) := ⟨by simp, by simp, by simp, SmallT.nil⟩
noncomputable def Γy29 : FuncId → Con := Γy28
attribute [go_sem] Γy29
theorem Γy29_ok : ∀ g, ConOk Try.prog g (Γy29 g) := Γy28_ok

noncomputable def Γy30 : FuncId → Con := Γy29
attribute [go_sem] Γy30
theorem Γy30_ok : ∀ g, ConOk Try.prog g (Γy30 g) := Γy29_ok

@[go_sem] theorem makeD_9z (x : D) : makeD [x] 9 = [x, x, x, x, x, x, x, x, x] := by rw [makeD_one]; rfl

noncomputable def l6Word_enc : List Int → D := fun x => li cI x
attribute [go_sem] l6Word_enc
theorem l6Word_flat (x : List Int) : dat (l6Word_enc x) = l6Word_enc x := by simp [go_sem]
def l6Word_good (n : Int) : List Int → Prop := fun x => (x.length : Int) = n
def l6Word_gd (n : Int) (x : (List Int) × D) : Prop := l6Word_good n x.1 ∧ dat x.2 = l6Word_enc x.1
noncomputable def l6Word_selD (n : Int) (p : Int) (c : Any) : ((List Int) × D) × Int := dsel (l6Word_gd n) ((zrP n.toNat 0 : List Int), l6Word_enc (zrP n.toNat 0)) 100 p c
noncomputable def l6Word_sel (n : Int) (p : Int) (c : Any) : (List Int) × Int := ((l6Word_selD n p c).1.1, (l6Word_selD n p c).2)
theorem l6Word_okD (n : Int) (h0 : 0 ≤ n) (hn : n ≤ 100) (p : Int) (c : Any) : (l6Word_good n (l6Word_sel n p c).1 ∧ p ≤ (l6Word_sel n p c).2 ∧ (l6Word_sel n p c).2 ≤ p + 100) ∧ dat (l6Word_selD n p c).1.2 = l6Word_enc (l6Word_sel n p c).1 := by
  have hx : l6Word_good n (zrP n.toNat 0) := by simp [l6Word_good]; omega
  have h := dsel_ok (good := l6Word_gd n) (x0 := ((zrP n.toNat 0 : List Int), l6Word_enc (zrP n.toNat 0))) ⟨hx, l6Word_flat _⟩ (K := 100) (by omega) (p := p) c
  exact ⟨⟨h.1.1, h.2.1, h.2.2⟩, h.1.2⟩
theorem l6Word_ok (n : Int) (h0 : 0 ≤ n) (hn : n ≤ 100) (p : Int) (c : Any) : l6Word_good n (l6Word_sel n p c).1 ∧ p ≤ (l6Word_sel n p c).2 ∧ (l6Word_sel n p c).2 ≤ p + 100 := (l6Word_okD n h0 hn p c).1
theorem l6Word_ret (n : Int) (ys : List UInt8) (p : Int) (b : Nat) {e_ : Exit} {S_ : St} (x : List Int) (p' : Int) (he_ : e_ = .ret ∨ e_ = .normal)
    (h1 : (zaaj Try.prog S_ Try.f185.results.toList).1 ∧ dat (resD (zaaj Try.prog S_ Try.f185.results.toList).2.1) = l6Word_enc x ∧ (zaaj Try.prog S_ Try.f185.results.toList).2.2.H b = some [li cY ys, .int .i64 p']) (hg : l6Word_good n x) (h2 : p ≤ p' ∧ p' ≤ p + 100) :
    retR Try.prog Try.f185 (fun c => ((l6Word_selD n p c).1.2, one b [li cY ys, .int .i64 (l6Word_selD n p c).2])) e_ S_ :=
  ret_draw (good := l6Word_gd n) (enc := fun x : (List Int) × D => x.2) (cells := fun q => [li cY ys, .int .i64 q]) (x, resD (zaaj Try.prog S_ Try.f185.results.toList).2.1) p' he_ ⟨h1.1, rfl, h1.2.2⟩ ⟨hg, h1.2.1⟩ h2
set_option maxHeartbeats 8000000 in
theorem l6Word_spec (ys : List UInt8) (p : Int) (b : Nat) (n : Int) (hl : ys.length ≤ 2000) (h0_ : 0 ≤ p) (hp_ : p + 100 ≤ 1000000) (h0 : 0 ≤ n) (hn : n ≤ 100) : SpecR Try.prog 185 [.ptr b 0, .int .i64 n] (one b [li cY ys, .int .i64 p]) (fun c => ((l6Word_selD n p c).1.2, one b [li cY ys, .int .i64 (l6Word_selD n p c).2])) := by
  refine SpecR.of_walk Try.func185 rfl (by simp [Try.f185]) fun B => ?_
  (repeat' (first
    | refine AW_seq ?_
    | refine zaac (id := 0) Γy30_ok [] (by kernel_rfl) ?_; simp  [-zgE, -zdO, ↓zaab, ↓zaaa, go_sem]
    | refine zaac (id := 1) Γy30_ok [] (by kernel_rfl) ?_; simp  [-zgE, -zdO, ↓zaab, ↓zaaa, go_sem]
    | refine zaac (id := 2) Γy30_ok [] (by kernel_rfl) ?_; simp  [-zgE, -zdO, ↓zaab, ↓zaaa, go_sem]
    | refine zaac (id := 3) Γy30_ok [] (by kernel_rfl) ?_; simp  [-zgE, -zdO, ↓zaab, ↓zaaa, go_sem]
    | refine zaac (id := 5) Γy30_ok [] (by kernel_rfl) ?_; simp  [-zgE, -zdO, ↓zaab, ↓zaaa, go_sem, g3, hl, (show 0 ≤ q.2.1 by omega), (show q.2.1 ≤ 1000000 by omega), (show 0 ≤ q.2.1 + 1 by omega), (show q.2.1 + 1 ≤ 1000000 by omega), (show q.1.length ≤ 9223372036854775806 by omega), (show 2 * (q.1.length + 1) * 8 ≤ 281474976710656 by omega), snoc_cI]; try ((generalize numI ys q.2.1 [0, 1, 2, 3, 1, 0, 5, 4, 7] = vv at *); (refine AW_gen (fun H2 => H2 b = some [.list ys.length (cat cY ys), .int .i64 (q.2.1 + 1)]) (by simp [upd]) fun H2 t3 => ?_))
    | refine zaac (id := 4) Γy30_ok [] (by kernel_rfl) ?_; simp  [-zgE, -zdO, ↓zaab, ↓zaaa, go_sem, wrapS (k := q.1.length) (by omega)]
    | refine zaac (id := 6) Γy30_ok [] (by kernel_rfl) ?_; simp  [-zgE, -zdO, ↓zaab, ↓zaaa, go_sem]
    | refine zaad (c := .tmp 10) ?_; simp [-zgE, -zdO, ↓zaab, ↓zaaa, go_sem]; try first | (refine ⟨?_, ?_⟩ <;> change AW _ _ _ _ _ _) | (refine ⟨fun c10 => ?_, fun c10 => ?_⟩ <;> (try simp [B_iff, B_not] at c10))
    | (refine zaag (id := 0) (AW_loop (ι := List Int × Int × Hp) (fun q : List Int × Int × Hp => ⟨(upd (upd (upd (upd (fun _ => .any) 0 (.ptr b 0)) 1 (.int .i64 n)) 5 (.fr 1 q.1.length (cat cI q.1))) 6 (.int .i64 (q.1.length : Int))), q.2.2⟩) (fun q => (q.1.length : Int) ≤ n ∧ q.2.1 = p + q.1.length ∧ q.2.2 b = some [.list ys.length (cat cY ys), .int .i64 (q.2.1)]) (fun q => (n - q.1.length).toNat) (([], p, one b [li cY ys, .int .i64 p])) ?_ ?_ ?_); exact ⟨by simpa using h0, by simp, by simp [one, upd, li]⟩; ((repeat' (first | exact zaae (by assumption) | exact zaai | refine zaam ?_ ?_ | refine zaaf ?_)) <;> simp [-zgE, -zdO, ↓zaab, ↓zaaa, go_sem, List.length_nil, cat_nil]); rintro q ⟨g1, g2, g3⟩)
    | (refine ⟨(q.1 ++ [vv], q.2.1 + 1, H2), ⟨by simp; omega, by simp; omega, t3⟩, by first | omega | (simp; done) | (simp; omega), ?_⟩; ((repeat' (first | exact zaae (by assumption) | exact zaai | refine zaam ?_ ?_ | refine zaaf ?_)) <;> simp [-zgE, -zdO, ↓zaab, ↓zaaa, go_sem, List.length_nil, cat_nil]))
    | (refine zaag ?_)
    | (refine zaap ?_; simp [-zgE, -zdO, ↓zaab, ↓zaaa, go_sem])
    | (refine zaao ?_; simp [-zgE, -zdO, ↓zaab, ↓zaaa, go_sem])
    | (refine AW_ret ?_; try simp [-zgE, -zdO, ↓zaab, ↓zaaa, go_sem, Try.results185])
    | (intro hx; change AW _ _ _ _ _ _)
    | (intro hx; change retR _ _ _ _ _)
    | (refine ⟨?_, ?_⟩ <;> change AW _ _ _ _ _ _)
    | (intro hx; refine ⟨fun hs => ?_, fun hs => ?_⟩)
    | (refine ⟨fun hs => ?_, fun hs => ?_⟩)
    | (refine ⟨?_, fun hs => ?_⟩; change AW _ _ _ _ _ _)
    | (refine ⟨fun hs => ?_, ?_⟩; rotate_left; change AW _ _ _ _ _ _; rotate_left)))
  all_goals (first
    | (refine l6Word_ret _ _ _ _ (q.1) (q.2.1) ?_ ?_ ?_ ?_; (first | exact Or.inl rfl | exact Or.inr rfl); (focus (simp [-zgE, -zdO, ↓zaab, ↓zaaa, go_sem, Try.results185, li, dat, datL_map, cat_flat2, g3]; done)); (focus ((((show (q.1.length : Int) = n); omega)); done)); (focus (refine ⟨?_, ?_⟩ <;> omega)))
    | skip)
noncomputable def l6WordC : Con := .rel fun args H => match args with
  | [.ptr b 0, .int .i64 n] => match H b with
    | some [.list m cs, .int .i64 p] => ((Is cY m cs) ∧ (m ≤ 2000) ∧ (0 ≤ p) ∧ (p + 100 ≤ 1000000) ∧ (0 ≤ n) ∧ (n ≤ 100), fun c => (l6Word_enc (l6Word_sel n p c).1, upd H b (some [.list m cs, .int .i64 (l6Word_sel n p c).2])))
    | _ => (False, fun _ => (.any, H))
  | _ => (False, fun _ => (.any, H))
attribute [go_sem] l6WordC
theorem l6WordC_ok : ConOk Try.prog 185 l6WordC := by
  refine ⟨zaal Try.func185 (by decide) rfl, fun args H h => ?_⟩
  revert h
  dsimp only
  split
  · split
    · rename_i hH
      intro h
      obtain ⟨⟨ys, rfl, rfl⟩, hl, h0_, hp_, h0, hn⟩ := h
      try simp only [de_cat] at *
      exact SpecR.enc ((l6Word_spec ys _ _ _ hl h0_ hp_ h0 hn).frame hH).shut fun c => Prod.ext (l6Word_okD _ h0 hn _ _).2.symm rfl
    · intro h; exact h.elim
  · intro h
    exact h.elim
noncomputable def Γy31 : FuncId → Con := ext Γy30 185 l6WordC
attribute [go_sem] Γy31
theorem Γy31_ok : ∀ g, ConOk Try.prog g (Γy31 g) := zaaw Γy30_ok l6WordC_ok

def sPz (x : Ints2) : D := .st [li cI x.1, li cI x.2]
attribute [go_sem] sPz
noncomputable def l6Lasso_enc : Ints2 → D := sPz
attribute [go_sem] l6Lasso_enc
theorem l6Lasso_flat (x : Ints2) : dat (l6Lasso_enc x) = l6Lasso_enc x := by simp [go_sem]
def l6Lasso_good  : Ints2 → Prop := fun x => x.1.length ≤ 5 ∧ 1 ≤ x.2.length ∧ x.2.length ≤ 8
def l6Lasso_gd  (x : (Ints2) × D) : Prop := l6Lasso_good x.1 ∧ dat x.2 = l6Lasso_enc x.1
noncomputable def l6Lasso_selD  (p : Int) (c : Any) : ((Ints2) × D) × Int := dsel (l6Lasso_gd) ((([], [0]) : Ints2), l6Lasso_enc (([], [0]))) 210 p c
noncomputable def l6Lasso_sel  (p : Int) (c : Any) : (Ints2) × Int := ((l6Lasso_selD p c).1.1, (l6Lasso_selD p c).2)
theorem l6Lasso_okD   (p : Int) (c : Any) : (l6Lasso_good (l6Lasso_sel p c).1 ∧ p ≤ (l6Lasso_sel p c).2 ∧ (l6Lasso_sel p c).2 ≤ p + 210) ∧ dat (l6Lasso_selD p c).1.2 = l6Lasso_enc (l6Lasso_sel p c).1 := by
  have hx : l6Lasso_good (([], [0])) := by simp [l6Lasso_good]
  have h := dsel_ok (good := l6Lasso_gd) (x0 := ((([], [0]) : Ints2), l6Lasso_enc (([], [0])))) ⟨hx, l6Lasso_flat _⟩ (K := 210) (by omega) (p := p) c
  exact ⟨⟨h.1.1, h.2.1, h.2.2⟩, h.1.2⟩
theorem l6Lasso_ok   (p : Int) (c : Any) : l6Lasso_good (l6Lasso_sel p c).1 ∧ p ≤ (l6Lasso_sel p c).2 ∧ (l6Lasso_sel p c).2 ≤ p + 210 := (l6Lasso_okD  p c).1
theorem l6Lasso_ret  (ys : List UInt8) (p : Int) (b : Nat) {e_ : Exit} {S_ : St} (x : Ints2) (p' : Int) (he_ : e_ = .ret ∨ e_ = .normal)
    (h1 : (zaaj Try.prog S_ Try.f133.results.toList).1 ∧ dat (resD (zaaj Try.prog S_ Try.f133.results.toList).2.1) = l6Lasso_enc x ∧ (zaaj Try.prog S_ Try.f133.results.toList).2.2.H b = some [li cY ys, .int .i64 p']) (hg : l6Lasso_good x) (h2 : p ≤ p' ∧ p' ≤ p + 210) :
    retR Try.prog Try.f133 (fun c => ((l6Lasso_selD p c).1.2, one b [li cY ys, .int .i64 (l6Lasso_selD p c).2])) e_ S_ :=
  ret_draw (good := l6Lasso_gd) (enc := fun x : (Ints2) × D => x.2) (cells := fun q => [li cY ys, .int .i64 q]) (x, resD (zaaj Try.prog S_ Try.f133.results.toList).2.1) p' he_ ⟨h1.1, rfl, h1.2.2⟩ ⟨hg, h1.2.1⟩ h2
set_option maxHeartbeats 8000000 in
theorem l6Lasso_spec (ys : List UInt8) (p : Int) (b : Nat)  (hl : ys.length ≤ 2000) (h0_ : 0 ≤ p) (hp_ : p + 210 ≤ 1000000)  : SpecR Try.prog 133 [.ptr b 0] (one b [li cY ys, .int .i64 p]) (fun c => ((l6Lasso_selD p c).1.2, one b [li cY ys, .int .i64 (l6Lasso_selD p c).2])) := by
  refine SpecR.of_walk Try.func133 rfl (by simp [Try.f133]) fun B => ?_
  have hr1 := numI_range ys (p := p) (by omega) (xs := [2, 0, 3, 1, 5]) (lo := 0) (hi := 5) (by simp) (by simp); obtain ⟨n1, hn1⟩ : ∃ n1, numI ys p [2, 0, 3, 1, 5] = n1 := ⟨_, rfl⟩; rw [hn1] at hr1; have u1 : ∀ c, 0 ≤ (l6Word_sel n1 (p + 1) c).2 ∧ (l6Word_sel n1 (p + 1) c).2 ≤ 1000000 ∧ 0 ≤ (l6Word_sel n1 (p + 1) c).2 + 1 ∧ (l6Word_sel n1 (p + 1) c).2 + 1 + 100 ≤ 1000000 ∧ 0 ≤ numI ys (l6Word_sel n1 (p + 1) c).2 [2, 1, 3, 4] ∧ numI ys (l6Word_sel n1 (p + 1) c).2 [2, 1, 3, 4] ≤ 100 := (fun c => by (have h := l6Word_ok n1 (by omega) (by omega) (p + 1) c); (have r := numI_range ys (p := (l6Word_sel n1 (p + 1) c).2) (by omega) (xs := [2, 1, 3, 4]) (lo := 1) (hi := 4) (by simp) (by simp)); omega)
  all_goals (repeat' (first
    | refine AW_seq ?_
    | refine zaac (id := 0) Γy31_ok [] (by kernel_rfl) ?_; simp  [-zgE, -zdO, ↓zaab, ↓zaaa, go_sem]
    | refine zaac (id := 1) Γy31_ok [] (by kernel_rfl) ?_; simp  [-zgE, -zdO, ↓zaab, ↓zaaa, go_sem, hl, (show 0 ≤ p by omega), (show p ≤ 1000000 by omega), (show 0 ≤ p + 1 by omega), (show p + 1 ≤ 1000000 by omega), hn1, hr1, (show n1 ≤ 100 by omega), (show p + 1 + 100 ≤ 1000000 by omega), u1]; try ((intro c1 c1'); (have z0 := l6Word_ok n1 (by omega) (by omega) (p + 1) c1); (have u2 := u1 c1); (generalize l6Word_sel n1 (p + 1) c1 = z at *); (obtain ⟨st, p2⟩ := z); (dsimp only at z0 u2 ⊢); (simp only [l6Word_good] at z0); (have r := numI_range ys (p := p2) (by omega) (xs := [2, 1, 3, 4]) (lo := 1) (hi := 4) (by simp) (by simp)); (generalize numI ys p2 [2, 1, 3, 4] = n2 at *); (have y0 := l6Word_ok n2 (by omega) (by omega) (p2 + 1) c1'); (generalize l6Word_sel n2 (p2 + 1) c1' = y at *); (obtain ⟨lo, p3⟩ := y); (dsimp only at y0 ⊢); (simp only [l6Word_good] at y0); (clear u1))
    | refine zaac (id := 2) Γy31_ok [] (by kernel_rfl) ?_; simp  [-zgE, -zdO, ↓zaab, ↓zaaa, go_sem, hl, (show 0 ≤ p3 by omega), (show p3 ≤ 1000000 by omega), (show 0 ≤ p3 + 1 by omega), (show p3 + 1 ≤ 1000000 by omega)]
    | ((refine AW_matBox 3 rfl fun lb hlb => ?_); (have nbl : ¬ b = lb := (by rintro rfl; simp [upd] at hlb)); (clear hlb); (refine AW_gen (fun H1 => H1 b = some [.list ys.length (cat cY ys), .int .i64 (p3 + 1)] ∧ H1 lb = some [li cI st, li cI lo]) ⟨by simp [upd, nbl], by simp [upd, li]⟩ fun H1 ⟨w1, w2⟩ => ?_)); refine zaat (id := 3) Γy31_ok mixed [] [3] (by kernel_rfl) (by kernel_rfl) (by simp [-zgE, -zdO, ↓zaab, ↓zaaa, go_sem, w1, w2, nbl, zS nbl, (show lo.length ≤ 9223372036854775807 by omega), (show 2 * lo.length * 8 ≤ 281474976710656 by omega), (show lo.length + lo.length ≤ 9223372036854775807 by omega), (show 2 * (lo.length + lo.length) * 8 ≤ 281474976710656 by omega)]) ?_; simp  [-zgE, -zdO, ↓zaab, ↓zaaa, go_sem, w1, w2, nbl, zS nbl, (show lo.length ≤ 9223372036854775807 by omega), (show 2 * lo.length * 8 ≤ 281474976710656 by omega), (show lo.length + lo.length ≤ 9223372036854775807 by omega), (show 2 * (lo.length + lo.length) * 8 ≤ 281474976710656 by omega)]
    | (first | (have z_ := nbl) | (refine AW_shut 3 ?_; simp [go_sem, dat])); refine zaac (id := 4) Γy31_ok [] (by kernel_rfl) ?_; simp  [-zgE, -zdO, ↓zaab, ↓zaaa, go_sem]
    | refine zaad (c := .tmp 17) ?_; simp [-zgE, -zdO, ↓zaab, ↓zaaa, go_sem]; try first | (refine ⟨?_, ?_⟩ <;> change AW _ _ _ _ _ _) | (refine ⟨fun c17 => ?_, fun c17 => ?_⟩ <;> (try simp [B_iff, B_not] at c17))
    | (refine zaag ?_)
    | (refine zaap ?_; simp [-zgE, -zdO, ↓zaab, ↓zaaa, go_sem])
    | (refine zaao ?_; simp [-zgE, -zdO, ↓zaab, ↓zaaa, go_sem])
    | (refine AW_ret ?_; try simp [-zgE, -zdO, ↓zaab, ↓zaaa, go_sem, Try.results133])
    | (intro hx; change AW _ _ _ _ _ _)
    | (intro hx; change retR _ _ _ _ _)
    | (refine ⟨?_, ?_⟩ <;> change AW _ _ _ _ _ _)
    | (intro hx; refine ⟨fun hs => ?_, fun hs => ?_⟩)
    | (refine ⟨fun hs => ?_, fun hs => ?_⟩)
    | (refine ⟨?_, fun hs => ?_⟩; change AW _ _ _ _ _ _)
    | (refine ⟨fun hs => ?_, ?_⟩; rotate_left; change AW _ _ _ _ _ _; rotate_left)))
  all_goals (first
    | (refine l6Lasso_ret _ _ _ ((st, lo)) (p3 + 1) ?_ ?_ ?_ ?_; (first | exact Or.inl rfl | exact Or.inr rfl); (focus (simp [-zgE, -zdO, ↓zaab, ↓zaaa, go_sem, Try.results133, dat, datL_map, li, cat_flat2]; done)); (focus ((exact ⟨by dsimp only; omega, by dsimp only; omega, by dsimp only; omega⟩); done)); (focus (refine ⟨?_, ?_⟩ <;> omega)))
    | (refine l6Lasso_ret _ _ _ ((st, lo ++ lo)) (p3 + 1) ?_ ?_ ?_ ?_; (first | exact Or.inl rfl | exact Or.inr rfl); (focus (simp [-zgE, -zdO, ↓zaab, ↓zaaa, go_sem, Try.results133, dat, datL_map, li, cat_flat2, cat_append, w1, nbl, zS nbl]; done)); (focus ((exact ⟨by dsimp only; omega, by simp; omega, by simp; omega⟩); done)); (focus (refine ⟨?_, ?_⟩ <;> omega)))
    | skip)
noncomputable def l6LassoC : Con := .rel fun args H => match args with
  | [.ptr b 0] => match H b with
    | some [.list m cs, .int .i64 p] => ((Is cY m cs) ∧ (m ≤ 2000) ∧ (0 ≤ p) ∧ (p + 210 ≤ 1000000), fun c => (l6Lasso_enc (l6Lasso_sel p c).1, upd H b (some [.list m cs, .int .i64 (l6Lasso_sel p c).2])))
    | _ => (False, fun _ => (.any, H))
  | _ => (False, fun _ => (.any, H))
attribute [go_sem] l6LassoC
theorem l6LassoC_ok : ConOk Try.prog 133 l6LassoC := by
  refine ⟨zaal Try.func133 (by decide) rfl, fun args H h => ?_⟩
  revert h
  dsimp only
  split
  · split
    · rename_i hH
      intro h
      obtain ⟨⟨ys, rfl, rfl⟩, hl, h0_, hp_⟩ := h
      try simp only [de_cat] at *
      exact SpecR.enc ((l6Lasso_spec ys _ _ hl h0_ hp_ ).frame hH).shut fun c => Prod.ext (l6Lasso_okD  _ _).2.symm rfl
    · intro h; exact h.elim
  · intro h
    exact h.elim
noncomputable def Γy32 : FuncId → Con := ext Γy31 133 l6LassoC
attribute [go_sem] Γy32
theorem Γy32_ok : ∀ g, ConOk Try.prog g (Γy32 g) := zaaw Γy31_ok l6LassoC_ok

structure LZ where
  s : List Int
  q : Int
  H : Hp
def LZi (b qb y : Nat) (ys : List UInt8) (e : List Int) (c2 j2 : Nat) (p0 : Int) (m0 : Nat) (r : LZ) : Prop := r.s.length ≤ 200 ∧ m0 ≤ r.s.length ∧ p0 ≤ r.q ∧ r.q ≤ p0 + (r.s.length - m0 : Int) ∧ r.H b = some [.list ys.length (cat cY ys), .int .i64 (r.q)] ∧ r.H qb = some [.fr 1 r.s.length (cat cI r.s), .sl y 1 0 e.length c2] ∧ r.H y = some (cat cI e ++ zrP j2 .any)

noncomputable def l6Mutate_enc : Ints2 → D := sPz
attribute [go_sem] l6Mutate_enc
theorem l6Mutate_flat (x : Ints2) : dat (l6Mutate_enc x) = l6Mutate_enc x := by simp [go_sem]
def l6Mutate_good (a : List Int) (e : List Int) : Ints2 → Prop := fun x => x.1.length ≤ 300 ∧ x.2.length ≤ 300
def l6Mutate_gd (a : List Int) (e : List Int) (x : (Ints2) × D) : Prop := l6Mutate_good a e x.1 ∧ dat x.2 = l6Mutate_enc x.1
noncomputable def l6Mutate_selD (a : List Int) (e : List Int) (p : Int) (c : Any) : ((Ints2) × D) × Int := dsel (l6Mutate_gd a e) ((([], []) : Ints2), l6Mutate_enc (([], []))) 210 p c
noncomputable def l6Mutate_sel (a : List Int) (e : List Int) (p : Int) (c : Any) : (Ints2) × Int := ((l6Mutate_selD a e p c).1.1, (l6Mutate_selD a e p c).2)
theorem l6Mutate_okD (a : List Int) (e : List Int) (hS : a.length ≤ 100 ∧ 1 ≤ e.length ∧ e.length ≤ 100) (p : Int) (c : Any) : (l6Mutate_good a e (l6Mutate_sel a e p c).1 ∧ p ≤ (l6Mutate_sel a e p c).2 ∧ (l6Mutate_sel a e p c).2 ≤ p + 210) ∧ dat (l6Mutate_selD a e p c).1.2 = l6Mutate_enc (l6Mutate_sel a e p c).1 := by
  have hx : l6Mutate_good a e (([], [])) := by simp [l6Mutate_good]
  have h := dsel_ok (good := l6Mutate_gd a e) (x0 := ((([], []) : Ints2), l6Mutate_enc (([], [])))) ⟨hx, l6Mutate_flat _⟩ (K := 210) (by omega) (p := p) c
  exact ⟨⟨h.1.1, h.2.1, h.2.2⟩, h.1.2⟩
theorem l6Mutate_ok (a : List Int) (e : List Int) (hS : a.length ≤ 100 ∧ 1 ≤ e.length ∧ e.length ≤ 100) (p : Int) (c : Any) : l6Mutate_good a e (l6Mutate_sel a e p c).1 ∧ p ≤ (l6Mutate_sel a e p c).2 ∧ (l6Mutate_sel a e p c).2 ≤ p + 210 := (l6Mutate_okD a e hS p c).1
theorem l6Mutate_ret (a : List Int) (e : List Int) (ys : List UInt8) (p : Int) (b : Nat) {e_ : Exit} {S_ : St} (x : Ints2) (p' : Int) (he_ : e_ = .ret ∨ e_ = .normal)
    (h1 : (zaaj Try.prog S_ Try.f132.results.toList).1 ∧ dat (resD (zaaj Try.prog S_ Try.f132.results.toList).2.1) = l6Mutate_enc x ∧ (zaaj Try.prog S_ Try.f132.results.toList).2.2.H b = some [li cY ys, .int .i64 p']) (hg : l6Mutate_good a e x) (h2 : p ≤ p' ∧ p' ≤ p + 210) :
    retR Try.prog Try.f132 (fun c => ((l6Mutate_selD a e p c).1.2, one b [li cY ys, .int .i64 (l6Mutate_selD a e p c).2])) e_ S_ :=
  ret_draw (good := l6Mutate_gd a e) (enc := fun x : (Ints2) × D => x.2) (cells := fun q => [li cY ys, .int .i64 q]) (x, resD (zaaj Try.prog S_ Try.f132.results.toList).2.1) p' he_ ⟨h1.1, rfl, h1.2.2⟩ ⟨hg, h1.2.1⟩ h2
set_option maxHeartbeats 16000000 in
theorem l6Mutate_spec (ys : List UInt8) (p : Int) (b : Nat) (a : List Int) (e : List Int) (hl : ys.length ≤ 2000) (h0_ : 0 ≤ p) (hp_ : p + 210 ≤ 1000000) (hS : a.length ≤ 100 ∧ 1 ≤ e.length ∧ e.length ≤ 100) : SpecR Try.prog 132 [.ptr b 0, .st [li cI a, li cI e]] (one b [li cY ys, .int .i64 p]) (fun c => ((l6Mutate_selD a e p c).1.2, one b [li cY ys, .int .i64 (l6Mutate_selD a e p c).2])) := by
  refine SpecR.of_walk Try.func132 rfl (by simp [Try.f132]) fun B => ?_
  obtain ⟨s1, s2, s3⟩ := hS
  all_goals (repeat' (first
    | refine AW_seq ?_
    | refine zaac (id := 0) Γy32_ok [] (by kernel_rfl) ?_; simp  [-zgE, -zdO, ↓zaab, ↓zaaa, go_sem]; try (refine AW_shut 3 ?_; simp [go_sem])
    | refine zaat (id := 1) Γy32_ok mixed [] [3] (by kernel_rfl) (by kernel_rfl) (by simp [-zgE, -zdO, ↓zaab, ↓zaaa, go_sem, (show a.length ≤ 9223372036854775807 by omega), (show 2 * a.length * 8 ≤ 281474976710656 by omega), (show e.length ≤ 9223372036854775807 by omega), (show 2 * e.length * 8 ≤ 281474976710656 by omega)]) ?_; simp  [-zgE, -zdO, ↓zaab, ↓zaaa, go_sem, (show a.length ≤ 9223372036854775807 by omega), (show 2 * a.length * 8 ≤ 281474976710656 by omega), (show e.length ≤ 9223372036854775807 by omega), (show 2 * e.length * 8 ≤ 281474976710656 by omega)]; try ((refine AW_box2z 5 rfl fun qb x y j1 j2 c1 c2 hqb hx hy n1 n2 n3 hc1 hd1 hc2 hd2 => ?_); (have nbq : ¬ b = qb := (by rintro rfl; simp [upd] at hqb)); (have nbx : ¬ b = x := (by rintro rfl; simp [upd] at hx)); (have nby : ¬ b = y := (by rintro rfl; simp [upd] at hy)); (clear hqb hx hy); (refine AW_gen (fun H1 => H1 b = some [.list ys.length (cat cY ys), .int .i64 (p)] ∧ H1 qb = some [.sl x 1 0 a.length c1, .sl y 1 0 e.length c2] ∧ H1 x = some (cat cI a ++ zrP j1 .any) ∧ H1 y = some (cat cI e ++ zrP j2 .any)) ⟨by simp [upd, nbq, zS nbq, nbx, zS nbx, nby, zS nby, n1, zS n1, n2, zS n2, n3, zS n3], by simp [upd, nbq, zS nbq, nbx, zS nbx, nby, zS nby, n1, zS n1, n2, zS n2, n3, zS n3], by simp [upd, nbq, zS nbq, nbx, zS nbx, nby, zS nby, n1, zS n1, n2, zS n2, n3, zS n3], by simp [upd, nbq, zS nbq, nbx, zS nbx, nby, zS nby, n1, zS n1, n2, zS n2, n3, zS n3]⟩ fun H1 ⟨w1, w2, w3, w4⟩ => ?_))
    | refine zaac (id := 2) Γy32_ok [] (by kernel_rfl) ?_; simp  [-zgE, -zdO, ↓zaab, ↓zaaa, go_sem, w1, hl, (show 0 ≤ p by omega), (show p ≤ 1000000 by omega), (show 0 ≤ p + 1 by omega), (show p + 1 ≤ 1000000 by omega)]; try ((generalize pkI ys p 40 = kk at *); (refine AW_gen (fun H2 => H2 b = some [.list ys.length (cat cY ys), .int .i64 (p + 1)] ∧ H2 qb = some [.sl x 1 0 a.length c1, .sl y 1 0 e.length c2] ∧ H2 x = some (cat cI a ++ zrP j1 .any) ∧ H2 y = some (cat cI e ++ zrP j2 .any)) ⟨by simp [upd, nbq, zS nbq, nbx, zS nbx, nby, zS nby, n1, zS n1, n2, zS n2, n3, zS n3], by simp [upd, nbq, zS nbq, nbx, zS nbx, nby, zS nby, n1, zS n1, n2, zS n2, n3, zS n3, w2], by simp [upd, nbq, zS nbq, nbx, zS nbx, nby, zS nby, n1, zS n1, n2, zS n2, n3, zS n3, w3], by simp [upd, nbq, zS nbq, nbx, zS nbx, nby, zS nby, n1, zS n1, n2, zS n2, n3, zS n3, w4]⟩ fun H2 ⟨w1, w2, w3, w4⟩ => ?_))
    | refine zaac (id := 3) Γy32_ok [] (by kernel_rfl) ?_; simp  [-zgE, -zdO, ↓zaab, ↓zaaa, go_sem]
    | refine zaac (id := 4) Γy32_ok [] (by kernel_rfl) ?_; simp  [-zgE, -zdO, ↓zaab, ↓zaaa, go_sem, w1, w2, nbq, zS nbq, nbx, zS nbx, nby, zS nby, n1, zS n1, n2, zS n2, n3, zS n3]; try ((have hz0 : True := trivial); (refine AW_gen (fun H3 => H3 b = some [.list ys.length (cat cY ys), .int .i64 (p + 1)] ∧ H3 qb = some [.sl x 1 0 a.length c1, .fr 1 0 []] ∧ H3 x = some (cat cI a ++ zrP j1 .any)) ⟨by simp [upd, nbq, zS nbq, nbx, zS nbx, nby, zS nby, n1, zS n1, n2, zS n2, n3, zS n3, w1], by simp [upd, nbq, zS nbq, nbx, zS nbx, nby, zS nby, n1, zS n1, n2, zS n2, n3, zS n3], by simp [upd, nbq, zS nbq, nbx, zS nbx, nby, zS nby, n1, zS n1, n2, zS n2, n3, zS n3, w3]⟩ fun H3 ⟨t1, t2, t3⟩ => ?_))
    | refine zaac (id := 5) Γy32_ok [] (by kernel_rfl) ?_; simp  [-zgE, -zdO, ↓zaab, ↓zaaa, go_sem]
    | ((have he0 : 0 < e.length := (by omega))); refine zaas (id := 6) Γy32_ok mixed [(qb, [.sl x 1 0 a.length c1, .sl y 1 0 e.length c2])] [] [] (by kernel_rfl) (by kernel_rfl) (by simp [-zgE, -zdO, ↓zaab, ↓zaaa, go_sem, w1, w2, w3, w4, hl, nbq, zS nbq, nbx, zS nbx, nby, zS nby, n1, zS n1, n2, zS n2, n3, zS n3, (show 0 ≤ p + 1 by omega), (show p + 1 ≤ 1000000 by omega), (show 0 ≤ p + 1 + 1 by omega), (show p + 1 + 1 ≤ 1000000 by omega), he0, (show 0 < e.length + j2 by omega), (show 1 ≤ e.length + j2 by omega)]) (by simp [-zgE, -zdO, ↓zaab, ↓zaaa, go_sem, w1, w2, w3, w4, hl, nbq, zS nbq, nbx, zS nbx, nby, zS nby, n1, zS n1, n2, zS n2, n3, zS n3, (show 0 ≤ p + 1 by omega), (show p + 1 ≤ 1000000 by omega), (show 0 ≤ p + 1 + 1 by omega), (show p + 1 + 1 ≤ 1000000 by omega), he0, (show 0 < e.length + j2 by omega), (show 1 ≤ e.length + j2 by omega)]) ?_; simp  [-zgE, -zdO, ↓zaab, ↓zaaa, go_sem, w1, w2, w3, w4, hl, nbq, zS nbq, nbx, zS nbx, nby, zS nby, n1, zS n1, n2, zS n2, n3, zS n3, (show 0 ≤ p + 1 by omega), (show p + 1 ≤ 1000000 by omega), (show 0 ≤ p + 1 + 1 by omega), (show p + 1 + 1 ≤ 1000000 by omega), he0, (show 0 < e.length + j2 by omega), (show 1 ≤ e.length + j2 by omega)]; try ((generalize numI ys (p + 1) [8, -1, 7, 9223372036854775807] = vv at *); (have hel : (e.set 0 vv).length = e.length := (by simp)); (refine AW_gen (fun H3 => H3 b = some [.list ys.length (cat cY ys), .int .i64 (p + 1 + 1)] ∧ H3 qb = some [.sl x 1 0 a.length c1, .sl y 1 0 (e.set 0 vv).length c2] ∧ H3 x = some (cat cI a ++ zrP j1 .any) ∧ H3 y = some (cat cI (e.set 0 vv) ++ zrP j2 .any)) ⟨by simp [upd, nbq, zS nbq, nbx, zS nbx, nby, zS nby, n1, zS n1, n2, zS n2, n3, zS n3], by simp [upd, nbq, zS nbq, nbx, zS nbx, nby, zS nby, n1, zS n1, n2, zS n2, n3, zS n3, w2], by simp [upd, nbq, zS nbq, nbx, zS nbx, nby, zS nby, n1, zS n1, n2, zS n2, n3, zS n3, w3], by simp [upd, nbq, zS nbq, nbx, zS nbx, nby, zS nby, n1, zS n1, n2, zS n2, n3, zS n3]⟩ fun H3 ⟨t1, t2, t3, t4⟩ => ?_); (generalize e.set 0 vv = e8 at *))
    | refine zaac (id := 7) Γy32_ok [] (by kernel_rfl) ?_; simp  [-zgE, -zdO, ↓zaab, ↓zaaa, go_sem]
    | refine zaas (id := 8) Γy32_ok mixed [(qb, [.sl x 1 0 a.length c1, .sl y 1 0 e.length c2])] [] [] (by kernel_rfl) (by kernel_rfl) (by simp [-zgE, -zdO, ↓zaab, ↓zaaa, go_sem, w1, w2, w3, w4, hl, nbq, zS nbq, nbx, zS nbx, nby, zS nby, n1, zS n1, n2, zS n2, n3, zS n3, (show 0 ≤ p + 1 by omega), (show p + 1 ≤ 1000000 by omega), (show 0 ≤ p + 1 + 1 by omega), (show p + 1 + 1 ≤ 1000000 by omega), (show a.length ≤ 9223372036854775806 by omega), (show 2 * (a.length + 1) * 8 ≤ 281474976710656 by omega), (show c1 ≤ a.length + j1 by omega), (show a.length ≤ a.length + j1 by omega)]) (by simp [-zgE, -zdO, ↓zaab, ↓zaaa, go_sem, w1, w2, w3, w4, hl, nbq, zS nbq, nbx, zS nbx, nby, zS nby, n1, zS n1, n2, zS n2, n3, zS n3, (show 0 ≤ p + 1 by omega), (show p + 1 ≤ 1000000 by omega), (show 0 ≤ p + 1 + 1 by omega), (show p + 1 + 1 ≤ 1000000 by omega), (show a.length ≤ 9223372036854775806 by omega), (show 2 * (a.length + 1) * 8 ≤ 281474976710656 by omega), (show c1 ≤ a.length + j1 by omega), (show a.length ≤ a.length + j1 by omega)]) ?_; simp  [-zgE, -zdO, ↓zaab, ↓zaaa, go_sem, w1, w2, w3, w4, hl, nbq, zS nbq, nbx, zS nbx, nby, zS nby, n1, zS n1, n2, zS n2, n3, zS n3, (show 0 ≤ p + 1 by omega), (show p + 1 ≤ 1000000 by omega), (show 0 ≤ p + 1 + 1 by omega), (show p + 1 + 1 ≤ 1000000 by omega), (show a.length ≤ 9223372036854775806 by omega), (show 2 * (a.length + 1) * 8 ≤ 281474976710656 by omega), (show c1 ≤ a.length + j1 by omega), (show a.length ≤ a.length + j1 by omega)]; try ((generalize numI ys (p + 1) [8, 0, -9223372036854775808] = vv at *); (have hal : (a ++ [vv]).length = a.length + 1 := (by simp)); (refine AW_gen (fun H3 => H3 b = some [.list ys.length (cat cY ys), .int .i64 (p + 1 + 1)] ∧ H3 qb = some [.fr 1 (a ++ [vv]).length (cat cI (a ++ [vv])), .sl y 1 0 e.length c2] ∧ H3 y = some (cat cI e ++ zrP j2 .any)) ⟨by simp [upd, nbq, zS nbq, nbx, zS nbx, nby, zS nby, n1, zS n1, n2, zS n2, n3, zS n3], by simp [upd, nbq, zS nbq, nbx, zS nbx, nby, zS nby, n1, zS n1, n2, zS n2, n3, zS n3, snoc_cI], by simp [upd, nbq, zS nbq, nbx, zS nbx, nby, zS nby, n1, zS n1, n2, zS n2, n3, zS n3, w4]⟩ fun H3 ⟨t1, t2, t4⟩ => ?_); (generalize a ++ [vv] = a8 at *))
    | refine zaac (id := 9) Γy32_ok [] (by kernel_rfl) ?_; simp  [-zgE, -zdO, ↓zaab, ↓zaaa, go_sem]
    | ((obtain ⟨s, qq, HH⟩ := r); (obtain ⟨f1, f2, f3, f4, t1, t2, t4⟩ := hr); (dsimp only at f1 f2 f3 f4 t1 t2 t4); (have hk2 := pkI_range ys (p := qq) (by omega) (n := 2) (by omega)); (refine AW_matCell qb 0 (all := [.fr 1 s.length (cat cI s), .sl y 1 0 e.length c2]) t2 rfl fun xb cp jj hx2 f5 f6 => ?_); (have m1 : ¬ xb = b := (by rintro rfl; simp [upd, nbq, zS nbq, t1] at hx2)); (have m2 : ¬ xb = qb := (by rintro rfl; simp [upd, t2] at hx2)); (have m3 : ¬ xb = y := (by rintro rfl; simp [upd, n2, zS n2, t4] at hx2)); (clear hx2); (refine AW_gen (fun H3 => H3 b = some [.list ys.length (cat cY ys), .int .i64 (qq)] ∧ H3 qb = some [.sl xb 1 0 s.length cp, .sl y 1 0 e.length c2] ∧ H3 y = some (cat cI e ++ zrP j2 .any) ∧ H3 xb = some (cat cI s ++ zrP jj .any)) ⟨by simp [upd, m1, zS m1, nbq, zS nbq, t1], by simp [upd, m2, zS m2], by simp [upd, m3, zS m3, n2, zS n2, t4], by simp [upd]⟩ fun H4 ⟨r1, r2, r4, r3⟩ => ?_)); refine zaas (id := 10) Γy32_ok mixed [(qb, [.sl xb 1 0 s.length cp, .sl y 1 0 e.length c2])] [] [] (by kernel_rfl) (by kernel_rfl) (by simp [-zgE, -zdO, ↓zaab, ↓zaaa, go_sem, r1, r2, hl, nbq, zS nbq, nbx, zS nbx, nby, zS nby, n1, zS n1, n2, zS n2, n3, zS n3, (show 0 ≤ qq by omega), (show qq ≤ 1000000 by omega), (show 0 ≤ qq + 1 by omega), (show qq + 1 ≤ 1000000 by omega), zaan (x := 80 + pkI ys qq 2) (by omega) (by omega)]) (by simp [-zgE, -zdO, ↓zaab, ↓zaaa, go_sem, r1, r2, hl, nbq, zS nbq, nbx, zS nbx, nby, zS nby, n1, zS n1, n2, zS n2, n3, zS n3, (show 0 ≤ qq by omega), (show qq ≤ 1000000 by omega), (show 0 ≤ qq + 1 by omega), (show qq + 1 ≤ 1000000 by omega), zaan (x := 80 + pkI ys qq 2) (by omega) (by omega)]) ?_; simp  [-zgE, -zdO, ↓zaab, ↓zaaa, go_sem, r1, r2, hl, nbq, zS nbq, nbx, zS nbx, nby, zS nby, n1, zS n1, n2, zS n2, n3, zS n3, (show 0 ≤ qq by omega), (show qq ≤ 1000000 by omega), (show 0 ≤ qq + 1 by omega), (show qq + 1 ≤ 1000000 by omega), zaan (x := 80 + pkI ys qq 2) (by omega) (by omega)]; try ((generalize pkI ys qq 2 = k2 at *); (refine AW_gen (fun H3 => H3 b = some [.list ys.length (cat cY ys), .int .i64 (qq + 1)] ∧ H3 qb = some [.sl xb 1 0 s.length cp, .sl y 1 0 e.length c2] ∧ H3 y = some (cat cI e ++ zrP j2 .any) ∧ H3 xb = some (cat cI s ++ zrP jj .any)) ⟨by simp [upd], by simp [upd, zS nbq, r2], by simp [upd, zS nby, r4], by simp [upd, m1, r3]⟩ fun H5 ⟨u1, u2, u4, u3⟩ => ?_))
    | refine zaac (id := 11) Γy32_ok [] (by kernel_rfl) ?_; simp  [-zgE, -zdO, ↓zaab, ↓zaaa, go_sem, u1, u2, u3, m2, zS m2, (show s.length ≤ 9223372036854775806 by omega), (show 2 * (s.length + 1) * 8 ≤ 281474976710656 by omega), (show cp ≤ s.length + jj by omega), (show s.length ≤ s.length + jj by omega), snoc_cI]
    | (first | (have z_ := hz0; (refine AW_unmatCell qb 0 (b' := x) (sz := 1) (m := a.length) (cp := c1) (all := [.sl x 1 0 a.length c1, .fr 1 0 []]) (cs := cat cI a ++ zrP j1 D.any) (by simp [upd, nbq, zS nbq, nbx, zS nbx, nby, zS nby, n1, zS n1, n2, zS n2, n3, zS n3, t2]) rfl n1 (by simp [upd, nbq, zS nbq, nbx, zS nbx, nby, zS nby, n1, zS n1, n2, zS n2, n3, zS n3, t3]) (by omega) (by simp [zaah]) (by simp [zaah]; omega) ?_); (simp only [Nat.mul_one, cat_take_app1])) | ((refine AW_unmatCell qb 0 (b' := x) (sz := 1) (m := a.length) (cp := c1) (all := [.sl x 1 0 a.length c1, .sl y 1 0 e8.length c2]) (cs := cat cI a ++ zrP j1 D.any) (by simp [upd, nbq, zS nbq, nbx, zS nbx, nby, zS nby, n1, zS n1, n2, zS n2, n3, zS n3, t2]) rfl n1 (by simp [upd, nbq, zS nbq, nbx, zS nbx, nby, zS nby, n1, zS n1, n2, zS n2, n3, zS n3, t3]) (by omega) (by simp [zaah]) (by simp [zaah]; omega) ?_); (simp only [Nat.mul_one, cat_take_app1]); (refine AW_unmatCell qb 1 (b' := y) (sz := 1) (m := e8.length) (cp := c2) (all := [.fr 1 a.length (cat cI a), .sl y 1 0 e8.length c2]) (cs := cat cI e8 ++ zrP j2 D.any) (by simp [upd, nbq, zS nbq, nbx, zS nbx, nby, zS nby, n1, zS n1, n2, zS n2, n3, zS n3, t2]) rfl n2 (by simp [upd, nbq, zS nbq, nbx, zS nbx, nby, zS nby, n1, zS n1, n2, zS n2, n3, zS n3, t4]) (by omega) (by simp [zaah]) (by simp [zaah]; omega) ?_); (simp only [Nat.mul_one, cat_take_app1])) | ((refine AW_unmatCell qb 1 (b' := y) (sz := 1) (m := e.length) (cp := c2) (all := [.fr 1 a8.length (cat cI a8), .sl y 1 0 e.length c2]) (cs := cat cI e ++ zrP j2 D.any) (by simp [upd, nbq, zS nbq, nbx, zS nbx, nby, zS nby, n1, zS n1, n2, zS n2, n3, zS n3, t2]) rfl n2 (by simp [upd, nbq, zS nbq, nbx, zS nbx, nby, zS nby, n1, zS n1, n2, zS n2, n3, zS n3, t4]) (by omega) (by simp [zaah]) (by simp [zaah]; omega) ?_); (simp only [Nat.mul_one, cat_take_app1])) | ((refine AW_unmatCell qb 0 (b' := xb) (sz := 1) (m := s.length) (cp := cp) (all := [.sl xb 1 0 s.length cp, .sl y 1 0 e.length c2]) (cs := cat cI s ++ zrP jj D.any) (by simp [upd, nbq, zS nbq, nbx, zS nbx, nby, zS nby, n1, zS n1, n2, zS n2, n3, zS n3, m1, zS m1, m2, zS m2, m3, zS m3, u2]) rfl (zS m2) (by simp [upd, nbq, zS nbq, nbx, zS nbx, nby, zS nby, n1, zS n1, n2, zS n2, n3, zS n3, m1, zS m1, m2, zS m2, m3, zS m3, u3]) (by omega) (by simp [zaah]) (by simp [zaah]; omega) ?_); (simp only [Nat.mul_one, cat_take_app1]); (refine AW_unmatCell qb 1 (b' := y) (sz := 1) (m := e.length) (cp := c2) (all := [.fr 1 s.length (cat cI s), .sl y 1 0 e.length c2]) (cs := cat cI e ++ zrP j2 D.any) (by simp [upd, nbq, zS nbq, nbx, zS nbx, nby, zS nby, n1, zS n1, n2, zS n2, n3, zS n3, m1, zS m1, m2, zS m2, m3, zS m3, u2]) rfl n2 (by simp [upd, nbq, zS nbq, nbx, zS nbx, nby, zS nby, n1, zS n1, n2, zS n2, n3, zS n3, m1, zS m1, m2, zS m2, m3, zS m3, u4]) (by omega) (by simp [zaah]) (by simp [zaah]; omega) ?_); (simp only [Nat.mul_one, cat_take_app1])) | ((refine AW_unmatCell qb 0 (b' := x) (sz := 1) (m := a.length) (cp := c1) (all := [.sl x 1 0 a.length c1, .sl y 1 0 e.length c2]) (cs := cat cI a ++ zrP j1 D.any) (by simp [upd, nbq, zS nbq, nbx, zS nbx, nby, zS nby, n1, zS n1, n2, zS n2, n3, zS n3, w2]) rfl n1 (by simp [upd, nbq, zS nbq, nbx, zS nbx, nby, zS nby, n1, zS n1, n2, zS n2, n3, zS n3, w3]) (by omega) (by simp [zaah]) (by simp [zaah]; omega) ?_); (simp only [Nat.mul_one, cat_take_app1]); (refine AW_unmatCell qb 1 (b' := y) (sz := 1) (m := e.length) (cp := c2) (all := [.fr 1 a.length (cat cI a), .sl y 1 0 e.length c2]) (cs := cat cI e ++ zrP j2 D.any) (by simp [upd, nbq, zS nbq, nbx, zS nbx, nby, zS nby, n1, zS n1, n2, zS n2, n3, zS n3, w2]) rfl n2 (by simp [upd, nbq, zS nbq, nbx, zS nbx, nby, zS nby, n1, zS n1, n2, zS n2, n3, zS n3, w4]) (by omega) (by simp [zaah]) (by simp [zaah]; omega) ?_); (simp only [Nat.mul_one, cat_take_app1]))); refine zaac (id := 12) Γy32_ok [] (by kernel_rfl) ?_; simp  [-zgE, -zdO, ↓zaab, ↓zaaa, go_sem, nbq, zS nbq, nbx, zS nbx, nby, zS nby, n1, zS n1, n2, zS n2, n3, zS n3]
    | refine zaad (c := .tmp 17) ?_; simp [-zgE, -zdO, ↓zaab, ↓zaaa, go_sem]; try first | (refine ⟨?_, ?_⟩ <;> change AW _ _ _ _ _ _) | (refine ⟨fun c17 => ?_, fun c17 => ?_⟩ <;> (try simp [B_iff, B_not] at c17))
    | refine zaad (c := .tmp 21) ?_; simp [-zgE, -zdO, ↓zaab, ↓zaaa, go_sem]; try first | (refine ⟨?_, ?_⟩ <;> change AW _ _ _ _ _ _) | (refine ⟨fun c21 => ?_, fun c21 => ?_⟩ <;> (try simp [B_iff, B_not] at c21))
    | refine zaad (c := .tmp 29) ?_; simp [-zgE, -zdO, ↓zaab, ↓zaaa, go_sem]; try first | (refine ⟨?_, ?_⟩ <;> change AW _ _ _ _ _ _) | (refine ⟨fun c29 => ?_, fun c29 => ?_⟩ <;> (try simp [B_iff, B_not] at c29))
    | refine zaad (c := .tmp 39) ?_; simp [-zgE, -zdO, ↓zaab, ↓zaaa, go_sem]; try first | (refine ⟨?_, ?_⟩ <;> change AW _ _ _ _ _ _) | (refine ⟨fun c39 => ?_, fun c39 => ?_⟩ <;> (try simp [B_iff, B_not] at c39); (first | (have h39 : kk = 3 := c39; (refine AW_unmatCell qb 0 (b' := x) (sz := 1) (m := a.length) (cp := c1) (all := [.sl x 1 0 a.length c1, .sl y 1 0 e.length c2]) (cs := cat cI a ++ zrP j1 D.any) (by simp [upd, nbq, zS nbq, nbx, zS nbx, nby, zS nby, n1, zS n1, n2, zS n2, n3, zS n3, w2]) rfl n1 (by simp [upd, nbq, zS nbq, nbx, zS nbx, nby, zS nby, n1, zS n1, n2, zS n2, n3, zS n3, w3]) (by omega) (by simp [zaah]) (by simp [zaah]; omega) ?_); (simp only [Nat.mul_one, cat_take_app1]); (refine AW_gen (fun H3 => H3 b = some [.list ys.length (cat cY ys), .int .i64 (p + 1)] ∧ H3 qb = some [.fr 1 a.length (cat cI a), .sl y 1 0 e.length c2] ∧ H3 y = some (cat cI e ++ zrP j2 .any)) ⟨by simp [upd, nbq, zS nbq, nbx, zS nbx, nby, zS nby, n1, zS n1, n2, zS n2, n3, zS n3, w1], by simp [upd, nbq, zS nbq, nbx, zS nbx, nby, zS nby, n1, zS n1, n2, zS n2, n3, zS n3], by simp [upd, nbq, zS nbq, nbx, zS nbx, nby, zS nby, n1, zS n1, n2, zS n2, n3, zS n3, w4]⟩ fun H3 ⟨v1, v2, v4⟩ => ?_)) | skip))
    | refine zaad (c := .tmp 47) ?_; simp [-zgE, -zdO, ↓zaab, ↓zaaa, go_sem]; try first | (refine ⟨?_, ?_⟩ <;> change AW _ _ _ _ _ _) | (refine ⟨fun c47 => ?_, fun c47 => ?_⟩ <;> (try simp [B_iff, B_not] at c47))
    | (refine zaag (id := 1) (AW_loop (ι := LZ) (fun r : LZ => ⟨(upd (upd (upd (fun _ => .any) 0 (.ptr b 0)) 4 (.box [.nil, .nil])) 5 (.ptr qb 0)), r.H⟩) (fun r => LZi b qb y ys e c2 j2 (p + 1) a.length r) (fun r => 300 - r.s.length) (⟨a, p + 1, H3⟩) ?_ ?_ ?_); exact ⟨by dsimp only; omega, Nat.le_refl _, by dsimp only; omega, by dsimp only; omega, v1, v2, v4⟩; ((repeat' (first | exact zaae (by assumption) | exact zaai | refine zaam ?_ ?_ | refine zaaf ?_)) <;> simp [-zgE, -zdO, ↓zaab, ↓zaaa, go_sem]); rintro r hr)
    | (refine ⟨⟨s ++ [1], qq + 1, upd (upd H5 xb none) qb (some [.fr 1 (s.length + 1) (cat cI (s ++ [1])), .sl y 1 0 e.length c2])⟩, ⟨by simp; omega, by simp; omega, by dsimp only; omega, by simp; omega, by simp [upd, nbq, zS nbq, m1, zS m1, u1], by simp [upd], by simp [upd, n2, zS n2, m3, zS m3, u4]⟩, by first | omega | (simp; done) | (simp; omega), ?_⟩; ((repeat' (first | exact zaae (by assumption) | exact zaai | refine zaam ?_ ?_ | refine zaaf ?_)) <;> simp [-zgE, -zdO, ↓zaab, ↓zaaa, go_sem]))
    | (refine zaag ?_)
    | (refine zaap ?_; simp [-zgE, -zdO, ↓zaab, ↓zaaa, go_sem])
    | (refine zaao ?_; simp [-zgE, -zdO, ↓zaab, ↓zaaa, go_sem])
    | (refine AW_ret ?_; try simp [-zgE, -zdO, ↓zaab, ↓zaaa, go_sem, Try.results132])
    | (intro hx; change AW _ _ _ _ _ _)
    | (intro hx; change retR _ _ _ _ _)
    | (refine ⟨?_, ?_⟩ <;> change AW _ _ _ _ _ _)
    | (intro hx; refine ⟨fun hs => ?_, fun hs => ?_⟩)
    | (refine ⟨fun hs => ?_, fun hs => ?_⟩)
    | (refine ⟨?_, fun hs => ?_⟩; change AW _ _ _ _ _ _)
    | (refine ⟨fun hs => ?_, ?_⟩; rotate_left; change AW _ _ _ _ _ _; rotate_left)))
  all_goals (first
    | (refine l6Mutate_ret _ _ _ _ _ ((a, [])) (p + 1) ?_ ?_ ?_ ?_; (first | exact Or.inl rfl | exact Or.inr rfl); (focus (simp [-zgE, -zdO, ↓zaab, ↓zaaa, go_sem, Try.results132, dat, datL_map, li, cat_flat2, cat_nil, t1, nbq, zS nbq, nbx, zS nbx, nby, zS nby, n1, zS n1, n2, zS n2, n3, zS n3]; done)); (focus ((exact ⟨by dsimp only; omega, by simp⟩); done)); (focus (refine ⟨?_, ?_⟩ <;> omega)))
    | (refine l6Mutate_ret _ _ _ _ _ ((a, e8)) (p + 1 + 1) ?_ ?_ ?_ ?_; (first | exact Or.inl rfl | exact Or.inr rfl); (focus (simp [-zgE, -zdO, ↓zaab, ↓zaaa, go_sem, Try.results132, dat, datL_map, li, cat_flat2, t1, nbq, zS nbq, nbx, zS nbx, nby, zS nby, n1, zS n1, n2, zS n2, n3, zS n3]; done)); (focus ((exact ⟨by dsimp only; omega, by dsimp only; omega⟩); done)); (focus (refine ⟨?_, ?_⟩ <;> omega)))
    | (refine l6Mutate_ret _ _ _ _ _ ((a8, e)) (p + 1 + 1) ?_ ?_ ?_ ?_; (first | exact Or.inl rfl | exact Or.inr rfl); (focus (simp [-zgE, -zdO, ↓zaab, ↓zaaa, go_sem, Try.results132, dat, datL_map, li, cat_flat2, t1, nbq, zS nbq, nbx, zS nbx, nby, zS nby, n1, zS n1, n2, zS n2, n3, zS n3]; done)); (focus ((exact ⟨by dsimp only; omega, by dsimp only; omega⟩); done)); (focus (refine ⟨?_, ?_⟩ <;> omega)))
    | (refine l6Mutate_ret _ _ _ _ _ ((s, e)) (qq + 1) ?_ ?_ ?_ ?_; (first | exact Or.inl rfl | exact Or.inr rfl); (focus (simp [-zgE, -zdO, ↓zaab, ↓zaaa, go_sem, Try.results132, dat, datL_map, li, cat_flat2, u1, nbq, zS nbq, nbx, zS nbx, nby, zS nby, n1, zS n1, n2, zS n2, n3, zS n3, m1, zS m1]; done)); (focus ((exact ⟨by dsimp only; omega, by dsimp only; omega⟩); done)); (focus (refine ⟨?_, ?_⟩ <;> omega)))
    | (refine l6Mutate_ret _ _ _ _ _ ((a, e)) (p + 1) ?_ ?_ ?_ ?_; (first | exact Or.inl rfl | exact Or.inr rfl); (focus (simp [-zgE, -zdO, ↓zaab, ↓zaaa, go_sem, Try.results132, dat, datL_map, li, cat_flat2, w1, nbq, zS nbq, nbx, zS nbx, nby, zS nby, n1, zS n1, n2, zS n2, n3, zS n3]; done)); (focus ((exact ⟨by dsimp only; omega, by dsimp only; omega⟩); done)); (focus (refine ⟨?_, ?_⟩ <;> omega)))
    | skip)
noncomputable def l6MutateC : Con := .rel fun args H => match args with
  | [.ptr b 0, .st [.list n_a c_a, .list n_e c_e]] => match H b with
    | some [.list m cs, .int .i64 p] => ((Is cY m cs) ∧ (m ≤ 2000) ∧ (0 ≤ p) ∧ (p + 210 ≤ 1000000) ∧ (Is cI n_a c_a) ∧ (Is cI n_e c_e) ∧ ((de cI c_a).length ≤ 100 ∧ 1 ≤ (de cI c_e).length ∧ (de cI c_e).length ≤ 100), fun c => (l6Mutate_enc (l6Mutate_sel (de cI c_a) (de cI c_e) p c).1, upd H b (some [.list m cs, .int .i64 (l6Mutate_sel (de cI c_a) (de cI c_e) p c).2])))
    | _ => (False, fun _ => (.any, H))
  | _ => (False, fun _ => (.any, H))
attribute [go_sem] l6MutateC
theorem l6MutateC_ok : ConOk Try.prog 132 l6MutateC := by
  refine ⟨zaal Try.func132 (by decide) rfl, fun args H h => ?_⟩
  revert h
  dsimp only
  split
  · split
    · rename_i hH
      intro h
      obtain ⟨⟨ys, rfl, rfl⟩, hl, h0_, hp_, ⟨a, rfl, rfl⟩, ⟨e, rfl, rfl⟩, hS⟩ := h
      try simp only [de_cat] at *
      exact SpecR.enc ((l6Mutate_spec ys _ _ a e hl h0_ hp_ hS).frame hH).shut fun c => Prod.ext (l6Mutate_okD _ _ hS _ _).2.symm rfl
    · intro h; exact h.elim
  · intro h
    exact h.elim
noncomputable def Γy33 : FuncId → Con := ext Γy32 132 l6MutateC
attribute [go_sem] Γy33
theorem Γy33_ok : ∀ g, ConOk Try.prog g (Γy33 g) := zaaw Γy32_ok l6MutateC_ok


noncomputable def DrawAccepts_enc : Au × Ints2 → D := fun x => .tup [sA x.1, sPz x.2]
attribute [go_sem] DrawAccepts_enc
theorem DrawAccepts_flat (x : Au × Ints2) : dat (DrawAccepts_enc x) = DrawAccepts_enc x := by simp [go_sem]
def DrawAccepts_good (xs : List UInt8) : Au × Ints2 → Prop := fun x => AuM x.1 ∧ x.2.1.length ≤ 300 ∧ x.2.2.length ≤ 300
def DrawAccepts_gd (xs : List UInt8) (x : (Au × Ints2) × D) : Prop := DrawAccepts_good xs x.1 ∧ dat x.2 = DrawAccepts_enc x.1
noncomputable def DrawAccepts_selD (xs : List UInt8) (c : Any) : (Au × Ints2) × D := sel (DrawAccepts_gd xs) (((([], [], []), ([], [])) : Au × Ints2), DrawAccepts_enc ((([], [], []), ([], [])))) c
noncomputable def DrawAccepts_sel (xs : List UInt8) (c : Any) : Au × Ints2 := (DrawAccepts_selD xs c).1
theorem DrawAccepts_okD (xs : List UInt8)  (c : Any) : DrawAccepts_gd xs (DrawAccepts_selD xs c) := by
  have hx : DrawAccepts_good xs ((([], [], []), ([], []))) := ⟨AuM.nil, by simp, by simp⟩
  exact sel_ok (p := DrawAccepts_gd xs) (x0 := (((([], [], []), ([], [])) : Au × Ints2), DrawAccepts_enc ((([], [], []), ([], []))))) ⟨hx, DrawAccepts_flat _⟩ c
theorem DrawAccepts_ok (xs : List UInt8)  (c : Any) : DrawAccepts_good xs (DrawAccepts_sel xs c) := (DrawAccepts_okD xs  c).1
theorem DrawAccepts_ret (xs : List UInt8) {e_ : Exit} {S_ : St} (x : Au × Ints2) (he_ : e_ = .ret ∨ e_ = .normal)
    (h1 : (zaaj Try.prog S_ Try.f46.results.toList).1 ∧ dat (resD (zaaj Try.prog S_ Try.f46.results.toList).2.1) = DrawAccepts_enc x) (hg : DrawAccepts_good xs x) :
    retR Try.prog Try.f46 (fun c => ((DrawAccepts_selD xs c).2, fun _ => none)) e_ S_ :=
  ret_prel (good := DrawAccepts_gd xs) (enc := fun x : (Au × Ints2) × D => x.2) (x, resD (zaaj Try.prog S_ Try.f46.results.toList).2.1) he_ ⟨h1.1, rfl⟩ ⟨hg, h1.2⟩
set_option maxHeartbeats 8000000 in
theorem DrawAccepts_pure (xs : List UInt8)  : SpecR Try.prog 46 [li cY xs] (fun _ => none) (fun c => ((DrawAccepts_selD xs c).2, fun _ => none)) := by
  refine SpecR.of_walk Try.func46 rfl (by simp [Try.f46]) fun B => ?_
  have hl := cut_len xs
  all_goals (repeat' (first
    | refine AW_seq ?_
    | refine zaac (id := 0) Γy33_ok [] (by kernel_rfl) ?_; simp  [-zgE, -zdO, ↓zaab, ↓zaaa, go_sem]
    | refine zaac (id := 1) Γy33_ok [] (by kernel_rfl) ?_; simp  [-zgE, -zdO, ↓zaab, ↓zaaa, go_sem]; try (refine AW_matBox 4 rfl fun b hb => ?_; clear hb)
    | ((have u2 : ∀ c, AuS (zaak 0 c).1 ∧ 0 ≤ (zaak 0 c).2 ∧ (zaak 0 c).2 ≤ 300 := (fun c => by have h := l7Automaton_ok 0 c; exact ⟨h.1, by omega, by omega⟩)); (have u3 : ∀ c, AuS ((zaak 0 c).1.1, (zaak 0 c).1.2.1, (zaak 0 c).1.2.2) ∧ 0 ≤ (zaak 0 c).2 ∧ (zaak 0 c).2 + 3 ≤ 1000000 := (fun c => ⟨(u2 c).1, (u2 c).2.1, by have := (u2 c).2.2; omega⟩))); refine zaac (id := 2) Γy33_ok [] (by kernel_rfl) ?_; simp  [-zgE, -zdO, ↓zaab, ↓zaaa, go_sem, hl, u3]; try ((intro c2 c2'); (have h2 := u2 c2); (generalize (zaak 0 c2) = z at *); (obtain ⟨⟨za, zb, zc⟩, pz⟩ := z); (obtain ⟨h2, h2a, h2b⟩ := h2); (dsimp only at h2 h2a h2b ⊢); (have h3 := l7Mutate_ok za zb zc h2 pz c2'); (generalize l7Mutate_sel za zb zc pz c2' = w at *); (obtain ⟨⟨wa, wb, wc⟩, pw⟩ := w); (have h4 : AuM (wa, wb, wc) := h3.1); (have h5 := h3.2); (dsimp only at h5 ⊢); (clear h3 u2 u3); (refine AW_shut 5 ?_); (simp [go_sem, dat, datL_map]))
    | ((have u5 : ∀ c, ((l6Lasso_sel pw c).1.1.length ≤ 5 ∧ 1 ≤ (l6Lasso_sel pw c).1.2.length ∧ (l6Lasso_sel pw c).1.2.length ≤ 8) ∧ pw ≤ (l6Lasso_sel pw c).2 ∧ (l6Lasso_sel pw c).2 ≤ pw + 210 := (fun c => l6Lasso_ok pw c)); (have u6 : ∀ c, (l6Lasso_sel pw c).1.1.length ≤ 100 ∧ 1 ≤ (l6Lasso_sel pw c).1.2.length ∧ (l6Lasso_sel pw c).1.2.length ≤ 100 ∧ 0 ≤ (l6Lasso_sel pw c).2 ∧ (l6Lasso_sel pw c).2 + 210 ≤ 1000000 := (fun c => by have h := u5 c; omega))); refine zaas (id := 3) Γy33_ok mixed [] [] [4] (by kernel_rfl) (by kernel_rfl) (by simp [-zgE, -zdO, ↓zaab, ↓zaaa, go_sem, hl, (show 0 ≤ pw by omega), (show pw + 210 ≤ 1000000 by omega), u6]) (by simp [-zgE, -zdO, ↓zaab, ↓zaaa, go_sem, hl, (show 0 ≤ pw by omega), (show pw + 210 ≤ 1000000 by omega), u6]) ?_; simp  [-zgE, -zdO, ↓zaab, ↓zaaa, go_sem, hl, (show 0 ≤ pw by omega), (show pw + 210 ≤ 1000000 by omega), u6]; try ((intro c3 c3'); (have h6 := u6 c3); (generalize (l6Lasso_sel pw c3) = v at *); (obtain ⟨⟨va, vb⟩, pv⟩ := v); (dsimp only at h6 ⊢); (have h7 := l6Mutate_ok va vb ⟨by omega, by omega, by omega⟩ pv c3'); (generalize l6Mutate_sel va vb pv c3' = v2 at *); (obtain ⟨⟨vc, vd⟩, pv2⟩ := v2); (have h8 : vc.length ≤ 300 ∧ vd.length ≤ 300 := h7.1))
    | (refine zaag ?_)
    | (refine zaap ?_; simp [-zgE, -zdO, ↓zaab, ↓zaaa, go_sem])
    | (refine zaao ?_; simp [-zgE, -zdO, ↓zaab, ↓zaaa, go_sem])
    | (refine AW_ret ?_; try simp [-zgE, -zdO, ↓zaab, ↓zaaa, go_sem, Try.results46])
    | (intro hx; change AW _ _ _ _ _ _)
    | (intro hx; change retR _ _ _ _ _)
    | (refine ⟨?_, ?_⟩ <;> change AW _ _ _ _ _ _)
    | (intro hx; refine ⟨fun hs => ?_, fun hs => ?_⟩)
    | (refine ⟨fun hs => ?_, fun hs => ?_⟩)
    | (refine ⟨?_, fun hs => ?_⟩; change AW _ _ _ _ _ _)
    | (refine ⟨fun hs => ?_, ?_⟩; rotate_left; change AW _ _ _ _ _ _; rotate_left)))
  all_goals (first
    | (refine DrawAccepts_ret _ (((wa, wb, wc), (vc, vd))) ?_ ?_ ?_; (first | exact Or.inl rfl | exact Or.inr rfl); (focus (simp [-zgE, -zdO, ↓zaab, ↓zaaa, go_sem, Try.results46, dat, datL_map, li]; done)); (focus ((exact ⟨h4, h8.1, h8.2⟩); done)))
    | skip)
noncomputable def DrawAcceptsC : Con := .rel fun args H => match args with
  | [.list n_xs c_xs] => ((Is cY n_xs c_xs), fun c => (DrawAccepts_enc (DrawAccepts_sel (de cY c_xs) c), H))
  | _ => (False, fun _ => (.any, H))
attribute [go_sem] DrawAcceptsC
theorem DrawAcceptsC_ok : ConOk Try.prog 46 DrawAcceptsC := by
  refine ⟨zaal Try.func46 (by decide) rfl, fun args H h => ?_⟩
  revert h
  dsimp only
  split
  · intro h
    obtain ⟨xs, rfl, rfl⟩ := h
    try simp only [de_cat] at *
    exact SpecR.enc ((SpecR.frame0 (DrawAccepts_pure xs ) (H := H)).shut) fun c => Prod.ext (DrawAccepts_okD _  c).2.symm rfl
  · intro h
    exact h.elim
noncomputable def Γy34 : FuncId → Con := ext Γy33 46 DrawAcceptsC
attribute [go_sem] Γy34
theorem Γy34_ok : ∀ g, ConOk Try.prog g (Γy34 g) := zaaw Γy33_ok DrawAcceptsC_ok

noncomputable def DrawIntersectAutomata_enc : Au × Au → D := fun x => .tup [sA x.1, sA x.2]
attribute [go_sem] DrawIntersectAutomata_enc
theorem DrawIntersectAutomata_flat (x : Au × Au) : dat (DrawIntersectAutomata_enc x) = DrawIntersectAutomata_enc x := by simp [go_sem]
def DrawIntersectAutomata_good (xs : List UInt8) : Au × Au → Prop := fun x => AuM x.1 ∧ AuM x.2
def DrawIntersectAutomata_gd (xs : List UInt8) (x : (Au × Au) × D) : Prop := DrawIntersectAutomata_good xs x.1 ∧ dat x.2 = DrawIntersectAutomata_enc x.1
noncomputable def DrawIntersectAutomata_selD (xs : List UInt8) (c : Any) : (Au × Au) × D := sel (DrawIntersectAutomata_gd xs) (((([], [], []), ([], [], [])) : Au × Au), DrawIntersectAutomata_enc ((([], [], []), ([], [], [])))) c
noncomputable def DrawIntersectAutomata_sel (xs : List UInt8) (c : Any) : Au × Au := (DrawIntersectAutomata_selD xs c).1
theorem DrawIntersectAutomata_okD (xs : List UInt8)  (c : Any) : DrawIntersectAutomata_gd xs (DrawIntersectAutomata_selD xs c) := by
  have hx : DrawIntersectAutomata_good xs ((([], [], []), ([], [], []))) := ⟨AuM.nil, AuM.nil⟩
  exact sel_ok (p := DrawIntersectAutomata_gd xs) (x0 := (((([], [], []), ([], [], [])) : Au × Au), DrawIntersectAutomata_enc ((([], [], []), ([], [], []))))) ⟨hx, DrawIntersectAutomata_flat _⟩ c
theorem DrawIntersectAutomata_ok (xs : List UInt8)  (c : Any) : DrawIntersectAutomata_good xs (DrawIntersectAutomata_sel xs c) := (DrawIntersectAutomata_okD xs  c).1
theorem DrawIntersectAutomata_ret (xs : List UInt8) {e_ : Exit} {S_ : St} (x : Au × Au) (he_ : e_ = .ret ∨ e_ = .normal)
    (h1 : (zaaj Try.prog S_ Try.f61.results.toList).1 ∧ dat (resD (zaaj Try.prog S_ Try.f61.results.toList).2.1) = DrawIntersectAutomata_enc x) (hg : DrawIntersectAutomata_good xs x) :
    retR Try.prog Try.f61 (fun c => ((DrawIntersectAutomata_selD xs c).2, fun _ => none)) e_ S_ :=
  ret_prel (good := DrawIntersectAutomata_gd xs) (enc := fun x : (Au × Au) × D => x.2) (x, resD (zaaj Try.prog S_ Try.f61.results.toList).2.1) he_ ⟨h1.1, rfl⟩ ⟨hg, h1.2⟩
set_option maxHeartbeats 8000000 in
theorem DrawIntersectAutomata_pure (xs : List UInt8)  : SpecR Try.prog 61 [li cY xs] (fun _ => none) (fun c => ((DrawIntersectAutomata_selD xs c).2, fun _ => none)) := by
  refine SpecR.of_walk Try.func61 rfl (by simp [Try.f61]) fun B => ?_
  have hl := cut_len xs
  all_goals (repeat' (first
    | refine AW_seq ?_
    | refine zaac (id := 0) Γy34_ok [] (by kernel_rfl) ?_; simp  [-zgE, -zdO, ↓zaab, ↓zaaa, go_sem]
    | refine zaac (id := 1) Γy34_ok [] (by kernel_rfl) ?_; simp  [-zgE, -zdO, ↓zaab, ↓zaaa, go_sem]; try (refine AW_matBox 4 rfl fun b hb => ?_; clear hb)
    | ((have u2 : ∀ c, AuS (zaak 0 c).1 ∧ 0 ≤ (zaak 0 c).2 ∧ (zaak 0 c).2 ≤ 300 := (fun c => by have h := l7Automaton_ok 0 c; exact ⟨h.1, by omega, by omega⟩)); (have u3 : ∀ c, AuS ((zaak 0 c).1.1, (zaak 0 c).1.2.1, (zaak 0 c).1.2.2) ∧ 0 ≤ (zaak 0 c).2 ∧ (zaak 0 c).2 + 3 ≤ 1000000 := (fun c => ⟨(u2 c).1, (u2 c).2.1, by have := (u2 c).2.2; omega⟩))); refine zaac (id := 2) Γy34_ok [] (by kernel_rfl) ?_; simp  [-zgE, -zdO, ↓zaab, ↓zaaa, go_sem, hl, u3]; try ((intro c2 c2'); (have h2 := u2 c2); (generalize (zaak 0 c2) = z at *); (obtain ⟨⟨za, zb, zc⟩, pz⟩ := z); (obtain ⟨h2, h2a, h2b⟩ := h2); (dsimp only at h2 h2a h2b ⊢); (have h3 := l7Mutate_ok za zb zc h2 pz c2'); (generalize l7Mutate_sel za zb zc pz c2' = w at *); (obtain ⟨⟨wa, wb, wc⟩, pw⟩ := w); (have h4 : AuM (wa, wb, wc) := h3.1); (have h5 := h3.2); (dsimp only at h5 ⊢); (clear h3 u2 u3); (refine AW_shut 5 ?_); (simp [go_sem, dat, datL_map]))
    | ((have u2 : ∀ c, AuS (zaak pw c).1 ∧ 0 ≤ (zaak pw c).2 ∧ (zaak pw c).2 ≤ 700 := (fun c => by have h := l7Automaton_ok pw c; exact ⟨h.1, by omega, by omega⟩)); (have u3 : ∀ c, AuS ((zaak pw c).1.1, (zaak pw c).1.2.1, (zaak pw c).1.2.2) ∧ 0 ≤ (zaak pw c).2 ∧ (zaak pw c).2 + 3 ≤ 1000000 := (fun c => ⟨(u2 c).1, (u2 c).2.1, by have := (u2 c).2.2; omega⟩))); refine zaas (id := 3) Γy34_ok mixed [] [] [4] (by kernel_rfl) (by kernel_rfl) (by simp [-zgE, -zdO, ↓zaab, ↓zaaa, go_sem, hl, (show 0 ≤ pw by omega), (show pw + 300 ≤ 1000000 by omega), u3]) (by simp [-zgE, -zdO, ↓zaab, ↓zaaa, go_sem, hl, (show 0 ≤ pw by omega), (show pw + 300 ≤ 1000000 by omega), u3]) ?_; simp  [-zgE, -zdO, ↓zaab, ↓zaaa, go_sem, hl, (show 0 ≤ pw by omega), (show pw + 300 ≤ 1000000 by omega), u3]; try ((intro c3 c3'); (have h6 := (u2 c3).1); (generalize (zaak pw c3) = v at *); (obtain ⟨⟨va, vb, vc⟩, pv⟩ := v); (dsimp only at h6 ⊢); (have h7 := l7Mutate_ok va vb vc h6 pv c3'); (generalize l7Mutate_sel va vb vc pv c3' = v2 at *); (obtain ⟨⟨xa, xb, xc⟩, pv2⟩ := v2); (have h8 : AuM (xa, xb, xc) := h7.1))
    | (refine zaag ?_)
    | (refine zaap ?_; simp [-zgE, -zdO, ↓zaab, ↓zaaa, go_sem])
    | (refine zaao ?_; simp [-zgE, -zdO, ↓zaab, ↓zaaa, go_sem])
    | (refine AW_ret ?_; try simp [-zgE, -zdO, ↓zaab, ↓zaaa, go_sem, Try.results61])
    | (intro hx; change AW _ _ _ _ _ _)
    | (intro hx; change retR _ _ _ _ _)
    | (refine ⟨?_, ?_⟩ <;> change AW _ _ _ _ _ _)
    | (intro hx; refine ⟨fun hs => ?_, fun hs => ?_⟩)
    | (refine ⟨fun hs => ?_, fun hs => ?_⟩)
    | (refine ⟨?_, fun hs => ?_⟩; change AW _ _ _ _ _ _)
    | (refine ⟨fun hs => ?_, ?_⟩; rotate_left; change AW _ _ _ _ _ _; rotate_left)))
  all_goals (first
    | (refine DrawIntersectAutomata_ret _ (((wa, wb, wc), (xa, xb, xc))) ?_ ?_ ?_; (first | exact Or.inl rfl | exact Or.inr rfl); (focus (simp [-zgE, -zdO, ↓zaab, ↓zaaa, go_sem, Try.results61, dat, datL_map, li]; done)); (focus ((exact ⟨h4, h8⟩); done)))
    | skip)
noncomputable def DrawIntersectAutomataC : Con := .rel fun args H => match args with
  | [.list n_xs c_xs] => ((Is cY n_xs c_xs), fun c => (DrawIntersectAutomata_enc (DrawIntersectAutomata_sel (de cY c_xs) c), H))
  | _ => (False, fun _ => (.any, H))
attribute [go_sem] DrawIntersectAutomataC
theorem DrawIntersectAutomataC_ok : ConOk Try.prog 61 DrawIntersectAutomataC := by
  refine ⟨zaal Try.func61 (by decide) rfl, fun args H h => ?_⟩
  revert h
  dsimp only
  split
  · intro h
    obtain ⟨xs, rfl, rfl⟩ := h
    try simp only [de_cat] at *
    exact SpecR.enc ((SpecR.frame0 (DrawIntersectAutomata_pure xs ) (H := H)).shut) fun c => Prod.ext (DrawIntersectAutomata_okD _  c).2.symm rfl
  · intro h
    exact h.elim
noncomputable def Γy35 : FuncId → Con := ext Γy34 61 DrawIntersectAutomataC
attribute [go_sem] Γy35
theorem Γy35_ok : ∀ g, ConOk Try.prog g (Γy35 g) := zaaw Γy34_ok DrawIntersectAutomataC_ok

noncomputable def DrawUniteAutomata_enc : Au × Au → D := fun x => .tup [sA x.1, sA x.2]
attribute [go_sem] DrawUniteAutomata_enc
theorem DrawUniteAutomata_flat (x : Au × Au) : dat (DrawUniteAutomata_enc x) = DrawUniteAutomata_enc x := by simp [go_sem]
def DrawUniteAutomata_good (xs : List UInt8) : Au × Au → Prop := fun x => AuM x.1 ∧ AuM x.2
def DrawUniteAutomata_gd (xs : List UInt8) (x : (Au × Au) × D) : Prop := DrawUniteAutomata_good xs x.1 ∧ dat x.2 = DrawUniteAutomata_enc x.1
noncomputable def DrawUniteAutomata_selD (xs : List UInt8) (c : Any) : (Au × Au) × D := sel (DrawUniteAutomata_gd xs) (((([], [], []), ([], [], [])) : Au × Au), DrawUniteAutomata_enc ((([], [], []), ([], [], [])))) c
noncomputable def DrawUniteAutomata_sel (xs : List UInt8) (c : Any) : Au × Au := (DrawUniteAutomata_selD xs c).1
theorem DrawUniteAutomata_okD (xs : List UInt8)  (c : Any) : DrawUniteAutomata_gd xs (DrawUniteAutomata_selD xs c) := by
  have hx : DrawUniteAutomata_good xs ((([], [], []), ([], [], []))) := ⟨AuM.nil, AuM.nil⟩
  exact sel_ok (p := DrawUniteAutomata_gd xs) (x0 := (((([], [], []), ([], [], [])) : Au × Au), DrawUniteAutomata_enc ((([], [], []), ([], [], []))))) ⟨hx, DrawUniteAutomata_flat _⟩ c
theorem DrawUniteAutomata_ok (xs : List UInt8)  (c : Any) : DrawUniteAutomata_good xs (DrawUniteAutomata_sel xs c) := (DrawUniteAutomata_okD xs  c).1
theorem DrawUniteAutomata_ret (xs : List UInt8) {e_ : Exit} {S_ : St} (x : Au × Au) (he_ : e_ = .ret ∨ e_ = .normal)
    (h1 : (zaaj Try.prog S_ Try.f45.results.toList).1 ∧ dat (resD (zaaj Try.prog S_ Try.f45.results.toList).2.1) = DrawUniteAutomata_enc x) (hg : DrawUniteAutomata_good xs x) :
    retR Try.prog Try.f45 (fun c => ((DrawUniteAutomata_selD xs c).2, fun _ => none)) e_ S_ :=
  ret_prel (good := DrawUniteAutomata_gd xs) (enc := fun x : (Au × Au) × D => x.2) (x, resD (zaaj Try.prog S_ Try.f45.results.toList).2.1) he_ ⟨h1.1, rfl⟩ ⟨hg, h1.2⟩
set_option maxHeartbeats 8000000 in
theorem DrawUniteAutomata_pure (xs : List UInt8)  : SpecR Try.prog 45 [li cY xs] (fun _ => none) (fun c => ((DrawUniteAutomata_selD xs c).2, fun _ => none)) := by
  refine SpecR.of_walk Try.func45 rfl (by simp [Try.f45]) fun B => ?_
  (repeat' (first
    | refine AW_seq ?_
    | refine zaac (id := 0) Γy35_ok [] (by kernel_rfl) ?_; simp  [-zgE, -zdO, ↓zaab, ↓zaaa, go_sem]
    | refine zaac (id := 1) Γy35_ok [] (by kernel_rfl) ?_; simp  [-zgE, -zdO, ↓zaab, ↓zaaa, go_sem]; try ((intro c2); (have h2 : AuM (DrawIntersectAutomata_sel xs c2).1 ∧ AuM (DrawIntersectAutomata_sel xs c2).2 := DrawIntersectAutomata_ok xs c2); (generalize (DrawIntersectAutomata_sel xs c2) = z at *))
    | (refine zaag ?_)
    | (refine zaap ?_; simp [-zgE, -zdO, ↓zaab, ↓zaaa, go_sem])
    | (refine zaao ?_; simp [-zgE, -zdO, ↓zaab, ↓zaaa, go_sem])
    | (refine AW_ret ?_; try simp [-zgE, -zdO, ↓zaab, ↓zaaa, go_sem, Try.results45])
    | (intro hx; change AW _ _ _ _ _ _)
    | (intro hx; change retR _ _ _ _ _)
    | (refine ⟨?_, ?_⟩ <;> change AW _ _ _ _ _ _)
    | (intro hx; refine ⟨fun hs => ?_, fun hs => ?_⟩)
    | (refine ⟨fun hs => ?_, fun hs => ?_⟩)
    | (refine ⟨?_, fun hs => ?_⟩; change AW _ _ _ _ _ _)
    | (refine ⟨fun hs => ?_, ?_⟩; rotate_left; change AW _ _ _ _ _ _; rotate_left)))
  all_goals (first
    | (refine DrawUniteAutomata_ret _ (z) ?_ ?_ ?_; (first | exact Or.inl rfl | exact Or.inr rfl); (focus (simp [-zgE, -zdO, ↓zaab, ↓zaaa, go_sem, Try.results45, dat, datL_map, li]; done)); (focus ((exact h2); done)))
    | skip)
noncomputable def DrawUniteAutomataC : Con := .rel fun args H => match args with
  | [.list n_xs c_xs] => ((Is cY n_xs c_xs), fun c => (DrawUniteAutomata_enc (DrawUniteAutomata_sel (de cY c_xs) c), H))
  | _ => (False, fun _ => (.any, H))
attribute [go_sem] DrawUniteAutomataC
theorem DrawUniteAutomataC_ok : ConOk Try.prog 45 DrawUniteAutomataC := by
  refine ⟨zaal Try.func45 (by decide) rfl, fun args H h => ?_⟩
  revert h
  dsimp only
  split
  · intro h
    obtain ⟨xs, rfl, rfl⟩ := h
    try simp only [de_cat] at *
    exact SpecR.enc ((SpecR.frame0 (DrawUniteAutomata_pure xs ) (H := H)).shut) fun c => Prod.ext (DrawUniteAutomata_okD _  c).2.symm rfl
  · intro h
    exact h.elim
end Go.Proofs.Ytkjimmkemnmajaa.Vm

