/-
  Draws: edges, systems. No conditions.
-/
import Derived.Test.YtljncoikoffijaaE9
namespace Go.Proofs.Ytljncoikoffijaa.Vm
open Go
set_option linter.unusedVariables false
set_option linter.unusedSimpArgs false
set_option maxRecDepth 200000

section
variable {P : Program} {B : Base} {n : Nat} {S : St} {a : Act} {w : World} {μ : Nat → Nat} {fp : Root → List Nat} {N : Nat}
/-- What the bag holds becomes data. -/
theorem R.shutBag {d : D} {v : Value} (hR : R B n S [d] [v] a w μ fp N) : R B n S [dat d] [v] a w μ (fset fp .bag []) N := by
  have hm : Moves fp (fset fp .bag []) := .drop hR.nod hR.dis fun r => by
    by_cases e : r = .bag
    · subst e; exact .inr (fset_eq ..)
    · exact .inl (fset_ne e)
  refine ⟨hR.len, hR.dfs, hR.frm, hR.jk, hR.own' hm, hm.nod, hm.dis, fun t' => ?_, ?_, ?_, ?_, hR.bT, ?_, hR.bH, hR.rn⟩
  · rw [fset_ne (by simp)]
    exact (hR.tm t').sub hm.sub
  · rw [fset_eq]
    have hb1 := hR.bg
    simp only [RepL] at hb1 ⊢
    obtain ⟨v', vs', f1, f2, e1, e2, r1, r2⟩ := hb1
    obtain ⟨rfl, rfl⟩ : v' = v ∧ vs' = [] := by simpa using e1.symm
    have e3 : fp .bag = f1 := by rw [e2, r2.2, List.append_nil]
    refine ⟨v', [], [], [], rfl, rfl, Rep.dat (I := Im B w fp) (fun b hb => hb.sub hm.sub) (fun b hb => ?_) r1, rfl, rfl⟩
    rw [← e3] at hb
    have ho := hR.own _ b hb
    refine ⟨ho.2, ?_, fun r hr => ?_⟩
    · rcases ho.1 with q | q
      · exact .inl (.inr q)
      · exact .inr q
    · by_cases e : r = .bag
      · subst e; rw [fset_eq] at hr; cases hr
      · rw [fset_ne e] at hr; exact e (hR.dis _ _ b hr hb)
  · intro b cs hc; exact (hR.hp b cs hc).sub hm.sub (by simp [fset]) (by simp [fset])
  · intro b hb; have := hR.hn b hb; simp [fset, this]
  · have := hR.bB
    simp only [bndL] at this ⊢
    exact ⟨bnd_dat this.1, trivial⟩
/-- A named block's cell becomes data. -/
theorem AW_shutCell (b i : Nat) {c : Code} {Q : Exit → St → Prop} {all : List D} {d : D} (hH : S.H b = some all) (hi : all[i]? = some d)
    (h : AW P B n c Q ⟨S.T, upd S.H b (some (all.set i (dat d)))⟩) : AW P B n c Q S := fun a w μ fp N hR => by
  have hil : i < all.length := by rcases Nat.lt_or_ge i all.length with q | q; exact q; rw [List.getElem?_eq_none q] at hi; cases hi
  obtain ⟨v, fp1, hw, hone, h1⟩ := hR.cellOut hH hi
  obtain ⟨fp3, h3⟩ := h1.shutBag.cellIn (b := b) (i := i) (cs := all.set i .any) (by dsimp only; rw [upd_eq]) (by simpa using hil) hone hw
  refine h a w μ fp3 N ?_
  have e : upd (upd S.H b (some (all.set i .any))) b (some ((all.set i .any).set i (dat d))) = upd S.H b (some (all.set i (dat d))) := by
    funext x
    by_cases e2 : x = b
    · subst e2; rw [upd_eq, upd_eq, List.set_set]
    · rw [upd_ne e2, upd_ne e2, upd_ne e2]
  dsimp only at h3
  rw [e] at h3
  exact h3
theorem AW_boxNil1N {c : Code} {Q : Exit → St → Prop} (t sz : Nat) {d : D} (hT : S.T t = .box [d, .nil]) (h : AW P B n c Q ⟨upd S.T t (.box [d, .fr sz 0 []]), S.H⟩) : AW P B n c Q S :=
  AW_rebox t hT (fun μ I w vs f hr => by
    simp only [RepL] at hr ⊢
    obtain ⟨v, vs', f1, f2, e1, e2, r1, v2, vs2, g1, g2, e3, e4, r2, r3⟩ := hr
    exact ⟨v, vs', f1, f2, e1, e2, r1, v2, vs2, g1, g2, e3, e4, rep_nilfrN r2, r3⟩) (fun N hb => by simp only [bndL, bnd] at hb ⊢; exact ⟨hb.1, trivial, trivial⟩) h
end
/-- An edge, as a struct. -/
def sE (x : Ed) : D := .st [.int .i64 x.fr, .int .i64 x.to, .int .i64 x.g.k, .int .i64 x.g.v, li cX x.g.ks, .int .i64 x.v, .int .i64 x.e.k, .int .i64 x.e.v, li cX x.e.ks, .int .i64 x.sy]
attribute [go_sem] sE
@[go_sem] theorem makeD_10 (x : D) : makeD [x] 1 = [x] := by rw [makeD_one]; rfl

theorem dat_nilX : dat D.nil = li cX ([] : List Tree) := by simp [dat, li, cat]
theorem dat_liX (es : List Tree) : dat (.list es.length (cat cX es)) = li cX es := by simp [dat, li]
theorem dat_twoX (a b c d : Int) : dat (.fr 3 2 [.int .i64 a, .int .i64 b, .list 0 [], .int .i64 c, .int .i64 d, .list 0 []]) = li cX [.mk a b [], .mk c d []] := by
  simp [dat, datL, li, cat_cons, cX_mk, cat]
noncomputable def l2DrawEdge_enc : Ed → D := sE
attribute [go_sem] l2DrawEdge_enc
theorem l2DrawEdge_flat (x : Ed) : dat (l2DrawEdge_enc x) = l2DrawEdge_enc x := by simp [go_sem]
def l2DrawEdge_good (n : Int) : Ed → Prop := fun _ => True
def l2DrawEdge_gd (n : Int) (x : (Ed) × D) : Prop := l2DrawEdge_good n x.1 ∧ dat x.2 = l2DrawEdge_enc x.1
noncomputable def l2DrawEdge_selD (n : Int) (p : Int) (c : Any) : ((Ed) × D) × Int := dsel (l2DrawEdge_gd n) ((⟨0, 0, .mk 1 1 [], 0, .mk 1 1 [], 0⟩ : Ed), l2DrawEdge_enc (⟨0, 0, .mk 1 1 [], 0, .mk 1 1 [], 0⟩)) 115 p c
noncomputable def l2DrawEdge_sel (n : Int) (p : Int) (c : Any) : (Ed) × Int := ((l2DrawEdge_selD n p c).1.1, (l2DrawEdge_selD n p c).2)
theorem l2DrawEdge_okD (n : Int) (hn : n ≤ 1000000) (p : Int) (c : Any) : (l2DrawEdge_good n (l2DrawEdge_sel n p c).1 ∧ p ≤ (l2DrawEdge_sel n p c).2 ∧ (l2DrawEdge_sel n p c).2 ≤ p + 115) ∧ dat (l2DrawEdge_selD n p c).1.2 = l2DrawEdge_enc (l2DrawEdge_sel n p c).1 := by
  have hx : l2DrawEdge_good n (⟨0, 0, .mk 1 1 [], 0, .mk 1 1 [], 0⟩) := trivial
  have h := dsel_ok (good := l2DrawEdge_gd n) (x0 := ((⟨0, 0, .mk 1 1 [], 0, .mk 1 1 [], 0⟩ : Ed), l2DrawEdge_enc (⟨0, 0, .mk 1 1 [], 0, .mk 1 1 [], 0⟩))) ⟨hx, l2DrawEdge_flat _⟩ (K := 115) (by omega) (p := p) c
  exact ⟨⟨h.1.1, h.2.1, h.2.2⟩, h.1.2⟩
theorem l2DrawEdge_ok (n : Int) (hn : n ≤ 1000000) (p : Int) (c : Any) : l2DrawEdge_good n (l2DrawEdge_sel n p c).1 ∧ p ≤ (l2DrawEdge_sel n p c).2 ∧ (l2DrawEdge_sel n p c).2 ≤ p + 115 := (l2DrawEdge_okD n hn p c).1
theorem l2DrawEdge_ret (n : Int) (ys : List UInt8) (p : Int) (b : Nat) {e_ : Exit} {S_ : St} (x : Ed) (p' : Int) (he_ : e_ = .ret ∨ e_ = .normal)
    (h1 : (takeRes Try.prog S_ Try.f120.results.toList).1 ∧ dat (resD (takeRes Try.prog S_ Try.f120.results.toList).2.1) = l2DrawEdge_enc x ∧ (takeRes Try.prog S_ Try.f120.results.toList).2.2.H b = some [li cY ys, .int .i64 p']) (hg : l2DrawEdge_good n x) (h2 : p ≤ p' ∧ p' ≤ p + 115) :
    retR Try.prog Try.f120 (fun c => ((l2DrawEdge_selD n p c).1.2, one b [li cY ys, .int .i64 (l2DrawEdge_selD n p c).2])) e_ S_ :=
  ret_draw (good := l2DrawEdge_gd n) (enc := fun x : (Ed) × D => x.2) (cells := fun q => [li cY ys, .int .i64 q]) (x, resD (takeRes Try.prog S_ Try.f120.results.toList).2.1) p' he_ ⟨h1.1, rfl, h1.2.2⟩ ⟨hg, h1.2.1⟩ h2
set_option maxHeartbeats 4000000 in
theorem l2DrawEdge_spec (ys : List UInt8) (p : Int) (b : Nat) (n : Int) (hl : ys.length ≤ 2000) (h0_ : 0 ≤ p) (hp_ : p + 115 ≤ 1000000) (hn : n ≤ 1000000) : SpecR Try.prog 120 [.ptr b 0, .int .i64 n] (one b [li cY ys, .int .i64 p]) (fun c => ((l2DrawEdge_selD n p c).1.2, one b [li cY ys, .int .i64 (l2DrawEdge_selD n p c).2])) := by
  refine SpecR.of_walk Try.func120 rfl (by simp [Try.f120]) fun B => ?_
  (repeat' (first
    | refine AW_seq ?_
    | refine AW_region (id := 0) Γe23_ok [] (by kernel_rfl) ?_; simp  [-List.getD_eq_getElem?_getD, -List.drop_one, ↓splitB_true, ↓splitB_false, go_sem]
    | refine AW_region (id := 1) Γe23_ok [] (by kernel_rfl) ?_; simp  [-List.getD_eq_getElem?_getD, -List.drop_one, ↓splitB_true, ↓splitB_false, go_sem, hl, (show 0 ≤ p by omega), (show p ≤ 1000000 by omega), (show 0 ≤ p + 1 by omega), (show p + 1 ≤ 1000000 by omega), (show 0 ≤ p + 1 + 1 by omega), (show p + 1 + 1 ≤ 1000000 by omega), hn, (show p + 1 + 1 + 5 ≤ 1000000 by omega)]; try ((intro c1); (have z0 := l2Guard_ok (p + 1 + 1) c1); (generalize l2Guard_sel (p + 1 + 1) c1 = z at *); (obtain ⟨-, z1, z2⟩ := z0); (obtain ⟨⟨gk, gv, gs⟩, p1⟩ := z); (dsimp only at z1 z2); (generalize pkI ys p n = x1 at *); (generalize pkI ys (p + 1) n = x2 at *); (refine AW_matBox 5 rfl fun qb hqb => ?_); (have hbq : ¬ b = qb := (by rintro rfl; simp [go_sem] at hqb)); (clear hqb); (refine AW_gen (fun H1 => H1 b = some [.list ys.length (cat cY ys), .int .i64 p1] ∧ H1 qb = some [.int .i64 x1, .int .i64 x2, .int .i64 gk, .int .i64 gv, li cX gs, .int .i64 (-1), .int .i64 0, .int .i64 0, .nil, .int .i64 0]) ⟨by simp [go_sem, hbq], by simp [go_sem, hbq, li]⟩ fun H1 ⟨w1, w2⟩ => ?_))
    | refine AW_region (id := 2) Γe23_ok [] (by kernel_rfl) ?_; simp  [-List.getD_eq_getElem?_getD, -List.drop_one, ↓splitB_true, ↓splitB_false, go_sem, w1, hl, (show 0 ≤ p1 by omega), (show p1 ≤ 1000000 by omega), (show 0 ≤ p1 + 1 by omega), (show p1 + 1 ≤ 1000000 by omega), (show 0 ≤ p1 + 1 + 1 by omega), (show p1 + 1 + 1 ≤ 1000000 by omega)]
    | refine AW_region (id := 3) Γe23_ok [] (by kernel_rfl) ?_; simp  [-List.getD_eq_getElem?_getD, -List.drop_one, ↓splitB_true, ↓splitB_false, go_sem, w1, w2, hl, (show 0 ≤ p1 by omega), (show p1 ≤ 1000000 by omega), (show 0 ≤ p1 + 1 by omega), (show p1 + 1 ≤ 1000000 by omega), (show 0 ≤ p1 + 1 + 1 by omega), (show p1 + 1 + 1 ≤ 1000000 by omega), hbq, Ne.symm hbq]; try (generalize numI ys (p1 + 1) [0, 1, 0, 2] = x3 at *)
    | refine AW_region (id := 4) Γe23_ok [] (by kernel_rfl) ?_; simp  [-List.getD_eq_getElem?_getD, -List.drop_one, ↓splitB_true, ↓splitB_false, go_sem, w1, w2, hbq, Ne.symm hbq]; try (refine AW_shut 6 ?_; simp [go_sem])
    | refine AW_region (id := 5) Γe23_ok [] (by kernel_rfl) ?_; simp  [-List.getD_eq_getElem?_getD, -List.drop_one, ↓splitB_true, ↓splitB_false, go_sem]; try (refine AW_shut 7 ?_; simp [go_sem])
    | refine AW_region (id := 6) Γe23_ok [] (by kernel_rfl) ?_; simp  [-List.getD_eq_getElem?_getD, -List.drop_one, ↓splitB_true, ↓splitB_false, go_sem, w1, w2, hbq, Ne.symm hbq, hl, (show 0 ≤ p1 by omega), (show p1 ≤ 1000000 by omega), (show 0 ≤ p1 + 1 by omega), (show p1 + 1 ≤ 1000000 by omega), (show 0 ≤ p1 + 1 + 1 by omega), (show p1 + 1 + 1 ≤ 1000000 by omega), (show 0 ≤ p1 + 1 + 1 + 1 by omega), (show p1 + 1 + 1 + 1 ≤ 1000000 by omega)]
    | refine AW_region (id := 8) Γe23_ok [] (by kernel_rfl) ?_; simp  [-List.getD_eq_getElem?_getD, -List.drop_one, ↓splitB_true, ↓splitB_false, go_sem]
    | refine AW_region (id := 9) Γe23_ok [] (by kernel_rfl) ?_; simp  [-List.getD_eq_getElem?_getD, -List.drop_one, ↓splitB_true, ↓splitB_false, go_sem, w1, w2, hbq, Ne.symm hbq, hl, (show 0 ≤ p1 by omega), (show p1 ≤ 1000000 by omega), (show 0 ≤ p1 + 1 by omega), (show p1 + 1 ≤ 1000000 by omega), (show 0 ≤ p1 + 1 + 1 by omega), (show p1 + 1 + 1 ≤ 1000000 by omega), (show 0 ≤ p1 + 1 + 1 + 1 by omega), (show p1 + 1 + 1 + 1 ≤ 1000000 by omega), (show 0 ≤ p1 + 1 + 1 + 1 + 1 by omega), (show p1 + 1 + 1 + 1 + 1 ≤ 1000000 by omega)]
    | refine AW_region (id := 10) Γe23_ok [] (by kernel_rfl) ?_; simp  [-List.getD_eq_getElem?_getD, -List.drop_one, ↓splitB_true, ↓splitB_false, go_sem]
    | refine AW_region (id := 11) Γe23_ok [] (by kernel_rfl) ?_; simp  [-List.getD_eq_getElem?_getD, -List.drop_one, ↓splitB_true, ↓splitB_false, go_sem, w1, w2, hbq, Ne.symm hbq]
    | refine AW_region (id := 12) Γe23_ok [] (by kernel_rfl) ?_; simp  [-List.getD_eq_getElem?_getD, -List.drop_one, ↓splitB_true, ↓splitB_false, go_sem]
    | refine AW_region (id := 13) Γe23_ok [] (by kernel_rfl) ?_; simp  [-List.getD_eq_getElem?_getD, -List.drop_one, ↓splitB_true, ↓splitB_false, go_sem, w1, w2, hbq, Ne.symm hbq]
    | refine AW_region (id := 7) Γe23_ok [] (by kernel_rfl) ?_; simp  [-List.getD_eq_getElem?_getD, -List.drop_one, ↓splitB_true, ↓splitB_false, go_sem, w1, w2, hbq, Ne.symm hbq, hl, (show 0 ≤ p1 by omega), (show p1 ≤ 1000000 by omega), (show 0 ≤ p1 + 1 by omega), (show p1 + 1 ≤ 1000000 by omega), (show 0 ≤ p1 + 1 + 1 by omega), (show p1 + 1 + 1 ≤ 1000000 by omega), (show 0 ≤ p1 + 1 + 1 + 1 by omega), (show p1 + 1 + 1 + 1 ≤ 1000000 by omega), (show p1 + 1 + 1 + 1 + 100 ≤ 1000000 by omega)]; try ((intro c7); (have y0 := l1Expr_ok (p1 + 1 + 1 + 1) c7); (generalize l1Expr_sel (p1 + 1 + 1 + 1) c7 = y at *); (obtain ⟨-, y1, y2⟩ := y0); (obtain ⟨⟨ek, ev, es⟩, p2⟩ := y); (dsimp only at y1 y2))
    | ((refine AW_gen (fun H2 => ∃ (v ek ev q : Int) (E : D), (∃ es, dat E = li cX es) ∧ p ≤ q ∧ q ≤ p + 113 ∧ H2 b = some [.list ys.length (cat cY ys), .int .i64 q] ∧ H2 qb = some [.int .i64 x1, .int .i64 x2, .int .i64 gk, .int .i64 gv, li cX gs, .int .i64 v, .int .i64 ek, .int .i64 ev, E, .int .i64 0]) (by (iterate 5 apply Exists.intro); refine ⟨?_, ?_, ?_, ?_, ?_⟩; rotate_left 3; (simp [upd, w1, w2, hbq, Ne.symm hbq]; and_intros <;> rfl); (simp [upd, w1, w2, hbq, Ne.symm hbq, li]; and_intros <;> rfl); (first | exact ⟨_, dat_nilX⟩ | exact ⟨_, dat_liX _⟩ | exact ⟨_, dat_twoX _ _ _ _⟩); omega; omega) fun H2 ⟨v, ek, ev, q, E, ⟨es, hE⟩, k1, k2, k3', k4'⟩ => ?_); (refine AW_shutCell qb 8 k4' rfl ?_); (refine AW_gen (fun H3 => H3 b = some [.list ys.length (cat cY ys), .int .i64 q] ∧ H3 qb = some [.int .i64 x1, .int .i64 x2, .int .i64 gk, .int .i64 gv, li cX gs, .int .i64 v, .int .i64 ek, .int .i64 ev, li cX es, .int .i64 0]) ⟨by simp [upd, hbq, Ne.symm hbq, k3'], by simp [upd, hE]⟩ fun H3 ⟨k3, k4⟩ => ?_)); refine AW_region (id := 14) Γe23_ok [] (by kernel_rfl) ?_; simp  [-List.getD_eq_getElem?_getD, -List.drop_one, ↓splitB_true, ↓splitB_false, go_sem, k3, hl, (show 0 ≤ q by omega), (show q ≤ 1000000 by omega), (show 0 ≤ q + 1 by omega), (show q + 1 ≤ 1000000 by omega), (show 0 ≤ q + 1 + 1 by omega), (show q + 1 + 1 ≤ 1000000 by omega)]
    | refine AW_region (id := 15) Γe23_ok [] (by kernel_rfl) ?_; simp  [-List.getD_eq_getElem?_getD, -List.drop_one, ↓splitB_true, ↓splitB_false, go_sem, k3, k4, hl, (show 0 ≤ q by omega), (show q ≤ 1000000 by omega), (show 0 ≤ q + 1 by omega), (show q + 1 ≤ 1000000 by omega), (show 0 ≤ q + 1 + 1 by omega), (show q + 1 + 1 ≤ 1000000 by omega), hbq, Ne.symm hbq]
    | refine AW_region (id := 16) Γe23_ok [] (by kernel_rfl) ?_; simp  [-List.getD_eq_getElem?_getD, -List.drop_one, ↓splitB_true, ↓splitB_false, go_sem, k3, k4, hbq, Ne.symm hbq]
    | refine AW_condA (c := .tmp 19) ?_; simp [-List.getD_eq_getElem?_getD, -List.drop_one, ↓splitB_true, ↓splitB_false, go_sem]; try first | (refine ⟨?_, ?_⟩ <;> change AW _ _ _ _ _ _) | (refine ⟨fun c19 => ?_, fun c19 => ?_⟩ <;> (try simp [B_iff, B_not] at c19))
    | refine AW_condA (c := .tmp 33) ?_; simp [-List.getD_eq_getElem?_getD, -List.drop_one, ↓splitB_true, ↓splitB_false, go_sem]; try first | (refine ⟨?_, ?_⟩ <;> change AW _ _ _ _ _ _) | (refine ⟨fun c33 => ?_, fun c33 => ?_⟩ <;> (try simp [B_iff, B_not] at c33))
    | refine AW_condA (c := .tmp 39) ?_; simp [-List.getD_eq_getElem?_getD, -List.drop_one, ↓splitB_true, ↓splitB_false, go_sem]; try first | (refine ⟨?_, ?_⟩ <;> change AW _ _ _ _ _ _) | (refine ⟨fun c39 => ?_, fun c39 => ?_⟩ <;> (try simp [B_iff, B_not] at c39))
    | refine AW_condA (c := .tmp 46) ?_; simp [-List.getD_eq_getElem?_getD, -List.drop_one, ↓splitB_true, ↓splitB_false, go_sem]; try first | (refine ⟨?_, ?_⟩ <;> change AW _ _ _ _ _ _) | (refine ⟨fun c46 => ?_, fun c46 => ?_⟩ <;> (try simp [B_iff, B_not] at c46))
    | refine AW_condA (c := .tmp 55) ?_; simp [-List.getD_eq_getElem?_getD, -List.drop_one, ↓splitB_true, ↓splitB_false, go_sem]; try first | (refine ⟨?_, ?_⟩ <;> change AW _ _ _ _ _ _) | (refine ⟨fun c55 => ?_, fun c55 => ?_⟩ <;> (try simp [B_iff, B_not] at c55))
    | (refine AW_block ?_)
    | (refine AW_exit ?_; simp [-List.getD_eq_getElem?_getD, -List.drop_one, ↓splitB_true, ↓splitB_false, go_sem])
    | (refine AW_skip ?_; simp [-List.getD_eq_getElem?_getD, -List.drop_one, ↓splitB_true, ↓splitB_false, go_sem])
    | (refine AW_ret ?_; try simp [-List.getD_eq_getElem?_getD, -List.drop_one, ↓splitB_true, ↓splitB_false, go_sem, Try.results120])
    | (intro hx; change AW _ _ _ _ _ _)
    | (intro hx; change retR _ _ _ _ _)
    | (refine ⟨?_, ?_⟩ <;> change AW _ _ _ _ _ _)
    | (intro hx; refine ⟨fun hs => ?_, fun hs => ?_⟩)
    | (refine ⟨fun hs => ?_, fun hs => ?_⟩)
    | (refine ⟨?_, fun hs => ?_⟩; change AW _ _ _ _ _ _)
    | (refine ⟨fun hs => ?_, ?_⟩; rotate_left; change AW _ _ _ _ _ _; rotate_left)))
  all_goals (first
    | (refine l2DrawEdge_ret _ _ _ _ (⟨x1, x2, .mk gk gv gs, v, .mk ek ev es, 0⟩) (q + 1) ?_ ?_ ?_ ?_; (first | exact Or.inl rfl | exact Or.inr rfl); (focus (simp [-List.getD_eq_getElem?_getD, -List.drop_one, ↓splitB_true, ↓splitB_false, go_sem, Try.results120, k3, k4, dat, datL_map, li, hbq, Ne.symm hbq]; done)); (focus ((trivial); done)); (focus (refine ⟨?_, ?_⟩ <;> omega)))
    | (refine l2DrawEdge_ret _ _ _ _ (⟨x1, x2, .mk gk gv gs, v, .mk ek ev es, numI ys (q + 1) [1, -1, 1, -1, 2, -2]⟩) (q + 1 + 1) ?_ ?_ ?_ ?_; (first | exact Or.inl rfl | exact Or.inr rfl); (focus (simp [-List.getD_eq_getElem?_getD, -List.drop_one, ↓splitB_true, ↓splitB_false, go_sem, Try.results120, k3, k4, dat, datL_map, li, hbq, Ne.symm hbq]; done)); (focus ((trivial); done)); (focus (refine ⟨?_, ?_⟩ <;> omega)))
    | skip)
noncomputable def l2DrawEdgeC : Con := .rel fun args H => match args with
  | [.ptr b 0, .int .i64 n] => match H b with
    | some [.list m cs, .int .i64 p] => ((Is cY m cs) ∧ (m ≤ 2000) ∧ (0 ≤ p) ∧ (p + 115 ≤ 1000000) ∧ (n ≤ 1000000), fun c => (l2DrawEdge_enc (l2DrawEdge_sel n p c).1, upd H b (some [.list m cs, .int .i64 (l2DrawEdge_sel n p c).2])))
    | _ => (False, fun _ => (.any, H))
  | _ => (False, fun _ => (.any, H))
attribute [go_sem] l2DrawEdgeC
theorem l2DrawEdgeC_ok : ConOk Try.prog 120 l2DrawEdgeC := by
  refine ⟨callable Try.func120 (by decide) rfl, fun args H h => ?_⟩
  revert h
  dsimp only
  split
  · split
    · rename_i hH
      intro h
      obtain ⟨⟨ys, rfl, rfl⟩, hl, h0_, hp_, hn⟩ := h
      try simp only [de_cat] at *
      exact SpecR.enc ((l2DrawEdge_spec ys _ _ _ hl h0_ hp_ hn).frame hH).shut fun c => Prod.ext (l2DrawEdge_okD _ hn _ _).2.symm rfl
    · intro h; exact h.elim
  · intro h
    exact h.elim
noncomputable def Γe24 : FuncId → Con := ext Γe23 120 l2DrawEdgeC
attribute [go_sem] Γe24
theorem Γe24_ok : ∀ g, ConOk Try.prog g (Γe24 g) := ext_ok Γe23_ok l2DrawEdgeC_ok
end Go.Proofs.Ytljncoikoffijaa.Vm

