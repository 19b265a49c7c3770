/-
  Draws: guards, expressions. No conditions.
-/
import Derived.Test.YtljncoikoffijaaE8
namespace Go.Proofs.Ytljncoikoffijaa.Vm
open Go
set_option linter.unusedVariables false
set_option linter.unusedSimpArgs false
set_option maxRecDepth 200000

theorem SpecR.enc {P : Program} {f : FuncId} {args : List D} {H : Hp} {G G' : Any → D × Hp} (h : SpecR P f args H G) (e : ∀ c, G' c = G c) : SpecR P f args H G' := by
  have : G' = G := funext e
  rw [this]; exact h
/-- A tree, as a struct. -/
def sX (t : Tree) : D := .st [.int .i64 t.k, .int .i64 t.v, li cX t.ks]
attribute [go_sem] sX
theorem rep_nilfrN {μ : Nat → Nat} {I : Nat → Prop} {w : World} {v : Value} {f : List Nat} {sz : Nat} (h : Rep μ I w .nil v f) : Rep μ I w (.fr sz 0 []) v f := by
  simp only [Rep] at h ⊢
  exact ⟨Nat.zero_le _, by simp, .inl ⟨trivial, h.1, h.2⟩⟩
theorem AW_boxNil2 {P : Program} {B : Base} {n : Nat} {S : St} {c : Code} {Q : Exit → St → Prop} (t sz : Nat) {d e : D} (hT : S.T t = .box [d, e, .nil]) (h : AW P B n c Q ⟨upd S.T t (.box [d, e, .fr sz 0 []]), S.H⟩) : AW P B n c Q S :=
  AW_rebox t hT (fun μ I w vs f hr => by
    simp only [RepL] at hr ⊢
    obtain ⟨v, vs', f1, f2, e1, e2, r1, v2, vs2, g1, g2, e3, e4, r2, v3, vs3, g3, g4, e5, e6, r3, r4⟩ := hr
    exact ⟨v, vs', f1, f2, e1, e2, r1, v2, vs2, g1, g2, e3, e4, r2, v3, vs3, g3, g4, e5, e6, rep_nilfrN r3, r4⟩) (fun N hb => by simp only [bndL, bnd] at hb ⊢; exact ⟨hb.1, hb.2.1, trivial, trivial⟩) h
@[go_sem] theorem is_lit1 (x0 : Int) : Is cI 1 [D.int .i64 x0] = True := eq_true ⟨[x0], rfl, rfl⟩
@[go_sem] theorem de_lit1 (x0 : Int) : de cI [D.int .i64 x0] = [x0] := de_cat (f := cI) [x0]
@[go_sem] theorem is_lit3 (x0 x1 x2 : Int) : Is cI 3 [D.int .i64 x0, D.int .i64 x1, D.int .i64 x2] = True := eq_true ⟨[x0, x1, x2], rfl, rfl⟩
@[go_sem] theorem de_lit3 (x0 x1 x2 : Int) : de cI [D.int .i64 x0, D.int .i64 x1, D.int .i64 x2] = [x0, x1, x2] := de_cat (f := cI) [x0, x1, x2]
@[go_sem] theorem is_lit4 (x0 x1 x2 x3 : Int) : Is cI 4 [D.int .i64 x0, D.int .i64 x1, D.int .i64 x2, D.int .i64 x3] = True := eq_true ⟨[x0, x1, x2, x3], rfl, rfl⟩
@[go_sem] theorem de_lit4 (x0 x1 x2 x3 : Int) : de cI [D.int .i64 x0, D.int .i64 x1, D.int .i64 x2, D.int .i64 x3] = [x0, x1, x2, x3] := de_cat (f := cI) [x0, x1, x2, x3]
@[go_sem] theorem is_lit5 (x0 x1 x2 x3 x4 : Int) : Is cI 5 [D.int .i64 x0, D.int .i64 x1, D.int .i64 x2, D.int .i64 x3, D.int .i64 x4] = True := eq_true ⟨[x0, x1, x2, x3, x4], rfl, rfl⟩
@[go_sem] theorem de_lit5 (x0 x1 x2 x3 x4 : Int) : de cI [D.int .i64 x0, D.int .i64 x1, D.int .i64 x2, D.int .i64 x3, D.int .i64 x4] = [x0, x1, x2, x3, x4] := de_cat (f := cI) [x0, x1, x2, x3, x4]
@[go_sem] theorem is_lit6 (x0 x1 x2 x3 x4 x5 : Int) : Is cI 6 [D.int .i64 x0, D.int .i64 x1, D.int .i64 x2, D.int .i64 x3, D.int .i64 x4, D.int .i64 x5] = True := eq_true ⟨[x0, x1, x2, x3, x4, x5], rfl, rfl⟩
@[go_sem] theorem de_lit6 (x0 x1 x2 x3 x4 x5 : Int) : de cI [D.int .i64 x0, D.int .i64 x1, D.int .i64 x2, D.int .i64 x3, D.int .i64 x4, D.int .i64 x5] = [x0, x1, x2, x3, x4, x5] := de_cat (f := cI) [x0, x1, x2, x3, x4, x5]
@[go_sem] theorem is_lit7 (x0 x1 x2 x3 x4 x5 x6 : Int) : Is cI 7 [D.int .i64 x0, D.int .i64 x1, D.int .i64 x2, D.int .i64 x3, D.int .i64 x4, D.int .i64 x5, D.int .i64 x6] = True := eq_true ⟨[x0, x1, x2, x3, x4, x5, x6], rfl, rfl⟩
@[go_sem] theorem de_lit7 (x0 x1 x2 x3 x4 x5 x6 : Int) : de cI [D.int .i64 x0, D.int .i64 x1, D.int .i64 x2, D.int .i64 x3, D.int .i64 x4, D.int .i64 x5, D.int .i64 x6] = [x0, x1, x2, x3, x4, x5, x6] := de_cat (f := cI) [x0, x1, x2, x3, x4, x5, x6]

set_option maxHeartbeats 2000000 in
noncomputable def l2Guard_enc : Tree → D := sX
attribute [go_sem] l2Guard_enc
theorem l2Guard_flat (x : Tree) : dat (l2Guard_enc x) = l2Guard_enc x := by simp [go_sem]
def l2Guard_good  : Tree → Prop := fun _ => True
def l2Guard_gd  (x : (Tree) × D) : Prop := l2Guard_good x.1 ∧ dat x.2 = l2Guard_enc x.1
noncomputable def l2Guard_selD  (p : Int) (c : Any) : ((Tree) × D) × Int := dsel (l2Guard_gd) ((.mk 1 1 [] : Tree), l2Guard_enc (.mk 1 1 [])) 5 p c
noncomputable def l2Guard_sel  (p : Int) (c : Any) : (Tree) × Int := ((l2Guard_selD p c).1.1, (l2Guard_selD p c).2)
theorem l2Guard_okD   (p : Int) (c : Any) : (l2Guard_good (l2Guard_sel p c).1 ∧ p ≤ (l2Guard_sel p c).2 ∧ (l2Guard_sel p c).2 ≤ p + 5) ∧ dat (l2Guard_selD p c).1.2 = l2Guard_enc (l2Guard_sel p c).1 := by
  have hx : l2Guard_good (.mk 1 1 []) := trivial
  have h := dsel_ok (good := l2Guard_gd) (x0 := ((.mk 1 1 [] : Tree), l2Guard_enc (.mk 1 1 []))) ⟨hx, l2Guard_flat _⟩ (K := 5) (by omega) (p := p) c
  exact ⟨⟨h.1.1, h.2.1, h.2.2⟩, h.1.2⟩
theorem l2Guard_ok   (p : Int) (c : Any) : l2Guard_good (l2Guard_sel p c).1 ∧ p ≤ (l2Guard_sel p c).2 ∧ (l2Guard_sel p c).2 ≤ p + 5 := (l2Guard_okD  p c).1
theorem l2Guard_ret  (ys : List UInt8) (p : Int) (b : Nat) {e_ : Exit} {S_ : St} (x : Tree) (p' : Int) (he_ : e_ = .ret ∨ e_ = .normal)
    (h1 : (takeRes Try.prog S_ Try.f144.results.toList).1 ∧ dat (resD (takeRes Try.prog S_ Try.f144.results.toList).2.1) = l2Guard_enc x ∧ (takeRes Try.prog S_ Try.f144.results.toList).2.2.H b = some [li cY ys, .int .i64 p']) (hg : l2Guard_good x) (h2 : p ≤ p' ∧ p' ≤ p + 5) :
    retR Try.prog Try.f144 (fun c => ((l2Guard_selD p c).1.2, one b [li cY ys, .int .i64 (l2Guard_selD p c).2])) e_ S_ :=
  ret_draw (good := l2Guard_gd) (enc := fun x : (Tree) × D => x.2) (cells := fun q => [li cY ys, .int .i64 q]) (x, resD (takeRes Try.prog S_ Try.f144.results.toList).2.1) p' he_ ⟨h1.1, rfl, h1.2.2⟩ ⟨hg, h1.2.1⟩ h2
theorem l2Guard_spec (ys : List UInt8) (p : Int) (b : Nat)  (hl : ys.length ≤ 2000) (h0_ : 0 ≤ p) (hp_ : p + 5 ≤ 1000000)  : SpecR Try.prog 144 [.ptr b 0] (one b [li cY ys, .int .i64 p]) (fun c => ((l2Guard_selD p c).1.2, one b [li cY ys, .int .i64 (l2Guard_selD p c).2])) := by
  refine SpecR.of_walk Try.func144 rfl (by simp [Try.f144]) fun B => ?_
  (repeat' (first
    | refine AW_seq ?_
    | refine AW_region (id := 0) Γe20_ok [] (by kernel_rfl) ?_; simp  [-List.getD_eq_getElem?_getD, -List.drop_one, ↓splitB_true, ↓splitB_false, go_sem]
    | refine AW_region (id := 1) Γe20_ok [] (by kernel_rfl) ?_; simp  [-List.getD_eq_getElem?_getD, -List.drop_one, ↓splitB_true, ↓splitB_false, go_sem, hl, (show 0 ≤ p by omega), (show p ≤ 1000000 by omega), (show 0 ≤ p + 1 by omega), (show p + 1 ≤ 1000000 by omega)]
    | refine AW_region (id := 2) Γe20_ok [] (by kernel_rfl) ?_; simp  [-List.getD_eq_getElem?_getD, -List.drop_one, ↓splitB_true, ↓splitB_false, go_sem, hl]
    | refine AW_region (id := 3) Γe20_ok [] (by kernel_rfl) ?_; simp  [-List.getD_eq_getElem?_getD, -List.drop_one, ↓splitB_true, ↓splitB_false, go_sem, hl, (show 0 ≤ p by omega), (show p ≤ 1000000 by omega), (show 0 ≤ p + 1 by omega), (show p + 1 ≤ 1000000 by omega), (show 0 ≤ p + 1 + 1 by omega), (show p + 1 + 1 ≤ 1000000 by omega)]; try (refine AW_shut 3 ?_; simp [go_sem])
    | refine AW_region (id := 4) Γe20_ok [] (by kernel_rfl) ?_; simp  [-List.getD_eq_getElem?_getD, -List.drop_one, ↓splitB_true, ↓splitB_false, go_sem, hl, (show 0 ≤ p by omega), (show p ≤ 1000000 by omega), (show 0 ≤ p + 1 by omega), (show p + 1 ≤ 1000000 by omega), (show 0 ≤ p + 1 + 1 by omega), (show p + 1 + 1 ≤ 1000000 by omega), (show 0 ≤ p + 1 + 1 + 1 by omega), (show p + 1 + 1 + 1 ≤ 1000000 by omega)]; try (refine AW_shut 4 ?_; simp [go_sem])
    | refine AW_region_snap (id := 5) Γe20_ok mixed [] [] [] (by kernel_rfl) (by kernel_rfl) (by simp [-List.getD_eq_getElem?_getD, -List.drop_one, ↓splitB_true, ↓splitB_false, go_sem, hl, (show 0 ≤ p by omega), (show p ≤ 1000000 by omega), (show 0 ≤ p + 1 by omega), (show p + 1 ≤ 1000000 by omega), (show 0 ≤ p + 1 + 1 by omega), (show p + 1 + 1 ≤ 1000000 by omega), (show 0 ≤ p + 1 + 1 + 1 by omega), (show p + 1 + 1 + 1 ≤ 1000000 by omega), (show 0 ≤ p + 1 + 1 + 1 + 1 by omega), (show p + 1 + 1 + 1 + 1 ≤ 1000000 by omega)]) (by simp [-List.getD_eq_getElem?_getD, -List.drop_one, ↓splitB_true, ↓splitB_false, go_sem, hl, (show 0 ≤ p by omega), (show p ≤ 1000000 by omega), (show 0 ≤ p + 1 by omega), (show p + 1 ≤ 1000000 by omega), (show 0 ≤ p + 1 + 1 by omega), (show p + 1 + 1 ≤ 1000000 by omega), (show 0 ≤ p + 1 + 1 + 1 by omega), (show p + 1 + 1 + 1 ≤ 1000000 by omega), (show 0 ≤ p + 1 + 1 + 1 + 1 by omega), (show p + 1 + 1 + 1 + 1 ≤ 1000000 by omega)]) ?_; simp  [-List.getD_eq_getElem?_getD, -List.drop_one, ↓splitB_true, ↓splitB_false, go_sem, hl, (show 0 ≤ p by omega), (show p ≤ 1000000 by omega), (show 0 ≤ p + 1 by omega), (show p + 1 ≤ 1000000 by omega), (show 0 ≤ p + 1 + 1 by omega), (show p + 1 + 1 ≤ 1000000 by omega), (show 0 ≤ p + 1 + 1 + 1 by omega), (show p + 1 + 1 + 1 ≤ 1000000 by omega), (show 0 ≤ p + 1 + 1 + 1 + 1 by omega), (show p + 1 + 1 + 1 + 1 ≤ 1000000 by omega)]; try (refine AW_shut 5 ?_; simp [go_sem])
    | refine AW_region (id := 6) Γe20_ok [] (by kernel_rfl) ?_; simp  [-List.getD_eq_getElem?_getD, -List.drop_one, ↓splitB_true, ↓splitB_false, go_sem, hl, (show 0 ≤ p by omega), (show p ≤ 1000000 by omega), (show 0 ≤ p + 1 by omega), (show p + 1 ≤ 1000000 by omega), (show 0 ≤ p + 1 + 1 by omega), (show p + 1 + 1 ≤ 1000000 by omega), (show 0 ≤ p + 1 + 1 + 1 by omega), (show p + 1 + 1 + 1 ≤ 1000000 by omega), (show 0 ≤ p + 1 + 1 + 1 + 1 by omega), (show p + 1 + 1 + 1 + 1 ≤ 1000000 by omega), (show 0 ≤ p + 1 + 1 + 1 + 1 + 1 by omega), (show p + 1 + 1 + 1 + 1 + 1 ≤ 1000000 by omega)]
    | refine AW_region (id := 7) Γe20_ok [] (by kernel_rfl) ?_; simp  [-List.getD_eq_getElem?_getD, -List.drop_one, ↓splitB_true, ↓splitB_false, go_sem]
    | refine AW_region (id := 8) Γe20_ok [] (by kernel_rfl) ?_; simp  [-List.getD_eq_getElem?_getD, -List.drop_one, ↓splitB_true, ↓splitB_false, go_sem]
    | refine AW_condA (c := .tmp 8) ?_; simp [-List.getD_eq_getElem?_getD, -List.drop_one, ↓splitB_true, ↓splitB_false, go_sem]; try first | (refine ⟨?_, ?_⟩ <;> change AW _ _ _ _ _ _) | (refine ⟨fun c8 => ?_, fun c8 => ?_⟩ <;> (try simp [B_iff, B_not] at c8))
    | refine AW_condA (c := .tmp 26) ?_; simp [-List.getD_eq_getElem?_getD, -List.drop_one, ↓splitB_true, ↓splitB_false, go_sem]; try first | (refine ⟨?_, ?_⟩ <;> change AW _ _ _ _ _ _) | (refine ⟨fun c26 => ?_, fun c26 => ?_⟩ <;> (try simp [B_iff, B_not] at c26))
    | (refine AW_block ?_)
    | (refine AW_exit ?_; simp [-List.getD_eq_getElem?_getD, -List.drop_one, ↓splitB_true, ↓splitB_false, go_sem])
    | (refine AW_skip ?_; simp [-List.getD_eq_getElem?_getD, -List.drop_one, ↓splitB_true, ↓splitB_false, go_sem])
    | (refine AW_ret ?_; try simp [-List.getD_eq_getElem?_getD, -List.drop_one, ↓splitB_true, ↓splitB_false, go_sem, Try.results144])
    | (intro hx; change AW _ _ _ _ _ _)
    | (intro hx; change retR _ _ _ _ _)
    | (refine ⟨?_, ?_⟩ <;> change AW _ _ _ _ _ _)
    | (intro hx; refine ⟨fun hs => ?_, fun hs => ?_⟩)
    | (refine ⟨fun hs => ?_, fun hs => ?_⟩)
    | (refine ⟨?_, fun hs => ?_⟩; change AW _ _ _ _ _ _)
    | (refine ⟨fun hs => ?_, ?_⟩; rotate_left; change AW _ _ _ _ _ _; rotate_left)))
  all_goals (first
    | (refine l2Guard_ret _ _ _ (.mk 1 1 []) (p + 1) ?_ ?_ ?_ ?_; (first | exact Or.inl rfl | exact Or.inr rfl); (focus (simp [-List.getD_eq_getElem?_getD, -List.drop_one, ↓splitB_true, ↓splitB_false, go_sem, Try.results144]; done)); (focus ((trivial); done)); (focus (refine ⟨?_, ?_⟩ <;> omega)))
    | (refine l2Guard_ret _ _ _ (.mk 3 0 [.mk (numI ys (p + 1 + 1 + 1) [6, 7, 6]) 0 [.mk 2 (numI ys (p + 1) [0, 1, 0, 2]) [], .mk 1 (pkI ys (p + 1 + 1) 3) []]]) (p + 1 + 1 + 1 + 1 + 1) ?_ ?_ ?_ ?_; (first | exact Or.inl rfl | exact Or.inr rfl); (focus (simp [-List.getD_eq_getElem?_getD, -List.drop_one, ↓splitB_true, ↓splitB_false, go_sem, Try.results144, li, cat_cons, cX_mk, dat, datL]; done)); (focus ((trivial); done)); (focus (refine ⟨?_, ?_⟩ <;> omega)))
    | (refine l2Guard_ret _ _ _ (.mk (numI ys (p + 1 + 1 + 1) [6, 7, 6]) 0 [.mk 2 (numI ys (p + 1) [0, 1, 0, 2]) [], .mk 1 (pkI ys (p + 1 + 1) 3) []]) (p + 1 + 1 + 1 + 1 + 1) ?_ ?_ ?_ ?_; (first | exact Or.inl rfl | exact Or.inr rfl); (focus (simp [-List.getD_eq_getElem?_getD, -List.drop_one, ↓splitB_true, ↓splitB_false, go_sem, Try.results144, li, cat_cons, cX_mk, dat, datL]; done)); (focus ((trivial); done)); (focus (refine ⟨?_, ?_⟩ <;> omega)))
    | skip)
noncomputable def l2GuardC : Con := .rel fun args H => match args with
  | [.ptr b 0] => match H b with
    | some [.list m cs, .int .i64 p] => ((Is cY m cs) ∧ (m ≤ 2000) ∧ (0 ≤ p) ∧ (p + 5 ≤ 1000000), fun c => (l2Guard_enc (l2Guard_sel p c).1, upd H b (some [.list m cs, .int .i64 (l2Guard_sel p c).2])))
    | _ => (False, fun _ => (.any, H))
  | _ => (False, fun _ => (.any, H))
attribute [go_sem] l2GuardC
theorem l2GuardC_ok : ConOk Try.prog 144 l2GuardC := by
  refine ⟨callable Try.func144 (by decide) rfl, fun args H h => ?_⟩
  revert h
  dsimp only
  split
  · split
    · rename_i hH
      intro h
      obtain ⟨⟨ys, rfl, rfl⟩, hl, h0_, hp_⟩ := h
      try simp only [de_cat] at *
      exact SpecR.enc ((l2Guard_spec ys _ _ hl h0_ hp_ ).frame hH).shut fun c => Prod.ext (l2Guard_okD  _ _).2.symm rfl
    · intro h; exact h.elim
  · intro h
    exact h.elim
noncomputable def Γe21 : FuncId → Con := ext Γe20 144 l2GuardC
attribute [go_sem] Γe21
theorem Γe21_ok : ∀ g, ConOk Try.prog g (Γe21 g) := ext_ok Γe20_ok l2GuardC_ok
/-- What a random expression costs. -/
def kR : Nat → Int
  | 0 => 3
  | n + 1 => 3 + 2 * kR n
theorem kR_ge : ∀ n, 3 ≤ kR n
  | 0 => by simp [kR]
  | n + 1 => by have := kR_ge n; simp only [kR]; omega
theorem kR_nn (n : Nat) : 0 ≤ kR n := by have := kR_ge n; omega
theorem kR_step {d : Int} (h : 2 ≤ d) : kR d.toNat = 3 + 2 * kR (d - 1).toNat := by
  obtain ⟨m, hm⟩ : ∃ m : Nat, d.toNat = m + 1 := ⟨d.toNat - 1, by omega⟩
  rw [hm, show (d - 1).toNat = m by omega]; rfl
@[go_sem] theorem makeD_6 (x : D) : makeD [x] 6 = [x, x, x, x, x, x] := by rw [makeD_one]; rfl
@[go_sem] theorem makeD_7 (x : D) : makeD [x] 7 = [x, x, x, x, x, x, x] := by rw [makeD_one]; rfl

set_option maxHeartbeats 4000000 in
noncomputable def l1Random_enc : Tree → D := sX
attribute [go_sem] l1Random_enc
theorem l1Random_flat (x : Tree) : dat (l1Random_enc x) = l1Random_enc x := by simp [go_sem]
def l1Random_good (d : Int) : Tree → Prop := fun _ => True
def l1Random_gd (d : Int) (x : (Tree) × D) : Prop := l1Random_good d x.1 ∧ dat x.2 = l1Random_enc x.1
noncomputable def l1Random_selD (d : Int) (p : Int) (c : Any) : ((Tree) × D) × Int := dsel (l1Random_gd d) ((.mk 1 1 [] : Tree), l1Random_enc (.mk 1 1 [])) (kR d.toNat) p c
noncomputable def l1Random_sel (d : Int) (p : Int) (c : Any) : (Tree) × Int := ((l1Random_selD d p c).1.1, (l1Random_selD d p c).2)
theorem l1Random_okD (d : Int) (hd : d ≤ 4) (p : Int) (c : Any) : (l1Random_good d (l1Random_sel d p c).1 ∧ p ≤ (l1Random_sel d p c).2 ∧ (l1Random_sel d p c).2 ≤ p + (kR d.toNat)) ∧ dat (l1Random_selD d p c).1.2 = l1Random_enc (l1Random_sel d p c).1 := by
  have hx : l1Random_good d (.mk 1 1 []) := trivial
  have h := dsel_ok (good := l1Random_gd d) (x0 := ((.mk 1 1 [] : Tree), l1Random_enc (.mk 1 1 []))) ⟨hx, l1Random_flat _⟩ (K := (kR d.toNat)) (kR_nn _) (p := p) c
  exact ⟨⟨h.1.1, h.2.1, h.2.2⟩, h.1.2⟩
theorem l1Random_ok (d : Int) (hd : d ≤ 4) (p : Int) (c : Any) : l1Random_good d (l1Random_sel d p c).1 ∧ p ≤ (l1Random_sel d p c).2 ∧ (l1Random_sel d p c).2 ≤ p + (kR d.toNat) := (l1Random_okD d hd p c).1
theorem l1Random_ret (d : Int) (ys : List UInt8) (p : Int) (b : Nat) {e_ : Exit} {S_ : St} (x : Tree) (p' : Int) (he_ : e_ = .ret ∨ e_ = .normal)
    (h1 : (takeRes Try.prog S_ Try.f159.results.toList).1 ∧ dat (resD (takeRes Try.prog S_ Try.f159.results.toList).2.1) = l1Random_enc x ∧ (takeRes Try.prog S_ Try.f159.results.toList).2.2.H b = some [li cY ys, .int .i64 p']) (hg : l1Random_good d x) (h2 : p ≤ p' ∧ p' ≤ p + (kR d.toNat)) :
    retR Try.prog Try.f159 (fun c => ((l1Random_selD d p c).1.2, one b [li cY ys, .int .i64 (l1Random_selD d p c).2])) e_ S_ :=
  ret_draw (good := l1Random_gd d) (enc := fun x : (Tree) × D => x.2) (cells := fun q => [li cY ys, .int .i64 q]) (x, resD (takeRes Try.prog S_ Try.f159.results.toList).2.1) p' he_ ⟨h1.1, rfl, h1.2.2⟩ ⟨hg, h1.2.1⟩ h2
noncomputable def l1RandomCn (n_ : Nat) : Con := .rel fun args H => match args with
  | [.ptr b 0, .int .i64 d] => match H b with
    | some [.list m cs, .int .i64 p] => ((Is cY m cs) ∧ (m ≤ 2000) ∧ (0 ≤ p) ∧ (p + (kR d.toNat) ≤ 1000000) ∧ (d ≤ 4) ∧ (d.toNat < n_), fun c => (l1Random_enc (l1Random_sel d p c).1, upd H b (some [.list m cs, .int .i64 (l1Random_sel d p c).2])))
    | _ => (False, fun _ => (.any, H))
  | _ => (False, fun _ => (.any, H))
attribute [go_sem] l1RandomCn
theorem l1RandomCn_ok {n_ : Nat} (ih : ∀ (ys : List UInt8) (p : Int) (b : Nat) (d : Int) (hl : ys.length ≤ 2000) (h0_ : 0 ≤ p) (hp_ : p + (kR d.toNat) ≤ 1000000) (hd : d ≤ 4) (hm_ : d.toNat < n_), SpecR Try.prog 159 [.ptr b 0, .int .i64 d] (one b [li cY ys, .int .i64 p]) (fun c => ((l1Random_selD d p c).1.2, one b [li cY ys, .int .i64 (l1Random_selD d p c).2]))) : ConOk Try.prog 159 (l1RandomCn n_) := by
  refine ⟨callable Try.func159 (by decide) rfl, fun args H h => ?_⟩
  revert h
  dsimp only
  split
  · split
    · rename_i hH
      intro h
      obtain ⟨⟨ys, rfl, rfl⟩, hl, h0_, hp_, hd, hm_⟩ := h
      try simp only [de_cat] at *
      exact SpecR.enc ((ih ys _ _ _ hl h0_ hp_ hd hm_).frame hH).shut fun c => Prod.ext (l1Random_okD _ hd _ _).2.symm rfl
    · intro h; exact h.elim
  · intro h
    exact h.elim
theorem l1Random_rec : ∀ (n_ : Nat), ∀ (ys : List UInt8) (p : Int) (b : Nat) (d : Int) (hl : ys.length ≤ 2000) (h0_ : 0 ≤ p) (hp_ : p + (kR d.toNat) ≤ 1000000) (hd : d ≤ 4) (hm_ : d.toNat < n_), SpecR Try.prog 159 [.ptr b 0, .int .i64 d] (one b [li cY ys, .int .i64 p]) (fun c => ((l1Random_selD d p c).1.2, one b [li cY ys, .int .i64 (l1Random_selD d p c).2])) := by
  intro n_
  induction n_ with
  | zero => intros; omega
  | succ n_ ih =>
  intro ys p b d hl h0_ hp_ hd hm_
  have Γr_ok := ext_ok Γe21_ok (l1RandomCn_ok ih)
  refine SpecR.of_walk Try.func159 rfl (by simp [Try.f159]) fun B => ?_
  have hk3 := kR_ge d.toNat; by_cases hd2 : d < 2
  all_goals (repeat' (first
    | refine AW_seq ?_
    | refine AW_region (id := 0) Γr_ok [] (by kernel_rfl) ?_; simp  [-List.getD_eq_getElem?_getD, -List.drop_one, ↓splitB_true, ↓splitB_false, go_sem]
    | refine AW_region (id := 1) Γr_ok [10] (by kernel_rfl) ?_; simp  [-List.getD_eq_getElem?_getD, -List.drop_one, ↓splitB_true, ↓splitB_false, go_sem, hd2, hl, (show 0 ≤ p by omega), (show p ≤ 1000000 by omega), (show 0 ≤ p + 1 by omega), (show p + 1 ≤ 1000000 by omega)]; try (refine ⟨fun s1a => ?_, fun s1a => ?_⟩ <;> (try simp [B_iff, B_not] at s1a) <;> try (refine ⟨fun s1b => ?_, fun s1b => ?_⟩ <;> (try simp [B_iff, B_not] at s1b)))
    | refine AW_region (id := 2) Γr_ok [] (by kernel_rfl) ?_; simp  [-List.getD_eq_getElem?_getD, -List.drop_one, ↓splitB_true, ↓splitB_false, go_sem, hl, (show 0 ≤ p by omega), (show p ≤ 1000000 by omega), (show 0 ≤ p + 1 by omega), (show p + 1 ≤ 1000000 by omega), (show 0 ≤ p + 1 + 1 by omega), (show p + 1 + 1 ≤ 1000000 by omega)]
    | refine AW_region (id := 3) Γr_ok [] (by kernel_rfl) ?_; simp  [-List.getD_eq_getElem?_getD, -List.drop_one, ↓splitB_true, ↓splitB_false, go_sem, hl, (show 0 ≤ p by omega), (show p ≤ 1000000 by omega), (show 0 ≤ p + 1 by omega), (show p + 1 ≤ 1000000 by omega), (show 0 ≤ p + 1 + 1 by omega), (show p + 1 + 1 ≤ 1000000 by omega), (show 0 ≤ p + 1 + 1 + 1 by omega), (show p + 1 + 1 + 1 ≤ 1000000 by omega)]
    | refine AW_region (id := 4) Γr_ok [] (by kernel_rfl) ?_; simp  [-List.getD_eq_getElem?_getD, -List.drop_one, ↓splitB_true, ↓splitB_false, go_sem, hl, (show 0 ≤ p by omega), (show p ≤ 1000000 by omega), (show 0 ≤ p + 1 by omega), (show p + 1 ≤ 1000000 by omega), (show 0 ≤ p + 1 + 1 by omega), (show p + 1 + 1 ≤ 1000000 by omega), (show 0 ≤ p + 1 + 1 + 1 by omega), (show p + 1 + 1 + 1 ≤ 1000000 by omega)]
    | refine AW_region (id := 5) Γr_ok [] (by kernel_rfl) ?_; simp  [-List.getD_eq_getElem?_getD, -List.drop_one, ↓splitB_true, ↓splitB_false, go_sem, hl, (show 0 ≤ p by omega), (show p ≤ 1000000 by omega), (show 0 ≤ p + 1 by omega), (show p + 1 ≤ 1000000 by omega), (show 0 ≤ p + 1 + 1 by omega), (show p + 1 + 1 ≤ 1000000 by omega), (show 0 ≤ p + 1 + 1 + 1 by omega), (show p + 1 + 1 + 1 ≤ 1000000 by omega)]; try (generalize numI ys (p + 1) [6, 8, 7, 4, 3, 5, 9] = kk at *)
    | refine AW_region (id := 6) Γr_ok [] (by kernel_rfl) ?_; simp  [-List.getD_eq_getElem?_getD, -List.drop_one, ↓splitB_true, ↓splitB_false, go_sem]; try ((have hks := kR_step (d := d) (by omega)); (have hM := kR_ge (d - 1).toNat); (have hd1 : (d - 1).toNat = d.toNat - 1 := (by omega)); (rw [hd1] at hks hM); (refine AW_boxNil2 6 3 rfl ?_); (refine AW_matBox 6 rfl fun qb hqb => ?_); (have hbq : ¬ b = qb := (by rintro rfl; simp [go_sem] at hqb)); (clear hqb); (refine AW_gen (fun H1 => H1 b = some [.list ys.length (cat cY ys), .int .i64 (p + 1 + 1)] ∧ H1 qb = some [.int .i64 kk, .int .i64 0, .fr 3 0 []]) ⟨by simp [go_sem, hbq], by simp [go_sem, hbq]⟩ fun H1 ⟨w1, w2⟩ => ?_))
    | refine AW_region (id := 7) Γr_ok [] (by kernel_rfl) ?_; simp  [-List.getD_eq_getElem?_getD, -List.drop_one, ↓splitB_true, ↓splitB_false, go_sem]; try (have hal := ar_le kk; generalize ar kk = aa at *)
    | refine AW_region (id := 8) Γr_ok [] (by kernel_rfl) ?_; simp  [-List.getD_eq_getElem?_getD, -List.drop_one, ↓splitB_true, ↓splitB_false, go_sem]
    | ((refine AW_matCell qb 2 (all := [.int .i64 kk, .int .i64 0, .fr 3 q.1.length (cat cX q.1)]) g6 rfl fun u cu ju hu hcu hdu => ?_); (have ub : ¬ u = b := (by intro e; rw [e] at hu; dsimp only at hu; rw [g5] at hu; cases hu)); (have uq : ¬ u = qb := (by intro e; rw [e] at hu; dsimp only at hu; rw [g6] at hu; cases hu)); (clear hu)); refine AW_region_snap (id := 10) Γr_ok mixed [(qb, [.int .i64 kk, .int .i64 0, .sl u 3 0 q.1.length cu])] [] [] (by kernel_rfl) (by kernel_rfl) (by simp [-List.getD_eq_getElem?_getD, -List.drop_one, ↓splitB_true, ↓splitB_false, go_sem, g5, hl, wrap_in (x := d - 1) (by omega) (by omega), hbq, Ne.symm hbq, ub, uq, Ne.symm ub, Ne.symm uq, (show 0 ≤ q.2.2.1 by omega), (show d - 1 ≤ 4 by omega), (show d.toNat - 1 < n_ by omega), (show q.1.length ≤ 9223372036854775806 by omega), (show 2 * (q.1.length + 1) * 40 ≤ 281474976710656 by omega), (show q.2.2.1 + kR (d.toNat - 1) ≤ 1000000 by omega), hdu]) (by simp [-List.getD_eq_getElem?_getD, -List.drop_one, ↓splitB_true, ↓splitB_false, go_sem, g5, hl, wrap_in (x := d - 1) (by omega) (by omega), hbq, Ne.symm hbq, ub, uq, Ne.symm ub, Ne.symm uq, (show 0 ≤ q.2.2.1 by omega), (show d - 1 ≤ 4 by omega), (show d.toNat - 1 < n_ by omega), (show q.1.length ≤ 9223372036854775806 by omega), (show 2 * (q.1.length + 1) * 40 ≤ 281474976710656 by omega), (show q.2.2.1 + kR (d.toNat - 1) ≤ 1000000 by omega), hdu]) ?_; simp  [-List.getD_eq_getElem?_getD, -List.drop_one, ↓splitB_true, ↓splitB_false, go_sem, g5, hl, wrap_in (x := d - 1) (by omega) (by omega), hbq, Ne.symm hbq, ub, uq, Ne.symm ub, Ne.symm uq, (show 0 ≤ q.2.2.1 by omega), (show d - 1 ≤ 4 by omega), (show d.toNat - 1 < n_ by omega), (show q.1.length ≤ 9223372036854775806 by omega), (show 2 * (q.1.length + 1) * 40 ≤ 281474976710656 by omega), (show q.2.2.1 + kR (d.toNat - 1) ≤ 1000000 by omega), hdu]; try (intro c10; have z0 := l1Random_ok (d - 1) (by omega) q.2.2.1 c10; generalize l1Random_sel (d - 1) q.2.2.1 c10 = z at *; obtain ⟨-, z1, z2⟩ := z0; rw [hd1] at z2; obtain ⟨t, p2⟩ := z; dsimp only at z1 z2; refine AW_gen (fun H2 => H2 b = some [.list ys.length (cat cY ys), .int .i64 p2] ∧ H2 qb = some [.int .i64 kk, .int .i64 0, .fr 3 (q.1 ++ [t]).length (cat cX (q.1 ++ [t]))]) ⟨by simp [upd, hbq, Ne.symm hbq, ub, uq, Ne.symm ub, Ne.symm uq], by simp [upd, hbq, Ne.symm hbq, ub, uq, Ne.symm ub, Ne.symm uq, cat_append, cat_one, cX_eq, li]⟩ fun H2 ⟨y1, y2⟩ => ?_)
    | refine AW_region (id := 9) Γr_ok [] (by kernel_rfl) ?_; simp  [-List.getD_eq_getElem?_getD, -List.drop_one, ↓splitB_true, ↓splitB_false, go_sem, wrap_in (x := q.2.1 - 1) (by omega) (by omega)]
    | refine AW_region (id := 11) Γr_ok [] (by kernel_rfl) ?_; simp  [-List.getD_eq_getElem?_getD, -List.drop_one, ↓splitB_true, ↓splitB_false, go_sem, g6]
    | refine AW_condA (c := .tmp 14) ?_; simp [-List.getD_eq_getElem?_getD, -List.drop_one, ↓splitB_true, ↓splitB_false, go_sem]; try first | (refine ⟨?_, ?_⟩ <;> change AW _ _ _ _ _ _) | (refine ⟨fun c14 => ?_, fun c14 => ?_⟩ <;> (try simp [B_iff, B_not] at c14))
    | refine AW_condA (c := .tmp 17) ?_; simp [-List.getD_eq_getElem?_getD, -List.drop_one, ↓splitB_true, ↓splitB_false, go_sem]; try first | (refine ⟨?_, ?_⟩ <;> change AW _ _ _ _ _ _) | (refine ⟨fun c17 => ?_, fun c17 => ?_⟩ <;> (try simp [B_iff, B_not] at c17))
    | refine AW_condA (c := .tmp 33) ?_; simp [-List.getD_eq_getElem?_getD, -List.drop_one, ↓splitB_true, ↓splitB_false, go_sem]; try first | (refine ⟨?_, ?_⟩ <;> change AW _ _ _ _ _ _) | (refine ⟨fun c33 => ?_, fun c33 => ?_⟩ <;> (try simp [B_iff, B_not] at c33))
    | (refine AW_block (id := 0) (AW_loop (ι := List Tree × Int × Int × Hp) (fun q : List Tree × Int × Int × Hp => ⟨(upd (upd (upd (upd (upd (fun _ => .any) 0 (.ptr b 0)) 1 (.int .i64 d)) 4 (.box [.int .i64 0, .int .i64 0, .nil])) 6 (.ptr qb 0)) 7 (.int .i64 q.2.1)), q.2.2.2⟩) (fun q => q.2.1 ≤ 2 ∧ (q.1.length : Int) + q.2.1 ≤ 2 ∧ p ≤ q.2.2.1 ∧ (q.2.1 ≤ 2 ∧ q.2.2.1 ≤ p + 3 ∨ q.2.1 ≤ 1 ∧ q.2.2.1 ≤ p + 3 + kR (d.toNat - 1) ∨ q.2.1 ≤ 0 ∧ q.2.2.1 ≤ p + 3 + 2 * kR (d.toNat - 1)) ∧ q.2.2.2 b = some [.list ys.length (cat cY ys), .int .i64 q.2.2.1] ∧ q.2.2.2 qb = some [.int .i64 kk, .int .i64 0, .fr 3 q.1.length (cat cX q.1)]) (fun q => q.2.1.toNat) (([], aa, p + 1 + 1, H1)) ?_ ?_ ?_); exact ⟨by dsimp only; omega, by simpa using hal, by dsimp only; omega, by dsimp only; omega, by dsimp only; exact w1, by dsimp only; exact w2⟩; ((repeat' (first | exact sub_noneH (by assumption) | exact sub_none | refine sub_upd ?_ ?_ | refine sub_noneE ?_)) <;> simp [-List.getD_eq_getElem?_getD, -List.drop_one, ↓splitB_true, ↓splitB_false, go_sem]); rintro q ⟨g1, g2, g3, g4, g5, g6⟩)
    | (refine ⟨(q.1 ++ [t], q.2.1 - 1, p2, H2), ⟨by dsimp only; omega, by simp; omega, by dsimp only; omega, by dsimp only; omega, y1, y2⟩, by first | omega | (simp; done) | (simp; omega), ?_⟩; ((repeat' (first | exact sub_noneH (by assumption) | exact sub_none | refine sub_upd ?_ ?_ | refine sub_noneE ?_)) <;> simp [-List.getD_eq_getElem?_getD, -List.drop_one, ↓splitB_true, ↓splitB_false, go_sem, ]))
    | (refine AW_block ?_)
    | (refine AW_exit ?_; simp [-List.getD_eq_getElem?_getD, -List.drop_one, ↓splitB_true, ↓splitB_false, go_sem])
    | (refine AW_skip ?_; simp [-List.getD_eq_getElem?_getD, -List.drop_one, ↓splitB_true, ↓splitB_false, go_sem])
    | (refine AW_ret ?_; try simp [-List.getD_eq_getElem?_getD, -List.drop_one, ↓splitB_true, ↓splitB_false, go_sem, Try.results159])
    | (intro hx; change AW _ _ _ _ _ _)
    | (intro hx; change retR _ _ _ _ _)
    | (refine ⟨?_, ?_⟩ <;> change AW _ _ _ _ _ _)
    | (intro hx; refine ⟨fun hs => ?_, fun hs => ?_⟩)
    | (refine ⟨fun hs => ?_, fun hs => ?_⟩)
    | (refine ⟨?_, fun hs => ?_⟩; change AW _ _ _ _ _ _)
    | (refine ⟨fun hs => ?_, ?_⟩; rotate_left; change AW _ _ _ _ _ _; rotate_left)
    | ((fail_if_success change retR _ _ _ _ _); (exfalso; omega))))
  all_goals (first
    | (refine l1Random_ret _ _ _ _ (.mk 1 (pkI ys (p + 1) 4) []) (p + 1 + 1) ?_ ?_ ?_ ?_; (first | exact Or.inl rfl | exact Or.inr rfl); (focus (simp [-List.getD_eq_getElem?_getD, -List.drop_one, ↓splitB_true, ↓splitB_false, go_sem, Try.results159]; done)); (focus ((trivial); done)); (focus (refine ⟨?_, ?_⟩ <;> omega)))
    | (refine l1Random_ret _ _ _ _ (.mk 1 (pkI ys (p + 1 + 1) 4) []) (p + 1 + 1 + 1) ?_ ?_ ?_ ?_; (first | exact Or.inl rfl | exact Or.inr rfl); (focus (simp [-List.getD_eq_getElem?_getD, -List.drop_one, ↓splitB_true, ↓splitB_false, go_sem, Try.results159]; done)); (focus ((trivial); done)); (focus (refine ⟨?_, ?_⟩ <;> omega)))
    | (refine l1Random_ret _ _ _ _ (.mk 2 (numI ys (p + 1) [0, 1, 0, 2]) []) (p + 1 + 1) ?_ ?_ ?_ ?_; (first | exact Or.inl rfl | exact Or.inr rfl); (focus (simp [-List.getD_eq_getElem?_getD, -List.drop_one, ↓splitB_true, ↓splitB_false, go_sem, Try.results159]; done)); (focus ((trivial); done)); (focus (refine ⟨?_, ?_⟩ <;> omega)))
    | (refine l1Random_ret _ _ _ _ (.mk 2 (numI ys (p + 1 + 1) [0, 1, 0, 2]) []) (p + 1 + 1 + 1) ?_ ?_ ?_ ?_; (first | exact Or.inl rfl | exact Or.inr rfl); (focus (simp [-List.getD_eq_getElem?_getD, -List.drop_one, ↓splitB_true, ↓splitB_false, go_sem, Try.results159]; done)); (focus ((trivial); done)); (focus (refine ⟨?_, ?_⟩ <;> omega)))
    | (refine l1Random_ret _ _ _ _ (.mk kk 0 q.1) (q.2.2.1) ?_ ?_ ?_ ?_; (first | exact Or.inl rfl | exact Or.inr rfl); (focus (simp [-List.getD_eq_getElem?_getD, -List.drop_one, ↓splitB_true, ↓splitB_false, go_sem, Try.results159, li, dat, datL_map, hbq, g5]; done)); (focus ((trivial); done)); (focus (refine ⟨?_, ?_⟩ <;> omega)))
    | skip)
theorem l1Random_spec (ys : List UInt8) (p : Int) (b : Nat) (d : Int) (hl : ys.length ≤ 2000) (h0_ : 0 ≤ p) (hp_ : p + (kR d.toNat) ≤ 1000000) (hd : d ≤ 4) : SpecR Try.prog 159 [.ptr b 0, .int .i64 d] (one b [li cY ys, .int .i64 p]) (fun c => ((l1Random_selD d p c).1.2, one b [li cY ys, .int .i64 (l1Random_selD d p c).2])) := l1Random_rec (d.toNat + 1) ys p b d hl h0_ hp_ hd (by omega)
noncomputable def l1RandomC : Con := .rel fun args H => match args with
  | [.ptr b 0, .int .i64 d] => match H b with
    | some [.list m cs, .int .i64 p] => ((Is cY m cs) ∧ (m ≤ 2000) ∧ (0 ≤ p) ∧ (p + (kR d.toNat) ≤ 1000000) ∧ (d ≤ 4), fun c => (l1Random_enc (l1Random_sel d p c).1, upd H b (some [.list m cs, .int .i64 (l1Random_sel d p c).2])))
    | _ => (False, fun _ => (.any, H))
  | _ => (False, fun _ => (.any, H))
attribute [go_sem] l1RandomC
theorem l1RandomC_ok : ConOk Try.prog 159 l1RandomC := by
  refine ⟨callable Try.func159 (by decide) rfl, fun args H h => ?_⟩
  revert h
  dsimp only
  split
  · split
    · rename_i hH
      intro h
      obtain ⟨⟨ys, rfl, rfl⟩, hl, h0_, hp_, hd⟩ := h
      try simp only [de_cat] at *
      exact SpecR.enc ((l1Random_spec ys _ _ _ hl h0_ hp_ hd).frame hH).shut fun c => Prod.ext (l1Random_okD _ hd _ _).2.symm rfl
    · intro h; exact h.elim
  · intro h
    exact h.elim
noncomputable def Γe22 : FuncId → Con := ext Γe21 159 l1RandomC
attribute [go_sem] Γe22
theorem Γe22_ok : ∀ g, ConOk Try.prog g (Γe22 g) := ext_ok Γe21_ok l1RandomC_ok
theorem kR_le {d : Int} (h : d ≤ 4) : kR d.toNat ≤ 93 := by
  have : d.toNat = 0 ∨ d.toNat = 1 ∨ d.toNat = 2 ∨ d.toNat = 3 ∨ d.toNat = 4 := by omega
  rcases this with e | e | e | e | e <;> rw [e] <;> decide
noncomputable def l1Expr_enc : Tree → D := sX
attribute [go_sem] l1Expr_enc
theorem l1Expr_flat (x : Tree) : dat (l1Expr_enc x) = l1Expr_enc x := by simp [go_sem]
def l1Expr_good  : Tree → Prop := fun _ => True
def l1Expr_gd  (x : (Tree) × D) : Prop := l1Expr_good x.1 ∧ dat x.2 = l1Expr_enc x.1
noncomputable def l1Expr_selD  (p : Int) (c : Any) : ((Tree) × D) × Int := dsel (l1Expr_gd) ((.mk 1 1 [] : Tree), l1Expr_enc (.mk 1 1 [])) 100 p c
noncomputable def l1Expr_sel  (p : Int) (c : Any) : (Tree) × Int := ((l1Expr_selD p c).1.1, (l1Expr_selD p c).2)
theorem l1Expr_okD   (p : Int) (c : Any) : (l1Expr_good (l1Expr_sel p c).1 ∧ p ≤ (l1Expr_sel p c).2 ∧ (l1Expr_sel p c).2 ≤ p + 100) ∧ dat (l1Expr_selD p c).1.2 = l1Expr_enc (l1Expr_sel p c).1 := by
  have hx : l1Expr_good (.mk 1 1 []) := trivial
  have h := dsel_ok (good := l1Expr_gd) (x0 := ((.mk 1 1 [] : Tree), l1Expr_enc (.mk 1 1 []))) ⟨hx, l1Expr_flat _⟩ (K := 100) (by omega) (p := p) c
  exact ⟨⟨h.1.1, h.2.1, h.2.2⟩, h.1.2⟩
theorem l1Expr_ok   (p : Int) (c : Any) : l1Expr_good (l1Expr_sel p c).1 ∧ p ≤ (l1Expr_sel p c).2 ∧ (l1Expr_sel p c).2 ≤ p + 100 := (l1Expr_okD  p c).1
theorem l1Expr_ret  (ys : List UInt8) (p : Int) (b : Nat) {e_ : Exit} {S_ : St} (x : Tree) (p' : Int) (he_ : e_ = .ret ∨ e_ = .normal)
    (h1 : (takeRes Try.prog S_ Try.f145.results.toList).1 ∧ dat (resD (takeRes Try.prog S_ Try.f145.results.toList).2.1) = l1Expr_enc x ∧ (takeRes Try.prog S_ Try.f145.results.toList).2.2.H b = some [li cY ys, .int .i64 p']) (hg : l1Expr_good x) (h2 : p ≤ p' ∧ p' ≤ p + 100) :
    retR Try.prog Try.f145 (fun c => ((l1Expr_selD p c).1.2, one b [li cY ys, .int .i64 (l1Expr_selD p c).2])) e_ S_ :=
  ret_draw (good := l1Expr_gd) (enc := fun x : (Tree) × D => x.2) (cells := fun q => [li cY ys, .int .i64 q]) (x, resD (takeRes Try.prog S_ Try.f145.results.toList).2.1) p' he_ ⟨h1.1, rfl, h1.2.2⟩ ⟨hg, h1.2.1⟩ h2
theorem l1Expr_spec (ys : List UInt8) (p : Int) (b : Nat)  (hl : ys.length ≤ 2000) (h0_ : 0 ≤ p) (hp_ : p + 100 ≤ 1000000)  : SpecR Try.prog 145 [.ptr b 0] (one b [li cY ys, .int .i64 p]) (fun c => ((l1Expr_selD p c).1.2, one b [li cY ys, .int .i64 (l1Expr_selD p c).2])) := by
  refine SpecR.of_walk Try.func145 rfl (by simp [Try.f145]) fun B => ?_
  have hr := numI_range ys (p := p) (by omega) (xs := [3, 2, 3, 4]) (lo := 2) (hi := 4) (by simp) (by simp); have hk := kR_le (d := numI ys p [3, 2, 3, 4]) (by omega); have hk0 := kR_nn (numI ys p [3, 2, 3, 4]).toNat
  all_goals (repeat' (first
    | refine AW_seq ?_
    | refine AW_region (id := 0) Γe22_ok [] (by kernel_rfl) ?_; simp  [-List.getD_eq_getElem?_getD, -List.drop_one, ↓splitB_true, ↓splitB_false, go_sem]
    | refine AW_region (id := 1) Γe22_ok [] (by kernel_rfl) ?_; simp  [-List.getD_eq_getElem?_getD, -List.drop_one, ↓splitB_true, ↓splitB_false, go_sem, hl, (show 0 ≤ p by omega), (show p ≤ 1000000 by omega), (show 0 ≤ p + 1 by omega), (show p + 1 ≤ 1000000 by omega), (show 0 ≤ p + 1 + 1 by omega), (show p + 1 + 1 ≤ 1000000 by omega), hr, (show p + 1 + kR (numI ys p [3, 2, 3, 4]).toNat ≤ 1000000 by omega)]; try (intro c1; have z0 := l1Random_ok (numI ys p [3, 2, 3, 4]) (by omega) (p + 1) c1; generalize l1Random_sel (numI ys p [3, 2, 3, 4]) (p + 1) c1 = z at *; obtain ⟨-, z1, z2⟩ := z0; obtain ⟨⟨tk, tv, ts⟩, p2⟩ := z; dsimp only at z1 z2; refine AW_shut 3 ?_; simp [go_sem])
    | refine AW_region (id := 2) Γe22_ok [] (by kernel_rfl) ?_; simp  [-List.getD_eq_getElem?_getD, -List.drop_one, ↓splitB_true, ↓splitB_false, go_sem]
    | refine AW_region (id := 3) Γe22_ok [] (by kernel_rfl) ?_; simp  [-List.getD_eq_getElem?_getD, -List.drop_one, ↓splitB_true, ↓splitB_false, go_sem]
    | refine AW_region (id := 4) Γe22_ok [] (by kernel_rfl) ?_; simp  [-List.getD_eq_getElem?_getD, -List.drop_one, ↓splitB_true, ↓splitB_false, go_sem, hl, (show 0 ≤ p2 by omega), (show p2 ≤ 1000000 by omega)]
    | refine AW_condA (c := .tmp 10) ?_; simp [-List.getD_eq_getElem?_getD, -List.drop_one, ↓splitB_true, ↓splitB_false, go_sem]; try first | (refine ⟨?_, ?_⟩ <;> change AW _ _ _ _ _ _) | (refine ⟨fun c10 => ?_, fun c10 => ?_⟩ <;> (try simp [B_iff, B_not] at c10))
    | (refine AW_block ?_)
    | (refine AW_exit ?_; simp [-List.getD_eq_getElem?_getD, -List.drop_one, ↓splitB_true, ↓splitB_false, go_sem])
    | (refine AW_skip ?_; simp [-List.getD_eq_getElem?_getD, -List.drop_one, ↓splitB_true, ↓splitB_false, go_sem])
    | (refine AW_ret ?_; try simp [-List.getD_eq_getElem?_getD, -List.drop_one, ↓splitB_true, ↓splitB_false, go_sem, Try.results145])
    | (intro hx; change AW _ _ _ _ _ _)
    | (intro hx; change retR _ _ _ _ _)
    | (refine ⟨?_, ?_⟩ <;> change AW _ _ _ _ _ _)
    | (intro hx; refine ⟨fun hs => ?_, fun hs => ?_⟩)
    | (refine ⟨fun hs => ?_, fun hs => ?_⟩)
    | (refine ⟨?_, fun hs => ?_⟩; change AW _ _ _ _ _ _)
    | (refine ⟨fun hs => ?_, ?_⟩; rotate_left; change AW _ _ _ _ _ _; rotate_left)))
  all_goals (first
    | (refine l1Expr_ret _ _ _ (.mk tk tv ts) (p2) ?_ ?_ ?_ ?_; (first | exact Or.inl rfl | exact Or.inr rfl); (focus (simp [-List.getD_eq_getElem?_getD, -List.drop_one, ↓splitB_true, ↓splitB_false, go_sem, Try.results145, li, dat, datL_map]; done)); (focus ((trivial); done)); (focus (refine ⟨?_, ?_⟩ <;> omega)))
    | (refine l1Expr_ret _ _ _ (.mk 2 (pkI ys p2 3) []) (p2 + 1) ?_ ?_ ?_ ?_; (first | exact Or.inl rfl | exact Or.inr rfl); (focus (simp [-List.getD_eq_getElem?_getD, -List.drop_one, ↓splitB_true, ↓splitB_false, go_sem, Try.results145]; done)); (focus ((trivial); done)); (focus (refine ⟨?_, ?_⟩ <;> omega)))
    | skip)
noncomputable def l1ExprC : Con := .rel fun args H => match args with
  | [.ptr b 0] => match H b with
    | some [.list m cs, .int .i64 p] => ((Is cY m cs) ∧ (m ≤ 2000) ∧ (0 ≤ p) ∧ (p + 100 ≤ 1000000), fun c => (l1Expr_enc (l1Expr_sel p c).1, upd H b (some [.list m cs, .int .i64 (l1Expr_sel p c).2])))
    | _ => (False, fun _ => (.any, H))
  | _ => (False, fun _ => (.any, H))
attribute [go_sem] l1ExprC
theorem l1ExprC_ok : ConOk Try.prog 145 l1ExprC := by
  refine ⟨callable Try.func145 (by decide) rfl, fun args H h => ?_⟩
  revert h
  dsimp only
  split
  · split
    · rename_i hH
      intro h
      obtain ⟨⟨ys, rfl, rfl⟩, hl, h0_, hp_⟩ := h
      try simp only [de_cat] at *
      exact SpecR.enc ((l1Expr_spec ys _ _ hl h0_ hp_ ).frame hH).shut fun c => Prod.ext (l1Expr_okD  _ _).2.symm rfl
    · intro h; exact h.elim
  · intro h
    exact h.elim
noncomputable def Γe23 : FuncId → Con := ext Γe22 145 l1ExprC
attribute [go_sem] Γe23
theorem Γe23_ok : ∀ g, ConOk Try.prog g (Γe23 g) := ext_ok Γe22_ok l1ExprC_ok
end Go.Proofs.Ytljncoikoffijaa.Vm

