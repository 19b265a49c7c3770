import Derived.Test.YtoklpofekcclhaaE8
/-
  Draws: guards, expressions. No conditions.
-/
namespace Go.Proofs.Ytoklpofekcclhaa.Vm
open Go
set_option linter.unusedVariables false
set_option linter.unusedSimpArgs false
set_option maxRecDepth 200000

theorem SpecR.enc {P : Program} {f : FuncId} {args : List D} {H : Hp} {G G' : Any → D × Hp} (h : SpecR P f args H G) (e : ∀ c, G' c = G c) : SpecR P f args H G' := by
  have : G' = G := funext e
  rw [this]; exact h
/-- A tree, as a struct. -/
def sX (t : Tree) : D := .st [.int .i64 t.k, .int .i64 t.v, li cX t.ks]
attribute [go_sem] sX
theorem rep_nilfrN {μ : Nat → Nat} {I : Nat → Prop} {w : World} {v : Value} {f : List Nat} {sz : Nat} (h : Rep μ I w .nil v f) : Rep μ I w (.fr sz 0 []) v f := by
  simp only [Rep] at h ⊢
  exact ⟨Nat.zero_le _, by simp, .inl ⟨trivial, h.1, h.2⟩⟩
theorem AW_boxNil2 {P : Program} {B : Base} {n : Nat} {S : St} {c : Code} {Q : Exit → St → Prop} (t sz : Nat) {d e : D} (hT : S.T t = .box [d, e, .nil]) (h : AW P B n c Q ⟨upd S.T t (.box [d, e, .fr sz 0 []]), S.H⟩) : AW P B n c Q S :=
  AW_rebox t hT (fun μ I w vs f hr => by
    simp only [RepL] at hr ⊢
    obtain ⟨v, vs', f1, f2, e1, e2, r1, v2, vs2, g1, g2, e3, e4, r2, v3, vs3, g3, g4, e5, e6, r3, r4⟩ := hr
    exact ⟨v, vs', f1, f2, e1, e2, r1, v2, vs2, g1, g2, e3, e4, r2, v3, vs3, g3, g4, e5, e6, rep_nilfrN r3, r4⟩) (fun N hb => by simp only [bndL, bnd] at hb ⊢; exact ⟨hb.1, hb.2.1, trivial, trivial⟩) h
@[go_sem] theorem is_lit1 (x0 : Int) : Is cI 1 [D.int .i64 x0] = True := eq_true ⟨[x0], rfl, rfl⟩
@[go_sem] theorem de_lit1 (x0 : Int) : de cI [D.int .i64 x0] = [x0] := de_cat (f := cI) [x0]
@[go_sem] theorem is_lit3 (x0 x1 x2 : Int) : Is cI 3 [D.int .i64 x0, D.int .i64 x1, D.int .i64 x2] = True := eq_true ⟨[x0, x1, x2], rfl, rfl⟩
@[go_sem] theorem de_lit3 (x0 x1 x2 : Int) : de cI [D.int .i64 x0, D.int .i64 x1, D.int .i64 x2] = [x0, x1, x2] := de_cat (f := cI) [x0, x1, x2]
@[go_sem] theorem is_lit4 (x0 x1 x2 x3 : Int) : Is cI 4 [D.int .i64 x0, D.int .i64 x1, D.int .i64 x2, D.int .i64 x3] = True := eq_true ⟨[x0, x1, x2, x3], rfl, rfl⟩
@[go_sem] theorem de_lit4 (x0 x1 x2 x3 : Int) : de cI [D.int .i64 x0, D.int .i64 x1, D.int .i64 x2, D.int .i64 x3] = [x0, x1, x2, x3] := de_cat (f := cI) [x0, x1, x2, x3]
@[go_sem] theorem is_lit5 (x0 x1 x2 x3 x4 : Int) : Is cI 5 [D.int .i64 x0, D.int .i64 x1, D.int .i64 x2, D.int .i64 x3, D.int .i64 x4] = True := eq_true ⟨[x0, x1, x2, x3, x4], rfl, rfl⟩
@[go_sem] theorem de_lit5 (x0 x1 x2 x3 x4 : Int) : de cI [D.int .i64 x0, D.int .i64 x1, D.int .i64 x2, D.int .i64 x3, D.int .i64 x4] = [x0, x1, x2, x3, x4] := de_cat (f := cI) [x0, x1, x2, x3, x4]
@[go_sem] theorem is_lit6 (x0 x1 x2 x3 x4 x5 : Int) : Is cI 6 [D.int .i64 x0, D.int .i64 x1, D.int .i64 x2, D.int .i64 x3, D.int .i64 x4, D.int .i64 x5] = True := eq_true ⟨[x0, x1, x2, x3, x4, x5], rfl, rfl⟩
@[go_sem] theorem de_lit6 (x0 x1 x2 x3 x4 x5 : Int) : de cI [D.int .i64 x0, D.int .i64 x1, D.int .i64 x2, D.int .i64 x3, D.int .i64 x4, D.int .i64 x5] = [x0, x1, x2, x3, x4, x5] := de_cat (f := cI) [x0, x1, x2, x3, x4, x5]
@[go_sem] theorem is_lit7 (x0 x1 x2 x3 x4 x5 x6 : Int) : Is cI 7 [D.int .i64 x0, D.int .i64 x1, D.int .i64 x2, D.int .i64 x3, D.int .i64 x4, D.int .i64 x5, D.int .i64 x6] = True := eq_true ⟨[x0, x1, x2, x3, x4, x5, x6], rfl, rfl⟩
@[go_sem] theorem de_lit7 (x0 x1 x2 x3 x4 x5 x6 : Int) : de cI [D.int .i64 x0, D.int .i64 x1, D.int .i64 x2, D.int .i64 x3, D.int .i64 x4, D.int .i64 x5, D.int .i64 x6] = [x0, x1, x2, x3, x4, x5, x6] := de_cat (f := cI) [x0, x1, x2, x3, x4, x5, x6]

set_option maxHeartbeats 2000000 in

noncomputable def l2Guard_enc : Tree → D := sX
attribute [go_sem] l2Guard_enc
theorem l2Guard_flat (x : Tree) : dat (l2Guard_enc x) = l2Guard_enc x := by simp [go_sem]
def l2Guard_good  : Tree → Prop := fun _ => True
def l2Guard_gd  (x : (Tree) × D) : Prop := l2Guard_good x.1 ∧ dat x.2 = l2Guard_enc x.1
noncomputable def l2Guard_selD  (p : Int) (c : Any) : ((Tree) × D) × Int := dsel (l2Guard_gd) ((.mk 1 1 [] : Tree), l2Guard_enc (.mk 1 1 [])) 5 p c
noncomputable def l2Guard_sel  (p : Int) (c : Any) : (Tree) × Int := ((l2Guard_selD p c).1.1, (l2Guard_selD p c).2)
theorem l2Guard_okD   (p : Int) (c : Any) : (l2Guard_good (l2Guard_sel p c).1 ∧ p ≤ (l2Guard_sel p c).2 ∧ (l2Guard_sel p c).2 ≤ p + 5) ∧ dat (l2Guard_selD p c).1.2 = l2Guard_enc (l2Guard_sel p c).1 := by
  have hx : l2Guard_good (.mk 1 1 []) := trivial
  have h := dsel_ok (good := l2Guard_gd) (x0 := ((.mk 1 1 [] : Tree), l2Guard_enc (.mk 1 1 []))) ⟨hx, l2Guard_flat _⟩ (K := 5) (by omega) (p := p) c
  exact ⟨⟨h.1.1, h.2.1, h.2.2⟩, h.1.2⟩
theorem l2Guard_ok   (p : Int) (c : Any) : l2Guard_good (l2Guard_sel p c).1 ∧ p ≤ (l2Guard_sel p c).2 ∧ (l2Guard_sel p c).2 ≤ p + 5 := (l2Guard_okD  p c).1
theorem l2Guard_ret  (ys : List UInt8) (p : Int) (b : Nat) {e_ : Exit} {S_ : St} (x : Tree) (p' : Int) (he_ : e_ = .ret ∨ e_ = .normal)
    (h1 : (takeRes Try.prog S_ Try.f231.results.toList).1 ∧ dat (resD (takeRes Try.prog S_ Try.f231.results.toList).2.1) = l2Guard_enc x ∧ (takeRes Try.prog S_ Try.f231.results.toList).2.2.H b = some [li cY ys, .int .i64 p']) (hg : l2Guard_good x) (h2 : p ≤ p' ∧ p' ≤ p + 5) :
    retR Try.prog Try.f231 (fun c => ((l2Guard_selD p c).1.2, one b [li cY ys, .int .i64 (l2Guard_selD p c).2])) e_ S_ :=
  ret_draw (good := l2Guard_gd) (enc := fun x : (Tree) × D => x.2) (cells := fun q => [li cY ys, .int .i64 q]) (x, resD (takeRes Try.prog S_ Try.f231.results.toList).2.1) p' he_ ⟨h1.1, rfl, h1.2.2⟩ ⟨hg, h1.2.1⟩ h2
theorem l2Guard_spec (ys : List UInt8) (p : Int) (b : Nat)  (hl : ys.length ≤ 2000) (h0_ : 0 ≤ p) (hp_ : p + 5 ≤ 1000000)  : SpecR Try.prog 231 [.ptr b 0] (one b [li cY ys, .int .i64 p]) (fun c => ((l2Guard_selD p c).1.2, one b [li cY ys, .int .i64 (l2Guard_selD p c).2])) := by
  refine SpecR.of_walk Try.func231 rfl (by simp [Try.f231]) fun B => ?_
  (repeat' (first
    | refine AW_seq ?_
    | refine AW_region (id := 0) Γe20_ok [] (by kernel_rfl) ?_; simp  [-List.getD_eq_getElem?_getD, -List.drop_one, ↓splitB_true, ↓splitB_false, go_sem]
    | refine AW_region (id := 1) Γe20_ok [] (by kernel_rfl) ?_; simp  [-List.getD_eq_getElem?_getD, -List.drop_one, ↓splitB_true, ↓splitB_false, go_sem, hl, (show 0 ≤ p by omega), (show p ≤ 1000000 by omega), (show 0 ≤ p + 1 by omega), (show p + 1 ≤ 1000000 by omega)]
    | refine AW_region (id := 2) Γe20_ok [] (by kernel_rfl) ?_; simp  [-List.getD_eq_getElem?_getD, -List.drop_one, ↓splitB_true, ↓splitB_false, go_sem, hl]
    | refine AW_region (id := 3) Γe20_ok [] (by kernel_rfl) ?_; simp  [-List.getD_eq_getElem?_getD, -List.drop_one, ↓splitB_true, ↓splitB_false, go_sem, hl, (show 0 ≤ p by omega), (show p ≤ 1000000 by omega), (show 0 ≤ p + 1 by omega), (show p + 1 ≤ 1000000 by omega), (show 0 ≤ p + 1 + 1 by omega), (show p + 1 + 1 ≤ 1000000 by omega)]; try (refine AW_shut 3 ?_; simp [go_sem])
    | refine AW_region (id := 4) Γe20_ok [] (by kernel_rfl) ?_; simp  [-List.getD_eq_getElem?_getD, -List.drop_one, ↓splitB_true, ↓splitB_false, go_sem, hl, (show 0 ≤ p by omega), (show p ≤ 1000000 by omega), (show 0 ≤ p + 1 by omega), (show p + 1 ≤ 1000000 by omega), (show 0 ≤ p + 1 + 1 by omega), (show p + 1 + 1 ≤ 1000000 by omega), (show 0 ≤ p + 1 + 1 + 1 by omega), (show p + 1 + 1 + 1 ≤ 1000000 by omega)]; try (refine AW_shut 4 ?_; simp [go_sem])
    | refine AW_region_snap (id := 5) Γe20_ok mixed [] [] [] (by kernel_rfl) (by kernel_rfl) (by simp [-List.getD_eq_getElem?_getD, -List.drop_one, ↓splitB_true, ↓splitB_false, go_sem, hl, (show 0 ≤ p by omega), (show p ≤ 1000000 by omega), (show 0 ≤ p + 1 by omega), (show p + 1 ≤ 1000000 by omega), (show 0 ≤ p + 1 + 1 by omega), (show p + 1 + 1 ≤ 1000000 by omega), (show 0 ≤ p + 1 + 1 + 1 by omega), (show p + 1 + 1 + 1 ≤ 1000000 by omega), (show 0 ≤ p + 1 + 1 + 1 + 1 by omega), (show p + 1 + 1 + 1 + 1 ≤ 1000000 by omega)]) (by simp [-List.getD_eq_getElem?_getD, -List.drop_one, ↓splitB_true, ↓splitB_false, go_sem, hl, (show 0 ≤ p by omega), (show p ≤ 1000000 by omega), (show 0 ≤ p + 1 by omega), (show p + 1 ≤ 1000000 by omega), (show 0 ≤ p + 1 + 1 by omega), (show p + 1 + 1 ≤ 1000000 by omega), (show 0 ≤ p + 1 + 1 + 1 by omega), (show p + 1 + 1 + 1 ≤ 1000000 by omega), (show 0 ≤ p + 1 + 1 + 1 + 1 by omega), (show p + 1 + 1 + 1 + 1 ≤ 1000000 by omega)]) ?_; simp  [-List.getD_eq_getElem?_getD, -List.drop_one, ↓splitB_true, ↓splitB_false, go_sem, hl, (show 0 ≤ p by omega), (show p ≤ 1000000 by omega), (show 0 ≤ p + 1 by omega), (show p + 1 ≤ 1000000 by omega), (show 0 ≤ p + 1 + 1 by omega), (show p + 1 + 1 ≤ 1000000 by omega), (show 0 ≤ p + 1 + 1 + 1 by omega), (show p + 1 + 1 + 1 ≤ 1000000 by omega), (show 0 ≤ p + 1 + 1 + 1 + 1 by omega), (show p + 1 + 1 + 1 + 1 ≤ 1000000 by omega)]; try (refine AW_shut 5 ?_; simp [go_sem])
    | refine AW_region (id := 6) Γe20_ok [] (by kernel_rfl) ?_; simp  [-List.getD_eq_getElem?_getD, -List.drop_one, ↓splitB_true, ↓splitB_false, go_sem, hl, (show 0 ≤ p by omega), (show p ≤ 1000000 by omega), (show 0 ≤ p + 1 by omega), (show p + 1 ≤ 1000000 by omega), (show 0 ≤ p + 1 + 1 by omega), (show p + 1 + 1 ≤ 1000000 by omega), (show 0 ≤ p + 1 + 1 + 1 by omega), (show p + 1 + 1 + 1 ≤ 1000000 by omega), (show 0 ≤ p + 1 + 1 + 1 + 1 by omega), (show p + 1 + 1 + 1 + 1 ≤ 1000000 by omega), (show 0 ≤ p + 1 + 1 + 1 + 1 + 1 by omega), (show p + 1 + 1 + 1 + 1 + 1 ≤ 1000000 by omega)]
    | refine AW_region (id := 7) Γe20_ok [] (by kernel_rfl) ?_; simp  [-List.getD_eq_getElem?_getD, -List.drop_one, ↓splitB_true, ↓splitB_false, go_sem]
    | refine AW_region (id := 8) Γe20_ok [] (by kernel_rfl) ?_; simp  [-List.getD_eq_getElem?_getD, -List.drop_one, ↓splitB_true, ↓splitB_false, go_sem]
    | refine AW_condA (c := .tmp 8) ?_; simp [-List.getD_eq_getElem?_getD, -List.drop_one, ↓splitB_true, ↓splitB_false, go_sem]; try first | (refine ⟨?_, ?_⟩ <;> change AW _ _ _ _ _ _) | (refine ⟨fun c8 => ?_, fun c8 => ?_⟩ <;> (try simp [B_iff, B_not] at c8))
    | refine AW_condA (c := .tmp 26) ?_; simp [-List.getD_eq_getElem?_getD, -List.drop_one, ↓splitB_true, ↓splitB_false, go_sem]; try first | (refine ⟨?_, ?_⟩ <;> change AW _ _ _ _ _ _) | (refine ⟨fun c26 => ?_, fun c26 => ?_⟩ <;> (try simp [B_iff, B_not] at c26))
    | (refine AW_block ?_)
    | (refine AW_exit ?_; simp [-List.getD_eq_getElem?_getD, -List.drop_one, ↓splitB_true, ↓splitB_false, go_sem])
    | (refine AW_skip ?_; simp [-List.getD_eq_getElem?_getD, -List.drop_one, ↓splitB_true, ↓splitB_false, go_sem])
    | (refine AW_ret ?_; try simp [-List.getD_eq_getElem?_getD, -List.drop_one, ↓splitB_true, ↓splitB_false, go_sem, Try.results231])
    | (intro hx; change AW _ _ _ _ _ _)
    | (intro hx; change retR _ _ _ _ _)
    | (refine ⟨?_, ?_⟩ <;> change AW _ _ _ _ _ _)
    | (intro hx; refine ⟨fun hs => ?_, fun hs => ?_⟩)
    | (refine ⟨fun hs => ?_, fun hs => ?_⟩)
    | (refine ⟨?_, fun hs => ?_⟩; change AW _ _ _ _ _ _)
    | (refine ⟨fun hs => ?_, ?_⟩; rotate_left; change AW _ _ _ _ _ _; rotate_left)))
  all_goals (first
    | (refine l2Guard_ret _ _ _ (.mk 1 1 []) (p + 1) ?_ ?_ ?_ ?_; (first | exact Or.inl rfl | exact Or.inr rfl); (focus (simp [-List.getD_eq_getElem?_getD, -List.drop_one, ↓splitB_true, ↓splitB_false, go_sem, Try.results231]; done)); (focus ((trivial); done)); (focus (refine ⟨?_, ?_⟩ <;> omega)))
    | (refine l2Guard_ret _ _ _ (.mk 3 0 [.mk (numI ys (p + 1 + 1 + 1) [6, 7, 6]) 0 [.mk 2 (numI ys (p + 1) [0, 1, 0, 2]) [], .mk 1 (pkI ys (p + 1 + 1) 3) []]]) (p + 1 + 1 + 1 + 1 + 1) ?_ ?_ ?_ ?_; (first | exact Or.inl rfl | exact Or.inr rfl); (focus (simp [-List.getD_eq_getElem?_getD, -List.drop_one, ↓splitB_true, ↓splitB_false, go_sem, Try.results231, li, cat_cons, cX_mk, dat, datL]; done)); (focus ((trivial); done)); (focus (refine ⟨?_, ?_⟩ <;> omega)))
    | (refine l2Guard_ret _ _ _ (.mk (numI ys (p + 1 + 1 + 1) [6, 7, 6]) 0 [.mk 2 (numI ys (p + 1) [0, 1, 0, 2]) [], .mk 1 (pkI ys (p + 1 + 1) 3) []]) (p + 1 + 1 + 1 + 1 + 1) ?_ ?_ ?_ ?_; (first | exact Or.inl rfl | exact Or.inr rfl); (focus (simp [-List.getD_eq_getElem?_getD, -List.drop_one, ↓splitB_true, ↓splitB_false, go_sem, Try.results231, li, cat_cons, cX_mk, dat, datL]; done)); (focus ((trivial); done)); (focus (refine ⟨?_, ?_⟩ <;> omega)))
    | skip)
noncomputable def l2GuardC : Con := .rel fun args H => match args with
  | [.ptr b 0] => match H b with
    | some [.list m cs, .int .i64 p] => ((Is cY m cs) ∧ (m ≤ 2000) ∧ (0 ≤ p) ∧ (p + 5 ≤ 1000000), fun c => (l2Guard_enc (l2Guard_sel p c).1, upd H b (some [.list m cs, .int .i64 (l2Guard_sel p c).2])))
    | _ => (False, fun _ => (.any, H))
  | _ => (False, fun _ => (.any, H))
attribute [go_sem] l2GuardC
theorem l2GuardC_ok : ConOk Try.prog 231 l2GuardC := by
  refine ⟨callable Try.func231 (by decide) rfl, fun args H h => ?_⟩
  revert h
  dsimp only
  split
  · split
    · rename_i hH
      intro h
      obtain ⟨⟨ys, rfl, rfl⟩, hl, h0_, hp_⟩ := h
      try simp only [de_cat] at *
      exact SpecR.enc ((l2Guard_spec ys _ _ hl h0_ hp_ ).frame hH).shut fun c => Prod.ext (l2Guard_okD  _ _).2.symm rfl
    · intro h; exact h.elim
  · intro h
    exact h.elim
noncomputable def Γe21 : FuncId → Con := ext Γe20 231 l2GuardC
attribute [go_sem] Γe21
theorem Γe21_ok : ∀ g, ConOk Try.prog g (Γe21 g) := ext_ok Γe20_ok l2GuardC_ok

/-- What a random expression costs. -/
def kR : Nat → Int
  | 0 => 3
  | n + 1 => 3 + 2 * kR n
theorem kR_ge : ∀ n, 3 ≤ kR n
  | 0 => by simp [kR]
  | n + 1 => by have := kR_ge n; simp only [kR]; omega
theorem kR_nn (n : Nat) : 0 ≤ kR n := by have := kR_ge n; omega
theorem kR_step {d : Int} (h : 2 ≤ d) : kR d.toNat = 3 + 2 * kR (d - 1).toNat := by
  obtain ⟨m, hm⟩ : ∃ m : Nat, d.toNat = m + 1 := ⟨d.toNat - 1, by omega⟩
  rw [hm, show (d - 1).toNat = m by omega]; rfl
@[go_sem] theorem makeD_6 (x : D) : makeD [x] 6 = [x, x, x, x, x, x] := by rw [makeD_one]; rfl
@[go_sem] theorem makeD_7 (x : D) : makeD [x] 7 = [x, x, x, x, x, x, x] := by rw [makeD_one]; rfl

set_option maxHeartbeats 4000000 in

noncomputable def l1Random_enc : Tree → D := sX
attribute [go_sem] l1Random_enc
theorem l1Random_flat (x : Tree) : dat (l1Random_enc x) = l1Random_enc x := by simp [go_sem]
def l1Random_good (d : Int) : Tree → Prop := fun _ => True
def l1Random_gd (d : Int) (x : (Tree) × D) : Prop := l1Random_good d x.1 ∧ dat x.2 = l1Random_enc x.1
noncomputable def l1Random_selD (d : Int) (p : Int) (c : Any) : ((Tree) × D) × Int := dsel (l1Random_gd d) ((.mk 1 1 [] : Tree), l1Random_enc (.mk 1 1 [])) (kR d.toNat) p c
noncomputable def l1Random_sel (d : Int) (p : Int) (c : Any) : (Tree) × Int := ((l1Random_selD d p c).1.1, (l1Random_selD d p c).2)
theorem l1Random_okD (d : Int) (hd : d ≤ 4) (p : Int) (c : Any) : (l1Random_good d (l1Random_sel d p c).1 ∧ p ≤ (l1Random_sel d p c).2 ∧ (l1Random_sel d p c).2 ≤ p + (kR d.toNat)) ∧ dat (l1Random_selD d p c).1.2 = l1Random_enc (l1Random_sel d p c).1 := by
  have hx : l1Random_good d (.mk 1 1 []) := trivial
  have h := dsel_ok (good := l1Random_gd d) (x0 := ((.mk 1 1 [] : Tree), l1Random_enc (.mk 1 1 []))) ⟨hx, l1Random_flat _⟩ (K := (kR d.toNat)) (kR_nn _) (p := p) c
  exact ⟨⟨h.1.1, h.2.1, h.2.2⟩, h.1.2⟩
theorem l1Random_ok (d : Int) (hd : d ≤ 4) (p : Int) (c : Any) : l1Random_good d (l1Random_sel d p c).1 ∧ p ≤ (l1Random_sel d p c).2 ∧ (l1Random_sel d p c).2 ≤ p + (kR d.toNat) := (l1Random_okD d hd p c).1
theorem l1Random_ret (d : Int) (ys : List UInt8) (p : Int) (b : Nat) {e_ : Exit} {S_ : St} (x : Tree) (p' : Int) (he_ : e_ = .ret ∨ e_ = .normal)
    (h1 : (takeRes Try.prog S_ Try.f248.results.toList).1 ∧ dat (resD (takeRes Try.prog S_ Try.f248.results.toList).2.1) = l1Random_enc x ∧ (takeRes Try.prog S_ Try.f248.results.toList).2.2.H b = some [li cY ys, .int .i64 p']) (hg : l1Random_good d x) (h2 : p ≤ p' ∧ p' ≤ p + (kR d.toNat)) :
    retR Try.prog Try.f248 (fun c => ((l1Random_selD d p c).1.2, one b [li cY ys, .int .i64 (l1Random_selD d p c).2])) e_ S_ :=
  ret_draw (good := l1Random_gd d) (enc := fun x : (Tree) × D => x.2) (cells := fun q => [li cY ys, .int .i64 q]) (x, resD (takeRes Try.prog S_ Try.f248.results.toList).2.1) p' he_ ⟨h1.1, rfl, h1.2.2⟩ ⟨hg, h1.2.1⟩ h2
noncomputable def l1RandomCn (n_ : Nat) : Con := .rel fun args H => match args with
  | [.ptr b 0, .int .i64 d] => match H b with
    | some [.list m cs, .int .i64 p] => ((Is cY m cs) ∧ (m ≤ 2000) ∧ (0 ≤ p) ∧ (p + (kR d.toNat) ≤ 1000000) ∧ (d ≤ 4) ∧ (d.toNat < n_), fun c => (l1Random_enc (l1Random_sel d p c).1, upd H b (some [.list m cs, .int .i64 (l1Random_sel d p c).2])))
    | _ => (False, fun _ => (.any, H))
  | _ => (False, fun _ => (.any, H))
attribute [go_sem] l1RandomCn
theorem l1RandomCn_ok {n_ : Nat} (ih : ∀ (ys : List UInt8) (p : Int) (b : Nat) (d : Int) (hl : ys.length ≤ 2000) (h0_ : 0 ≤ p) (hp_ : p + (kR d.toNat) ≤ 1000000) (hd : d ≤ 4) (hm_ : d.toNat < n_), SpecR Try.prog 248 [.ptr b 0, .int .i64 d] (one b [li cY ys, .int .i64 p]) (fun c => ((l1Random_selD d p c).1.2, one b [li cY ys, .int .i64 (l1Random_selD d p c).2]))) : ConOk Try.prog 248 (l1RandomCn n_) := by
  refine ⟨callable Try.func248 (by decide) rfl, fun args H h => ?_⟩
  revert h
  dsimp only
  split
  · split
    · rename_i hH
      intro h
      obtain ⟨⟨ys, rfl, rfl⟩, hl, h0_, hp_, hd, hm_⟩ := h
      try simp only [de_cat] at *
      exact SpecR.enc ((ih ys _ _ _ hl h0_ hp_ hd hm_).frame hH).shut fun c => Prod.ext (l1Random_okD _ hd _ _).2.symm rfl
    · intro h; exact h.elim
  · intro h
    exact h.elim
theorem l1Random_rec : ∀ (n_ : Nat), ∀ (ys : List UInt8) (p : Int) (b : Nat) (d : Int) (hl : ys.length ≤ 2000) (h0_ : 0 ≤ p) (hp_ : p + (kR d.toNat) ≤ 1000000) (hd : d ≤ 4) (hm_ : d.toNat < n_), SpecR Try.prog 248 [.ptr b 0, .int .i64 d] (one b [li cY ys, .int .i64 p]) (fun c => ((l1Random_selD d p c).1.2, one b [li cY ys, .int .i64 (l1Random_selD d p c).2])) := by
  intro n_
  induction n_ with
  | zero => intros; omega
  | succ n_ ih =>
  intro ys p b d hl h0_ hp_ hd hm_
  have Γr_ok := ext_ok Γe21_ok (l1RandomCn_ok ih)
  refine SpecR.of_walk Try.func248 rfl (by simp [Try.f248]) fun B => ?_
  have hk3 := kR_ge d.toNat; by_cases hd2 : d < 2
  all_goals (repeat' (first
    | refine AW_seq ?_
    | refine AW_region (id := 0) Γr_ok [] (by kernel_rfl) ?_; simp  [-List.getD_eq_getElem?_getD, -List.drop_one, ↓splitB_true, ↓splitB_false, go_sem]
    | refine AW_region (id := 1) Γr_ok [10] (by kernel_rfl) ?_; simp  [-List.getD_eq_getElem?_getD, -List.drop_one, ↓splitB_true, ↓splitB_false, go_sem, hd2, hl, (show 0 ≤ p by omega), (show p ≤ 1000000 by omega), (show 0 ≤ p + 1 by omega), (show p + 1 ≤ 1000000 by omega)]; try (refine ⟨fun s1a => ?_, fun s1a => ?_⟩ <;> (try simp [B_iff, B_not] at s1a) <;> try (refine ⟨fun s1b => ?_, fun s1b => ?_⟩ <;> (try simp [B_iff, B_not] at s1b)))
    | refine AW_region (id := 2) Γr_ok [] (by kernel_rfl) ?_; simp  [-List.getD_eq_getElem?_getD, -List.drop_one, ↓splitB_true, ↓splitB_false, go_sem, hl, (show 0 ≤ p by omega), (show p ≤ 1000000 by omega), (show 0 ≤ p + 1 by omega), (show p + 1 ≤ 1000000 by omega), (show 0 ≤ p + 1 + 1 by omega), (show p + 1 + 1 ≤ 1000000 by omega)]
    | refine AW_region (id := 3) Γr_ok [] (by kernel_rfl) ?_; simp  [-List.getD_eq_getElem?_getD, -List.drop_one, ↓splitB_true, ↓splitB_false, go_sem, hl, (show 0 ≤ p by omega), (show p ≤ 1000000 by omega), (show 0 ≤ p + 1 by omega), (show p + 1 ≤ 1000000 by omega), (show 0 ≤ p + 1 + 1 by omega), (show p + 1 + 1 ≤ 1000000 by omega), (show 0 ≤ p + 1 + 1 + 1 by omega), (show p + 1 + 1 + 1 ≤ 1000000 by omega)]
    | refine AW_region (id := 4) Γr_ok [] (by kernel_rfl) ?_; simp  [-List.getD_eq_getElem?_getD, -List.drop_one, ↓splitB_true, ↓splitB_false, go_sem, hl, (show 0 ≤ p by omega), (show p ≤ 1000000 by omega), (show 0 ≤ p + 1 by omega), (show p + 1 ≤ 1000000 by omega), (show 0 ≤ p + 1 + 1 by omega), (show p + 1 + 1 ≤ 1000000 by omega), (show 0 ≤ p + 1 + 1 + 1 by omega), (show p + 1 + 1 + 1 ≤ 1000000 by omega)]
    | refine AW_region (id := 5) Γr_ok [] (by kernel_rfl) ?_; simp  [-List.getD_eq_getElem?_getD, -List.drop_one, ↓splitB_true, ↓splitB_false, go_sem, hl, (show 0 ≤ p by omega), (show p ≤ 1000000 by omega), (show 0 ≤ p + 1 by omega), (show p + 1 ≤ 1000000 by omega), (show 0 ≤ p + 1 + 1 by omega), (show p + 1 + 1 ≤ 1000000 by omega), (show 0 ≤ p + 1 + 1 + 1 by omega), (show p + 1 + 1 + 1 ≤ 1000000 by omega)]; try (generalize numI ys (p + 1) [6, 8, 7, 4, 3, 5, 9] = kk at *)
    | refine AW_region (id := 6) Γr_ok [] (by kernel_rfl) ?_; simp  [-List.getD_eq_getElem?_getD, -List.drop_one, ↓splitB_true, ↓splitB_false, go_sem]; try ((have hks := kR_step (d := d) (by omega)); (have hM := kR_ge (d - 1).toNat); (have hd1 : (d - 1).toNat = d.toNat - 1 := (by omega)); (rw [hd1] at hks hM); (refine AW_boxNil2 6 3 rfl ?_); (refine AW_matBox 6 rfl fun qb hqb => ?_); (have hbq : ¬ b = qb := (by rintro rfl; simp [go_sem] at hqb)); (clear hqb); (refine AW_gen (fun H1 => H1 b = some [.list ys.length (cat cY ys), .int .i64 (p + 1 + 1)] ∧ H1 qb = some [.int .i64 kk, .int .i64 0, .fr 3 0 []]) ⟨by simp [go_sem, hbq], by simp [go_sem, hbq]⟩ fun H1 ⟨w1, w2⟩ => ?_))
    | refine AW_region (id := 7) Γr_ok [] (by kernel_rfl) ?_; simp  [-List.getD_eq_getElem?_getD, -List.drop_one, ↓splitB_true, ↓splitB_false, go_sem]; try (have hal := ar_le kk; generalize ar kk = aa at *)
    | refine AW_region (id := 8) Γr_ok [] (by kernel_rfl) ?_; simp  [-List.getD_eq_getElem?_getD, -List.drop_one, ↓splitB_true, ↓splitB_false, go_sem]
    | ((refine AW_matCell qb 2 (all := [.int .i64 kk, .int .i64 0, .fr 3 q.1.length (cat cX q.1)]) g6 rfl fun u cu ju hu hcu hdu => ?_); (have ub : ¬ u = b := (by intro e; rw [e] at hu; dsimp only at hu; rw [g5] at hu; cases hu)); (have uq : ¬ u = qb := (by intro e; rw [e] at hu; dsimp only at hu; rw [g6] at hu; cases hu)); (clear hu)); refine AW_region_snap (id := 10) Γr_ok mixed [(qb, [.int .i64 kk, .int .i64 0, .sl u 3 0 q.1.length cu])] [] [] (by kernel_rfl) (by kernel_rfl) (by simp [-List.getD_eq_getElem?_getD, -List.drop_one, ↓splitB_true, ↓splitB_false, go_sem, g5, hl, wrap_in (x := d - 1) (by omega) (by omega), hbq, Ne.symm hbq, ub, uq, Ne.symm ub, Ne.symm uq, (show 0 ≤ q.2.2.1 by omega), (show d - 1 ≤ 4 by omega), (show d.toNat - 1 < n_ by omega), (show q.1.length ≤ 9223372036854775806 by omega), (show 2 * (q.1.length + 1) * 40 ≤ 281474976710656 by omega), (show q.2.2.1 + kR (d.toNat - 1) ≤ 1000000 by omega), hdu]) (by simp [-List.getD_eq_getElem?_getD, -List.drop_one, ↓splitB_true, ↓splitB_false, go_sem, g5, hl, wrap_in (x := d - 1) (by omega) (by omega), hbq, Ne.symm hbq, ub, uq, Ne.symm ub, Ne.symm uq, (show 0 ≤ q.2.2.1 by omega), (show d - 1 ≤ 4 by omega), (show d.toNat - 1 < n_ by omega), (show q.1.length ≤ 9223372036854775806 by omega), (show 2 * (q.1.length + 1) * 40 ≤ 281474976710656 by omega), (show q.2.2.1 + kR (d.toNat - 1) ≤ 1000000 by omega), hdu]) ?_; simp  [-List.getD_eq_getElem?_getD, -List.drop_one, ↓splitB_true, ↓splitB_false, go_sem, g5, hl, wrap_in (x := d - 1) (by omega) (by omega), hbq, Ne.symm hbq, ub, uq, Ne.symm ub, Ne.symm uq, (show 0 ≤ q.2.2.1 by omega), (show d - 1 ≤ 4 by omega), (show d.toNat - 1 < n_ by omega), (show q.1.length ≤ 9223372036854775806 by omega), (show 2 * (q.1.length + 1) * 40 ≤ 281474976710656 by omega), (show q.2.2.1 + kR (d.toNat - 1) ≤ 1000000 by omega), hdu]; try (intro c10; have z0 := l1Random_ok (d - 1) (by omega) q.2.2.1 c10; generalize l1Random_sel (d - 1) q.2.2.1 c10 = z at *; obtain ⟨-, z1, z2⟩ := z0; rw [hd1] at z2; obtain ⟨t, p2⟩ := z; dsimp only at z1 z2; refine AW_gen (fun H2 => H2 b = some [.list ys.length (cat cY ys), .int .i64 p2] ∧ H2 qb = some [.int .i64 kk, .int .i64 0, .fr 3 (q.1 ++ [t]).length (cat cX (q.1 ++ [t]))]) ⟨by simp [upd, hbq, Ne.symm hbq, ub, uq, Ne.symm ub, Ne.symm uq], by simp [upd, hbq, Ne.symm hbq, ub, uq, Ne.symm ub, Ne.symm uq, cat_append, cat_one, cX_eq, li]⟩ fun H2 ⟨y1, y2⟩ => ?_)
    | refine AW_region (id := 9) Γr_ok [] (by kernel_rfl) ?_; simp  [-List.getD_eq_getElem?_getD, -List.drop_one, ↓splitB_true, ↓splitB_false, go_sem, wrap_in (x := q.2.1 - 1) (by omega) (by omega)]
    | refine AW_region (id := 11) Γr_ok [] (by kernel_rfl) ?_; simp  [-List.getD_eq_getElem?_getD, -List.drop_one, ↓splitB_true, ↓splitB_false, go_sem, g6]
    | refine AW_condA (c := .tmp 14) ?_; simp [-List.getD_eq_getElem?_getD, -List.drop_one, ↓splitB_true, ↓splitB_false, go_sem]; try first | (refine ⟨?_, ?_⟩ <;> change AW _ _ _ _ _ _) | (refine ⟨fun c14 => ?_, fun c14 => ?_⟩ <;> (try simp [B_iff, B_not] at c14))
    | refine AW_condA (c := .tmp 17) ?_; simp [-List.getD_eq_getElem?_getD, -List.drop_one, ↓splitB_true, ↓splitB_false, go_sem]; try first | (refine ⟨?_, ?_⟩ <;> change AW _ _ _ _ _ _) | (refine ⟨fun c17 => ?_, fun c17 => ?_⟩ <;> (try simp [B_iff, B_not] at c17))
    | refine AW_condA (c := .tmp 33) ?_; simp [-List.getD_eq_getElem?_getD, -List.drop_one, ↓splitB_true, ↓splitB_false, go_sem]; try first | (refine ⟨?_, ?_⟩ <;> change AW _ _ _ _ _ _) | (refine ⟨fun c33 => ?_, fun c33 => ?_⟩ <;> (try simp [B_iff, B_not] at c33))
    | (refine AW_block (id := 0) (AW_loop (ι := List Tree × Int × Int × Hp) (fun q : List Tree × Int × Int × Hp => ⟨(upd (upd (upd (upd (upd (fun _ => .any) 0 (.ptr b 0)) 1 (.int .i64 d)) 4 (.box [.int .i64 0, .int .i64 0, .nil])) 6 (.ptr qb 0)) 7 (.int .i64 q.2.1)), q.2.2.2⟩) (fun q => q.2.1 ≤ 2 ∧ (q.1.length : Int) + q.2.1 ≤ 2 ∧ p ≤ q.2.2.1 ∧ (q.2.1 ≤ 2 ∧ q.2.2.1 ≤ p + 3 ∨ q.2.1 ≤ 1 ∧ q.2.2.1 ≤ p + 3 + kR (d.toNat - 1) ∨ q.2.1 ≤ 0 ∧ q.2.2.1 ≤ p + 3 + 2 * kR (d.toNat - 1)) ∧ q.2.2.2 b = some [.list ys.length (cat cY ys), .int .i64 q.2.2.1] ∧ q.2.2.2 qb = some [.int .i64 kk, .int .i64 0, .fr 3 q.1.length (cat cX q.1)]) (fun q => q.2.1.toNat) (([], aa, p + 1 + 1, H1)) ?_ ?_ ?_); exact ⟨by dsimp only; omega, by simpa using hal, by dsimp only; omega, by dsimp only; omega, by dsimp only; exact w1, by dsimp only; exact w2⟩; ((repeat' (first | exact sub_noneH (by assumption) | exact sub_none | refine sub_upd ?_ ?_ | refine sub_noneE ?_)) <;> simp [-List.getD_eq_getElem?_getD, -List.drop_one, ↓splitB_true, ↓splitB_false, go_sem]); rintro q ⟨g1, g2, g3, g4, g5, g6⟩)
    | (refine ⟨(q.1 ++ [t], q.2.1 - 1, p2, H2), ⟨by dsimp only; omega, by simp; omega, by dsimp only; omega, by dsimp only; omega, y1, y2⟩, by first | omega | (simp; done) | (simp; omega), ?_⟩; ((repeat' (first | exact sub_noneH (by assumption) | exact sub_none | refine sub_upd ?_ ?_ | refine sub_noneE ?_)) <;> simp [-List.getD_eq_getElem?_getD, -List.drop_one, ↓splitB_true, ↓splitB_false, go_sem, ]))
    | (refine AW_block ?_)
    | (refine AW_exit ?_; simp [-List.getD_eq_getElem?_getD, -List.drop_one, ↓splitB_true, ↓splitB_false, go_sem])
    | (refine AW_skip ?_; simp [-List.getD_eq_getElem?_getD, -List.drop_one, ↓splitB_true, ↓splitB_false, go_sem])
    | (refine AW_ret ?_; try simp [-List.getD_eq_getElem?_getD, -List.drop_one, ↓splitB_true, ↓splitB_false, go_sem, Try.results248])
    | (intro hx; change AW _ _ _ _ _ _)
    | (intro hx; change retR _ _ _ _ _)
    | (refine ⟨?_, ?_⟩ <;> change AW _ _ _ _ _ _)
    | (intro hx; refine ⟨fun hs => ?_, fun hs => ?_⟩)
    | (refine ⟨fun hs => ?_, fun hs => ?_⟩)
    | (refine ⟨?_, fun hs => ?_⟩; change AW _ _ _ _ _ _)
    | (refine ⟨fun hs => ?_, ?_⟩; rotate_left; change AW _ _ _ _ _ _; rotate_left)
    | ((fail_if_success change retR _ _ _ _ _); (exfalso; omega))))
  all_goals (first
    | (refine l1Random_ret _ _ _ _ (.mk 1 (pkI ys (p + 1) 4) []) (p + 1 + 1) ?_ ?_ ?_ ?_; (first | exact Or.inl rfl | exact Or.inr rfl); (focus (simp [-List.getD_eq_getElem?_getD, -List.drop_one, ↓splitB_true, ↓splitB_false, go_sem, Try.results248]; done)); (focus ((trivial); done)); (focus (refine ⟨?_, ?_⟩ <;> omega)))
    | (refine l1Random_ret _ _ _ _ (.mk 1 (pkI ys (p + 1 + 1) 4) []) (p + 1 + 1 + 1) ?_ ?_ ?_ ?_; (first | exact Or.inl rfl | exact Or.inr rfl); (focus (simp [-List.getD_eq_getElem?_getD, -List.drop_one, ↓splitB_true, ↓splitB_false, go_sem, Try.results248]; done)); (focus ((trivial); done)); (focus (refine ⟨?_, ?_⟩ <;> omega)))
    | (refine l1Random_ret _ _ _ _ (.mk 2 (numI ys (p + 1) [0, 1, 0, 2]) []) (p + 1 + 1) ?_ ?_ ?_ ?_; (first | exact Or.inl rfl | exact Or.inr rfl); (focus (simp [-List.getD_eq_getElem?_getD, -List.drop_one, ↓splitB_true, ↓splitB_false, go_sem, Try.results248]; done)); (focus ((trivial); done)); (focus (refine ⟨?_, ?_⟩ <;> omega)))
    | (refine l1Random_ret _ _ _ _ (.mk 2 (numI ys (p + 1 + 1) [0, 1, 0, 2]) []) (p + 1 + 1 + 1) ?_ ?_ ?_ ?_; (first | exact Or.inl rfl | exact Or.inr rfl); (focus (simp [-List.getD_eq_getElem?_getD, -List.drop_one, ↓splitB_true, ↓splitB_false, go_sem, Try.results248]; done)); (focus ((trivial); done)); (focus (refine ⟨?_, ?_⟩ <;> omega)))
    | (refine l1Random_ret _ _ _ _ (.mk kk 0 q.1) (q.2.2.1) ?_ ?_ ?_ ?_; (first | exact Or.inl rfl | exact Or.inr rfl); (focus (simp [-List.getD_eq_getElem?_getD, -List.drop_one, ↓splitB_true, ↓splitB_false, go_sem, Try.results248, li, dat, datL_map, hbq, g5]; done)); (focus ((trivial); done)); (focus (refine ⟨?_, ?_⟩ <;> omega)))
    | skip)
theorem l1Random_spec (ys : List UInt8) (p : Int) (b : Nat) (d : Int) (hl : ys.length ≤ 2000) (h0_ : 0 ≤ p) (hp_ : p + (kR d.toNat) ≤ 1000000) (hd : d ≤ 4) : SpecR Try.prog 248 [.ptr b 0, .int .i64 d] (one b [li cY ys, .int .i64 p]) (fun c => ((l1Random_selD d p c).1.2, one b [li cY ys, .int .i64 (l1Random_selD d p c).2])) := l1Random_rec (d.toNat + 1) ys p b d hl h0_ hp_ hd (by omega)
noncomputable def l1RandomC : Con := .rel fun args H => match args with
  | [.ptr b 0, .int .i64 d] => match H b with
    | some [.list m cs, .int .i64 p] => ((Is cY m cs) ∧ (m ≤ 2000) ∧ (0 ≤ p) ∧ (p + (kR d.toNat) ≤ 1000000) ∧ (d ≤ 4), fun c => (l1Random_enc (l1Random_sel d p c).1, upd H b (some [.list m cs, .int .i64 (l1Random_sel d p c).2])))
    | _ => (False, fun _ => (.any, H))
  | _ => (False, fun _ => (.any, H))
attribute [go_sem] l1RandomC
theorem l1RandomC_ok : ConOk Try.prog 248 l1RandomC := by
  refine ⟨callable Try.func248 (by decide) rfl, fun args H h => ?_⟩
  revert h
  dsimp only
  split
  · split
    · rename_i hH
      intro h
      obtain ⟨⟨ys, rfl, rfl⟩, hl, h0_, hp_, hd⟩ := h
      try simp only [de_cat] at *
      exact SpecR.enc ((l1Random_spec ys _ _ _ hl h0_ hp_ hd).frame hH).shut fun c => Prod.ext (l1Random_okD _ hd _ _).2.symm rfl
    · intro h; exact h.elim
  · intro h
    exact h.elim
noncomputable def Γe22 : FuncId → Con := ext Γe21 248 l1RandomC
attribute [go_sem] Γe22
theorem Γe22_ok : ∀ g, ConOk Try.prog g (Γe22 g) := ext_ok Γe21_ok l1RandomC_ok

theorem kR_le {d : Int} (h : d ≤ 4) : kR d.toNat ≤ 93 := by
  have : d.toNat = 0 ∨ d.toNat = 1 ∨ d.toNat = 2 ∨ d.toNat = 3 ∨ d.toNat = 4 := by omega
  rcases this with e | e | e | e | e <;> rw [e] <;> decide

noncomputable def l1Expr_enc : Tree → D := sX
attribute [go_sem] l1Expr_enc
theorem l1Expr_flat (x : Tree) : dat (l1Expr_enc x) = l1Expr_enc x := by simp [go_sem]
def l1Expr_good  : Tree → Prop := fun _ => True
def l1Expr_gd  (x : (Tree) × D) : Prop := l1Expr_good x.1 ∧ dat x.2 = l1Expr_enc x.1
noncomputable def l1Expr_selD  (p : Int) (c : Any) : ((Tree) × D) × Int := dsel (l1Expr_gd) ((.mk 1 1 [] : Tree), l1Expr_enc (.mk 1 1 [])) 100 p c
noncomputable def l1Expr_sel  (p : Int) (c : Any) : (Tree) × Int := ((l1Expr_selD p c).1.1, (l1Expr_selD p c).2)
theorem l1Expr_okD   (p : Int) (c : Any) : (l1Expr_good (l1Expr_sel p c).1 ∧ p ≤ (l1Expr_sel p c).2 ∧ (l1Expr_sel p c).2 ≤ p + 100) ∧ dat (l1Expr_selD p c).1.2 = l1Expr_enc (l1Expr_sel p c).1 := by
  have hx : l1Expr_good (.mk 1 1 []) := trivial
  have h := dsel_ok (good := l1Expr_gd) (x0 := ((.mk 1 1 [] : Tree), l1Expr_enc (.mk 1 1 []))) ⟨hx, l1Expr_flat _⟩ (K := 100) (by omega) (p := p) c
  exact ⟨⟨h.1.1, h.2.1, h.2.2⟩, h.1.2⟩
theorem l1Expr_ok   (p : Int) (c : Any) : l1Expr_good (l1Expr_sel p c).1 ∧ p ≤ (l1Expr_sel p c).2 ∧ (l1Expr_sel p c).2 ≤ p + 100 := (l1Expr_okD  p c).1
theorem l1Expr_ret  (ys : List UInt8) (p : Int) (b : Nat) {e_ : Exit} {S_ : St} (x : Tree) (p' : Int) (he_ : e_ = .ret ∨ e_ = .normal)
    (h1 : (takeRes Try.prog S_ Try.f232.results.toList).1 ∧ dat (resD (takeRes Try.prog S_ Try.f232.results.toList).2.1) = l1Expr_enc x ∧ (takeRes Try.prog S_ Try.f232.results.toList).2.2.H b = some [li cY ys, .int .i64 p']) (hg : l1Expr_good x) (h2 : p ≤ p' ∧ p' ≤ p + 100) :
    retR Try.prog Try.f232 (fun c => ((l1Expr_selD p c).1.2, one b [li cY ys, .int .i64 (l1Expr_selD p c).2])) e_ S_ :=
  ret_draw (good := l1Expr_gd) (enc := fun x : (Tree) × D => x.2) (cells := fun q => [li cY ys, .int .i64 q]) (x, resD (takeRes Try.prog S_ Try.f232.results.toList).2.1) p' he_ ⟨h1.1, rfl, h1.2.2⟩ ⟨hg, h1.2.1⟩ h2
theorem l1Expr_spec (ys : List UInt8) (p : Int) (b : Nat)  (hl : ys.length ≤ 2000) (h0_ : 0 ≤ p) (hp_ : p + 100 ≤ 1000000)  : SpecR Try.prog 232 [.ptr b 0] (one b [li cY ys, .int .i64 p]) (fun c => ((l1Expr_selD p c).1.2, one b [li cY ys, .int .i64 (l1Expr_selD p c).2])) := by
  refine SpecR.of_walk Try.func232 rfl (by simp [Try.f232]) fun B => ?_
  have hr := numI_range ys (p := p) (by omega) (xs := [3, 2, 3, 4]) (lo := 2) (hi := 4) (by simp) (by simp); have hk := kR_le (d := numI ys p [3, 2, 3, 4]) (by omega); have hk0 := kR_nn (numI ys p [3, 2, 3, 4]).toNat
  all_goals (repeat' (first
    | refine AW_seq ?_
    | refine AW_region (id := 0) Γe22_ok [] (by kernel_rfl) ?_; simp  [-List.getD_eq_getElem?_getD, -List.drop_one, ↓splitB_true, ↓splitB_false, go_sem]
    | refine AW_region (id := 1) Γe22_ok [] (by kernel_rfl) ?_; simp  [-List.getD_eq_getElem?_getD, -List.drop_one, ↓splitB_true, ↓splitB_false, go_sem, hl, (show 0 ≤ p by omega), (show p ≤ 1000000 by omega), (show 0 ≤ p + 1 by omega), (show p + 1 ≤ 1000000 by omega), (show 0 ≤ p + 1 + 1 by omega), (show p + 1 + 1 ≤ 1000000 by omega), hr, (show p + 1 + kR (numI ys p [3, 2, 3, 4]).toNat ≤ 1000000 by omega)]; try (intro c1; have z0 := l1Random_ok (numI ys p [3, 2, 3, 4]) (by omega) (p + 1) c1; generalize l1Random_sel (numI ys p [3, 2, 3, 4]) (p + 1) c1 = z at *; obtain ⟨-, z1, z2⟩ := z0; obtain ⟨⟨tk, tv, ts⟩, p2⟩ := z; dsimp only at z1 z2; refine AW_shut 3 ?_; simp [go_sem])
    | refine AW_region (id := 2) Γe22_ok [] (by kernel_rfl) ?_; simp  [-List.getD_eq_getElem?_getD, -List.drop_one, ↓splitB_true, ↓splitB_false, go_sem]
    | refine AW_region (id := 3) Γe22_ok [] (by kernel_rfl) ?_; simp  [-List.getD_eq_getElem?_getD, -List.drop_one, ↓splitB_true, ↓splitB_false, go_sem]
    | refine AW_region (id := 4) Γe22_ok [] (by kernel_rfl) ?_; simp  [-List.getD_eq_getElem?_getD, -List.drop_one, ↓splitB_true, ↓splitB_false, go_sem, hl, (show 0 ≤ p2 by omega), (show p2 ≤ 1000000 by omega)]
    | refine AW_condA (c := .tmp 10) ?_; simp [-List.getD_eq_getElem?_getD, -List.drop_one, ↓splitB_true, ↓splitB_false, go_sem]; try first | (refine ⟨?_, ?_⟩ <;> change AW _ _ _ _ _ _) | (refine ⟨fun c10 => ?_, fun c10 => ?_⟩ <;> (try simp [B_iff, B_not] at c10))
    | (refine AW_block ?_)
    | (refine AW_exit ?_; simp [-List.getD_eq_getElem?_getD, -List.drop_one, ↓splitB_true, ↓splitB_false, go_sem])
    | (refine AW_skip ?_; simp [-List.getD_eq_getElem?_getD, -List.drop_one, ↓splitB_true, ↓splitB_false, go_sem])
    | (refine AW_ret ?_; try simp [-List.getD_eq_getElem?_getD, -List.drop_one, ↓splitB_true, ↓splitB_false, go_sem, Try.results232])
    | (intro hx; change AW _ _ _ _ _ _)
    | (intro hx; change retR _ _ _ _ _)
    | (refine ⟨?_, ?_⟩ <;> change AW _ _ _ _ _ _)
    | (intro hx; refine ⟨fun hs => ?_, fun hs => ?_⟩)
    | (refine ⟨fun hs => ?_, fun hs => ?_⟩)
    | (refine ⟨?_, fun hs => ?_⟩; change AW _ _ _ _ _ _)
    | (refine ⟨fun hs => ?_, ?_⟩; rotate_left; change AW _ _ _ _ _ _; rotate_left)))
  all_goals (first
    | (refine l1Expr_ret _ _ _ (.mk tk tv ts) (p2) ?_ ?_ ?_ ?_; (first | exact Or.inl rfl | exact Or.inr rfl); (focus (simp [-List.getD_eq_getElem?_getD, -List.drop_one, ↓splitB_true, ↓splitB_false, go_sem, Try.results232, li, dat, datL_map]; done)); (focus ((trivial); done)); (focus (refine ⟨?_, ?_⟩ <;> omega)))
    | (refine l1Expr_ret _ _ _ (.mk 2 (pkI ys p2 3) []) (p2 + 1) ?_ ?_ ?_ ?_; (first | exact Or.inl rfl | exact Or.inr rfl); (focus (simp [-List.getD_eq_getElem?_getD, -List.drop_one, ↓splitB_true, ↓splitB_false, go_sem, Try.results232]; done)); (focus ((trivial); done)); (focus (refine ⟨?_, ?_⟩ <;> omega)))
    | skip)
noncomputable def l1ExprC : Con := .rel fun args H => match args with
  | [.ptr b 0] => match H b with
    | some [.list m cs, .int .i64 p] => ((Is cY m cs) ∧ (m ≤ 2000) ∧ (0 ≤ p) ∧ (p + 100 ≤ 1000000), fun c => (l1Expr_enc (l1Expr_sel p c).1, upd H b (some [.list m cs, .int .i64 (l1Expr_sel p c).2])))
    | _ => (False, fun _ => (.any, H))
  | _ => (False, fun _ => (.any, H))
attribute [go_sem] l1ExprC
theorem l1ExprC_ok : ConOk Try.prog 232 l1ExprC := by
  refine ⟨callable Try.func232 (by decide) rfl, fun args H h => ?_⟩
  revert h
  dsimp only
  split
  · split
    · rename_i hH
      intro h
      obtain ⟨⟨ys, rfl, rfl⟩, hl, h0_, hp_⟩ := h
      try simp only [de_cat] at *
      exact SpecR.enc ((l1Expr_spec ys _ _ hl h0_ hp_ ).frame hH).shut fun c => Prod.ext (l1Expr_okD  _ _).2.symm rfl
    · intro h; exact h.elim
  · intro h
    exact h.elim
noncomputable def Γe23 : FuncId → Con := ext Γe22 232 l1ExprC
attribute [go_sem] Γe23
theorem Γe23_ok : ∀ g, ConOk Try.prog g (Γe23 g) := ext_ok Γe22_ok l1ExprC_ok

end Go.Proofs.Ytoklpofekcclhaa.Vm


/-
  Draws: edges, systems. No conditions.
-/
namespace Go.Proofs.Ytoklpofekcclhaa.Vm
open Go
set_option linter.unusedVariables false
set_option linter.unusedSimpArgs false
set_option maxRecDepth 200000

section
variable {P : Program} {B : Base} {n : Nat} {S : St} {a : Act} {w : World} {μ : Nat → Nat} {fp : Root → List Nat} {N : Nat}
/-- What the bag holds becomes data. -/
theorem R.shutBag {d : D} {v : Value} (hR : R B n S [d] [v] a w μ fp N) : R B n S [dat d] [v] a w μ (fset fp .bag []) N := by
  have hm : Moves fp (fset fp .bag []) := .drop hR.nod hR.dis fun r => by
    by_cases e : r = .bag
    · subst e; exact .inr (fset_eq ..)
    · exact .inl (fset_ne e)
  refine ⟨hR.len, hR.dfs, hR.frm, hR.jk, hR.own' hm, hm.nod, hm.dis, fun t' => ?_, ?_, ?_, ?_, hR.bT, ?_, hR.bH, hR.rn⟩
  · rw [fset_ne (by simp)]
    exact (hR.tm t').sub hm.sub
  · rw [fset_eq]
    have hb1 := hR.bg
    simp only [RepL] at hb1 ⊢
    obtain ⟨v', vs', f1, f2, e1, e2, r1, r2⟩ := hb1
    obtain ⟨rfl, rfl⟩ : v' = v ∧ vs' = [] := by simpa using e1.symm
    have e3 : fp .bag = f1 := by rw [e2, r2.2, List.append_nil]
    refine ⟨v', [], [], [], rfl, rfl, Rep.dat (I := Im B w fp) (fun b hb => hb.sub hm.sub) (fun b hb => ?_) r1, rfl, rfl⟩
    rw [← e3] at hb
    have ho := hR.own _ b hb
    refine ⟨ho.2, ?_, fun r hr => ?_⟩
    · rcases ho.1 with q | q
      · exact .inl (.inr q)
      · exact .inr q
    · by_cases e : r = .bag
      · subst e; rw [fset_eq] at hr; cases hr
      · rw [fset_ne e] at hr; exact e (hR.dis _ _ b hr hb)
  · intro b cs hc; exact (hR.hp b cs hc).sub hm.sub (by simp [fset]) (by simp [fset])
  · intro b hb; have := hR.hn b hb; simp [fset, this]
  · have := hR.bB
    simp only [bndL] at this ⊢
    exact ⟨bnd_dat this.1, trivial⟩
theorem noTup {E : D} {n : Nat} {cs : List D} (h : dat E = .list n cs) : isTup E = false := by
  cases E <;> first | rfl | (simp [dat] at h)
/-- A named block's cell becomes data. -/
theorem AW_shutCell (b i : Nat) {c : Code} {Q : Exit → St → Prop} {all : List D} {d : D} (hH : S.H b = some all) (hi : all[i]? = some d) (hnt : isTup d = false)
    (h : AW P B n c Q ⟨S.T, upd S.H b (some (all.set i (dat d)))⟩) : AW P B n c Q S := fun a w μ fp N hR => by
  have hil : i < all.length := by rcases Nat.lt_or_ge i all.length with q | q; exact q; rw [List.getElem?_eq_none q] at hi; cases hi
  obtain ⟨v, fp1, hw, hone, h1⟩ := hR.cellOut hH (.inr ⟨i, _, hi, hnt⟩) hi
  obtain ⟨fp3, h3⟩ := h1.shutBag.cellIn (b := b) (i := i) (cs := all.set i .any) (by dsimp only; rw [upd_eq]) (.inr ⟨i, .any, by rw [List.getElem?_set_self hil], rfl⟩) (by simpa using hil) hone hw
  refine h a w μ fp3 N ?_
  have e : upd (upd S.H b (some (all.set i .any))) b (some ((all.set i .any).set i (dat d))) = upd S.H b (some (all.set i (dat d))) := by
    funext x
    by_cases e2 : x = b
    · subst e2; rw [upd_eq, upd_eq, List.set_set]
    · rw [upd_ne e2, upd_ne e2, upd_ne e2]
  dsimp only at h3
  rw [e] at h3
  exact h3
theorem AW_boxNil1N {c : Code} {Q : Exit → St → Prop} (t sz : Nat) {d : D} (hT : S.T t = .box [d, .nil]) (h : AW P B n c Q ⟨upd S.T t (.box [d, .fr sz 0 []]), S.H⟩) : AW P B n c Q S :=
  AW_rebox t hT (fun μ I w vs f hr => by
    simp only [RepL] at hr ⊢
    obtain ⟨v, vs', f1, f2, e1, e2, r1, v2, vs2, g1, g2, e3, e4, r2, r3⟩ := hr
    exact ⟨v, vs', f1, f2, e1, e2, r1, v2, vs2, g1, g2, e3, e4, rep_nilfrN r2, r3⟩) (fun N hb => by simp only [bndL, bnd] at hb ⊢; exact ⟨hb.1, trivial, trivial⟩) h
end
/-- An edge, as a struct. -/
def sE (x : Ed) : D := .st [.int .i64 x.fr, .int .i64 x.to, .int .i64 x.g.k, .int .i64 x.g.v, li cX x.g.ks, .int .i64 x.v, .int .i64 x.e.k, .int .i64 x.e.v, li cX x.e.ks, .int .i64 x.sy]
attribute [go_sem] sE
@[go_sem] theorem makeD_10 (x : D) : makeD [x] 1 = [x] := by rw [makeD_one]; rfl

theorem dat_nilX : dat D.nil = li cX ([] : List Tree) := by simp [dat, li, cat]
theorem dat_liX (es : List Tree) : dat (.list es.length (cat cX es)) = li cX es := by simp [dat, li]
theorem dat_twoX (a b c d : Int) : dat (.fr 3 2 [.int .i64 a, .int .i64 b, .list 0 [], .int .i64 c, .int .i64 d, .list 0 []]) = li cX [.mk a b [], .mk c d []] := by
  simp [dat, datL, li, cat_cons, cX_mk, cat]

noncomputable def l2DrawEdge_enc : Ed → D := sE
attribute [go_sem] l2DrawEdge_enc
theorem l2DrawEdge_flat (x : Ed) : dat (l2DrawEdge_enc x) = l2DrawEdge_enc x := by simp [go_sem]
def l2DrawEdge_good (n : Int) : Ed → Prop := fun _ => True
def l2DrawEdge_gd (n : Int) (x : (Ed) × D) : Prop := l2DrawEdge_good n x.1 ∧ dat x.2 = l2DrawEdge_enc x.1
noncomputable def l2DrawEdge_selD (n : Int) (p : Int) (c : Any) : ((Ed) × D) × Int := dsel (l2DrawEdge_gd n) ((⟨0, 0, .mk 1 1 [], 0, .mk 1 1 [], 0⟩ : Ed), l2DrawEdge_enc (⟨0, 0, .mk 1 1 [], 0, .mk 1 1 [], 0⟩)) 115 p c
noncomputable def l2DrawEdge_sel (n : Int) (p : Int) (c : Any) : (Ed) × Int := ((l2DrawEdge_selD n p c).1.1, (l2DrawEdge_selD n p c).2)
theorem l2DrawEdge_okD (n : Int) (hn : n ≤ 1000000) (p : Int) (c : Any) : (l2DrawEdge_good n (l2DrawEdge_sel n p c).1 ∧ p ≤ (l2DrawEdge_sel n p c).2 ∧ (l2DrawEdge_sel n p c).2 ≤ p + 115) ∧ dat (l2DrawEdge_selD n p c).1.2 = l2DrawEdge_enc (l2DrawEdge_sel n p c).1 := by
  have hx : l2DrawEdge_good n (⟨0, 0, .mk 1 1 [], 0, .mk 1 1 [], 0⟩) := trivial
  have h := dsel_ok (good := l2DrawEdge_gd n) (x0 := ((⟨0, 0, .mk 1 1 [], 0, .mk 1 1 [], 0⟩ : Ed), l2DrawEdge_enc (⟨0, 0, .mk 1 1 [], 0, .mk 1 1 [], 0⟩))) ⟨hx, l2DrawEdge_flat _⟩ (K := 115) (by omega) (p := p) c
  exact ⟨⟨h.1.1, h.2.1, h.2.2⟩, h.1.2⟩
theorem l2DrawEdge_ok (n : Int) (hn : n ≤ 1000000) (p : Int) (c : Any) : l2DrawEdge_good n (l2DrawEdge_sel n p c).1 ∧ p ≤ (l2DrawEdge_sel n p c).2 ∧ (l2DrawEdge_sel n p c).2 ≤ p + 115 := (l2DrawEdge_okD n hn p c).1
theorem l2DrawEdge_ret (n : Int) (ys : List UInt8) (p : Int) (b : Nat) {e_ : Exit} {S_ : St} (x : Ed) (p' : Int) (he_ : e_ = .ret ∨ e_ = .normal)
    (h1 : (takeRes Try.prog S_ Try.f213.results.toList).1 ∧ dat (resD (takeRes Try.prog S_ Try.f213.results.toList).2.1) = l2DrawEdge_enc x ∧ (takeRes Try.prog S_ Try.f213.results.toList).2.2.H b = some [li cY ys, .int .i64 p']) (hg : l2DrawEdge_good n x) (h2 : p ≤ p' ∧ p' ≤ p + 115) :
    retR Try.prog Try.f213 (fun c => ((l2DrawEdge_selD n p c).1.2, one b [li cY ys, .int .i64 (l2DrawEdge_selD n p c).2])) e_ S_ :=
  ret_draw (good := l2DrawEdge_gd n) (enc := fun x : (Ed) × D => x.2) (cells := fun q => [li cY ys, .int .i64 q]) (x, resD (takeRes Try.prog S_ Try.f213.results.toList).2.1) p' he_ ⟨h1.1, rfl, h1.2.2⟩ ⟨hg, h1.2.1⟩ h2
set_option maxHeartbeats 4000000 in
theorem l2DrawEdge_spec (ys : List UInt8) (p : Int) (b : Nat) (n : Int) (hl : ys.length ≤ 2000) (h0_ : 0 ≤ p) (hp_ : p + 115 ≤ 1000000) (hn : n ≤ 1000000) : SpecR Try.prog 213 [.ptr b 0, .int .i64 n] (one b [li cY ys, .int .i64 p]) (fun c => ((l2DrawEdge_selD n p c).1.2, one b [li cY ys, .int .i64 (l2DrawEdge_selD n p c).2])) := by
  refine SpecR.of_walk Try.func213 rfl (by simp [Try.f213]) fun B => ?_
  (repeat' (first
    | refine AW_seq ?_
    | refine AW_region (id := 0) Γe23_ok [] (by kernel_rfl) ?_; simp  [-List.getD_eq_getElem?_getD, -List.drop_one, ↓splitB_true, ↓splitB_false, go_sem]
    | refine AW_region (id := 1) Γe23_ok [] (by kernel_rfl) ?_; simp  [-List.getD_eq_getElem?_getD, -List.drop_one, ↓splitB_true, ↓splitB_false, go_sem, hl, (show 0 ≤ p by omega), (show p ≤ 1000000 by omega), (show 0 ≤ p + 1 by omega), (show p + 1 ≤ 1000000 by omega), (show 0 ≤ p + 1 + 1 by omega), (show p + 1 + 1 ≤ 1000000 by omega), hn, (show p + 1 + 1 + 5 ≤ 1000000 by omega)]; try ((intro c1); (have z0 := l2Guard_ok (p + 1 + 1) c1); (generalize l2Guard_sel (p + 1 + 1) c1 = z at *); (obtain ⟨-, z1, z2⟩ := z0); (obtain ⟨⟨gk, gv, gs⟩, p1⟩ := z); (dsimp only at z1 z2); (generalize pkI ys p n = x1 at *); (generalize pkI ys (p + 1) n = x2 at *); (refine AW_matBox 5 rfl fun qb hqb => ?_); (have hbq : ¬ b = qb := (by rintro rfl; simp [go_sem] at hqb)); (clear hqb); (refine AW_gen (fun H1 => H1 b = some [.list ys.length (cat cY ys), .int .i64 p1] ∧ H1 qb = some [.int .i64 x1, .int .i64 x2, .int .i64 gk, .int .i64 gv, li cX gs, .int .i64 (-1), .int .i64 0, .int .i64 0, .nil, .int .i64 0]) ⟨by simp [go_sem, hbq], by simp [go_sem, hbq, li]⟩ fun H1 ⟨w1, w2⟩ => ?_))
    | refine AW_region (id := 2) Γe23_ok [] (by kernel_rfl) ?_; simp  [-List.getD_eq_getElem?_getD, -List.drop_one, ↓splitB_true, ↓splitB_false, go_sem, w1, hl, (show 0 ≤ p1 by omega), (show p1 ≤ 1000000 by omega), (show 0 ≤ p1 + 1 by omega), (show p1 + 1 ≤ 1000000 by omega), (show 0 ≤ p1 + 1 + 1 by omega), (show p1 + 1 + 1 ≤ 1000000 by omega)]
    | refine AW_region (id := 3) Γe23_ok [] (by kernel_rfl) ?_; simp  [-List.getD_eq_getElem?_getD, -List.drop_one, ↓splitB_true, ↓splitB_false, go_sem, w1, w2, hl, (show 0 ≤ p1 by omega), (show p1 ≤ 1000000 by omega), (show 0 ≤ p1 + 1 by omega), (show p1 + 1 ≤ 1000000 by omega), (show 0 ≤ p1 + 1 + 1 by omega), (show p1 + 1 + 1 ≤ 1000000 by omega), hbq, Ne.symm hbq]; try (generalize numI ys (p1 + 1) [0, 1, 0, 2] = x3 at *)
    | refine AW_region (id := 4) Γe23_ok [] (by kernel_rfl) ?_; simp  [-List.getD_eq_getElem?_getD, -List.drop_one, ↓splitB_true, ↓splitB_false, go_sem, w1, w2, hbq, Ne.symm hbq]; try (refine AW_shut 6 ?_; simp [go_sem])
    | refine AW_region (id := 5) Γe23_ok [] (by kernel_rfl) ?_; simp  [-List.getD_eq_getElem?_getD, -List.drop_one, ↓splitB_true, ↓splitB_false, go_sem]; try (refine AW_shut 7 ?_; simp [go_sem])
    | refine AW_region (id := 6) Γe23_ok [] (by kernel_rfl) ?_; simp  [-List.getD_eq_getElem?_getD, -List.drop_one, ↓splitB_true, ↓splitB_false, go_sem, w1, w2, hbq, Ne.symm hbq, hl, (show 0 ≤ p1 by omega), (show p1 ≤ 1000000 by omega), (show 0 ≤ p1 + 1 by omega), (show p1 + 1 ≤ 1000000 by omega), (show 0 ≤ p1 + 1 + 1 by omega), (show p1 + 1 + 1 ≤ 1000000 by omega), (show 0 ≤ p1 + 1 + 1 + 1 by omega), (show p1 + 1 + 1 + 1 ≤ 1000000 by omega)]
    | refine AW_region (id := 8) Γe23_ok [] (by kernel_rfl) ?_; simp  [-List.getD_eq_getElem?_getD, -List.drop_one, ↓splitB_true, ↓splitB_false, go_sem]
    | refine AW_region (id := 9) Γe23_ok [] (by kernel_rfl) ?_; simp  [-List.getD_eq_getElem?_getD, -List.drop_one, ↓splitB_true, ↓splitB_false, go_sem, w1, w2, hbq, Ne.symm hbq, hl, (show 0 ≤ p1 by omega), (show p1 ≤ 1000000 by omega), (show 0 ≤ p1 + 1 by omega), (show p1 + 1 ≤ 1000000 by omega), (show 0 ≤ p1 + 1 + 1 by omega), (show p1 + 1 + 1 ≤ 1000000 by omega), (show 0 ≤ p1 + 1 + 1 + 1 by omega), (show p1 + 1 + 1 + 1 ≤ 1000000 by omega), (show 0 ≤ p1 + 1 + 1 + 1 + 1 by omega), (show p1 + 1 + 1 + 1 + 1 ≤ 1000000 by omega)]
    | refine AW_region (id := 10) Γe23_ok [] (by kernel_rfl) ?_; simp  [-List.getD_eq_getElem?_getD, -List.drop_one, ↓splitB_true, ↓splitB_false, go_sem]
    | refine AW_region (id := 11) Γe23_ok [] (by kernel_rfl) ?_; simp  [-List.getD_eq_getElem?_getD, -List.drop_one, ↓splitB_true, ↓splitB_false, go_sem, w1, w2, hbq, Ne.symm hbq]
    | refine AW_region (id := 12) Γe23_ok [] (by kernel_rfl) ?_; simp  [-List.getD_eq_getElem?_getD, -List.drop_one, ↓splitB_true, ↓splitB_false, go_sem]
    | refine AW_region (id := 13) Γe23_ok [] (by kernel_rfl) ?_; simp  [-List.getD_eq_getElem?_getD, -List.drop_one, ↓splitB_true, ↓splitB_false, go_sem, w1, w2, hbq, Ne.symm hbq]
    | refine AW_region (id := 7) Γe23_ok [] (by kernel_rfl) ?_; simp  [-List.getD_eq_getElem?_getD, -List.drop_one, ↓splitB_true, ↓splitB_false, go_sem, w1, w2, hbq, Ne.symm hbq, hl, (show 0 ≤ p1 by omega), (show p1 ≤ 1000000 by omega), (show 0 ≤ p1 + 1 by omega), (show p1 + 1 ≤ 1000000 by omega), (show 0 ≤ p1 + 1 + 1 by omega), (show p1 + 1 + 1 ≤ 1000000 by omega), (show 0 ≤ p1 + 1 + 1 + 1 by omega), (show p1 + 1 + 1 + 1 ≤ 1000000 by omega), (show p1 + 1 + 1 + 1 + 100 ≤ 1000000 by omega)]; try ((intro c7); (have y0 := l1Expr_ok (p1 + 1 + 1 + 1) c7); (generalize l1Expr_sel (p1 + 1 + 1 + 1) c7 = y at *); (obtain ⟨-, y1, y2⟩ := y0); (obtain ⟨⟨ek, ev, es⟩, p2⟩ := y); (dsimp only at y1 y2))
    | ((refine AW_gen (fun H2 => ∃ (v ek ev q : Int) (E : D), (∃ es, dat E = li cX es) ∧ p ≤ q ∧ q ≤ p + 113 ∧ H2 b = some [.list ys.length (cat cY ys), .int .i64 q] ∧ H2 qb = some [.int .i64 x1, .int .i64 x2, .int .i64 gk, .int .i64 gv, li cX gs, .int .i64 v, .int .i64 ek, .int .i64 ev, E, .int .i64 0]) (by (iterate 5 apply Exists.intro); refine ⟨?_, ?_, ?_, ?_, ?_⟩; rotate_left 3; (simp [upd, w1, w2, hbq, Ne.symm hbq]; and_intros <;> rfl); (simp [upd, w1, w2, hbq, Ne.symm hbq, li]; and_intros <;> rfl); (first | exact ⟨_, dat_nilX⟩ | exact ⟨_, dat_liX _⟩ | exact ⟨_, dat_twoX _ _ _ _⟩); omega; omega) fun H2 ⟨v, ek, ev, q, E, ⟨es, hE⟩, k1, k2, k3', k4'⟩ => ?_); (refine AW_shutCell qb 8 k4' rfl (noTup hE) ?_); (refine AW_gen (fun H3 => H3 b = some [.list ys.length (cat cY ys), .int .i64 q] ∧ H3 qb = some [.int .i64 x1, .int .i64 x2, .int .i64 gk, .int .i64 gv, li cX gs, .int .i64 v, .int .i64 ek, .int .i64 ev, li cX es, .int .i64 0]) ⟨by simp [upd, hbq, Ne.symm hbq, k3'], by simp [upd, hE]⟩ fun H3 ⟨k3, k4⟩ => ?_)); refine AW_region (id := 14) Γe23_ok [] (by kernel_rfl) ?_; simp  [-List.getD_eq_getElem?_getD, -List.drop_one, ↓splitB_true, ↓splitB_false, go_sem, k3, hl, (show 0 ≤ q by omega), (show q ≤ 1000000 by omega), (show 0 ≤ q + 1 by omega), (show q + 1 ≤ 1000000 by omega), (show 0 ≤ q + 1 + 1 by omega), (show q + 1 + 1 ≤ 1000000 by omega)]
    | refine AW_region (id := 15) Γe23_ok [] (by kernel_rfl) ?_; simp  [-List.getD_eq_getElem?_getD, -List.drop_one, ↓splitB_true, ↓splitB_false, go_sem, k3, k4, hl, (show 0 ≤ q by omega), (show q ≤ 1000000 by omega), (show 0 ≤ q + 1 by omega), (show q + 1 ≤ 1000000 by omega), (show 0 ≤ q + 1 + 1 by omega), (show q + 1 + 1 ≤ 1000000 by omega), hbq, Ne.symm hbq]
    | refine AW_region (id := 16) Γe23_ok [] (by kernel_rfl) ?_; simp  [-List.getD_eq_getElem?_getD, -List.drop_one, ↓splitB_true, ↓splitB_false, go_sem, k3, k4, hbq, Ne.symm hbq]
    | refine AW_condA (c := .tmp 19) ?_; simp [-List.getD_eq_getElem?_getD, -List.drop_one, ↓splitB_true, ↓splitB_false, go_sem]; try first | (refine ⟨?_, ?_⟩ <;> change AW _ _ _ _ _ _) | (refine ⟨fun c19 => ?_, fun c19 => ?_⟩ <;> (try simp [B_iff, B_not] at c19))
    | refine AW_condA (c := .tmp 33) ?_; simp [-List.getD_eq_getElem?_getD, -List.drop_one, ↓splitB_true, ↓splitB_false, go_sem]; try first | (refine ⟨?_, ?_⟩ <;> change AW _ _ _ _ _ _) | (refine ⟨fun c33 => ?_, fun c33 => ?_⟩ <;> (try simp [B_iff, B_not] at c33))
    | refine AW_condA (c := .tmp 39) ?_; simp [-List.getD_eq_getElem?_getD, -List.drop_one, ↓splitB_true, ↓splitB_false, go_sem]; try first | (refine ⟨?_, ?_⟩ <;> change AW _ _ _ _ _ _) | (refine ⟨fun c39 => ?_, fun c39 => ?_⟩ <;> (try simp [B_iff, B_not] at c39))
    | refine AW_condA (c := .tmp 46) ?_; simp [-List.getD_eq_getElem?_getD, -List.drop_one, ↓splitB_true, ↓splitB_false, go_sem]; try first | (refine ⟨?_, ?_⟩ <;> change AW _ _ _ _ _ _) | (refine ⟨fun c46 => ?_, fun c46 => ?_⟩ <;> (try simp [B_iff, B_not] at c46))
    | refine AW_condA (c := .tmp 55) ?_; simp [-List.getD_eq_getElem?_getD, -List.drop_one, ↓splitB_true, ↓splitB_false, go_sem]; try first | (refine ⟨?_, ?_⟩ <;> change AW _ _ _ _ _ _) | (refine ⟨fun c55 => ?_, fun c55 => ?_⟩ <;> (try simp [B_iff, B_not] at c55))
    | (refine AW_block ?_)
    | (refine AW_exit ?_; simp [-List.getD_eq_getElem?_getD, -List.drop_one, ↓splitB_true, ↓splitB_false, go_sem])
    | (refine AW_skip ?_; simp [-List.getD_eq_getElem?_getD, -List.drop_one, ↓splitB_true, ↓splitB_false, go_sem])
    | (refine AW_ret ?_; try simp [-List.getD_eq_getElem?_getD, -List.drop_one, ↓splitB_true, ↓splitB_false, go_sem, Try.results213])
    | (intro hx; change AW _ _ _ _ _ _)
    | (intro hx; change retR _ _ _ _ _)
    | (refine ⟨?_, ?_⟩ <;> change AW _ _ _ _ _ _)
    | (intro hx; refine ⟨fun hs => ?_, fun hs => ?_⟩)
    | (refine ⟨fun hs => ?_, fun hs => ?_⟩)
    | (refine ⟨?_, fun hs => ?_⟩; change AW _ _ _ _ _ _)
    | (refine ⟨fun hs => ?_, ?_⟩; rotate_left; change AW _ _ _ _ _ _; rotate_left)))
  all_goals (first
    | (refine l2DrawEdge_ret _ _ _ _ (⟨x1, x2, .mk gk gv gs, v, .mk ek ev es, 0⟩) (q + 1) ?_ ?_ ?_ ?_; (first | exact Or.inl rfl | exact Or.inr rfl); (focus (simp [-List.getD_eq_getElem?_getD, -List.drop_one, ↓splitB_true, ↓splitB_false, go_sem, Try.results213, k3, k4, dat, datL_map, li, hbq, Ne.symm hbq]; done)); (focus ((trivial); done)); (focus (refine ⟨?_, ?_⟩ <;> omega)))
    | (refine l2DrawEdge_ret _ _ _ _ (⟨x1, x2, .mk gk gv gs, v, .mk ek ev es, numI ys (q + 1) [1, -1, 1, -1, 2, -2]⟩) (q + 1 + 1) ?_ ?_ ?_ ?_; (first | exact Or.inl rfl | exact Or.inr rfl); (focus (simp [-List.getD_eq_getElem?_getD, -List.drop_one, ↓splitB_true, ↓splitB_false, go_sem, Try.results213, k3, k4, dat, datL_map, li, hbq, Ne.symm hbq]; done)); (focus ((trivial); done)); (focus (refine ⟨?_, ?_⟩ <;> omega)))
    | skip)
noncomputable def l2DrawEdgeC : Con := .rel fun args H => match args with
  | [.ptr b 0, .int .i64 n] => match H b with
    | some [.list m cs, .int .i64 p] => ((Is cY m cs) ∧ (m ≤ 2000) ∧ (0 ≤ p) ∧ (p + 115 ≤ 1000000) ∧ (n ≤ 1000000), fun c => (l2DrawEdge_enc (l2DrawEdge_sel n p c).1, upd H b (some [.list m cs, .int .i64 (l2DrawEdge_sel n p c).2])))
    | _ => (False, fun _ => (.any, H))
  | _ => (False, fun _ => (.any, H))
attribute [go_sem] l2DrawEdgeC
theorem l2DrawEdgeC_ok : ConOk Try.prog 213 l2DrawEdgeC := by
  refine ⟨callable Try.func213 (by decide) rfl, fun args H h => ?_⟩
  revert h
  dsimp only
  split
  · split
    · rename_i hH
      intro h
      obtain ⟨⟨ys, rfl, rfl⟩, hl, h0_, hp_, hn⟩ := h
      try simp only [de_cat] at *
      exact SpecR.enc ((l2DrawEdge_spec ys _ _ _ hl h0_ hp_ hn).frame hH).shut fun c => Prod.ext (l2DrawEdge_okD _ hn _ _).2.symm rfl
    · intro h; exact h.elim
  · intro h
    exact h.elim
noncomputable def Γe24 : FuncId → Con := ext Γe23 213 l2DrawEdgeC
attribute [go_sem] Γe24
theorem Γe24_ok : ∀ g, ConOk Try.prog g (Γe24 g) := ext_ok Γe23_ok l2DrawEdgeC_ok

end Go.Proofs.Ytoklpofekcclhaa.Vm


/-
  Draws: systems. No conditions.
-/
namespace Go.Proofs.Ytoklpofekcclhaa.Vm
open Go
set_option linter.unusedVariables false
set_option linter.unusedSimpArgs false
set_option maxRecDepth 200000

/-- A system, as a struct. -/
def sS (x : List Int × List Pr) : D := .st [li cI x.1, li cR x.2]
attribute [go_sem] sS

noncomputable def l2System_enc : List Int × List Pr → D := sS
attribute [go_sem] l2System_enc
theorem l2System_flat (x : List Int × List Pr) : dat (l2System_enc x) = l2System_enc x := by simp [go_sem]
def l2System_good  : List Int × List Pr → Prop := fun _ => True
def l2System_gd  (x : (List Int × List Pr) × D) : Prop := l2System_good x.1 ∧ dat x.2 = l2System_enc x.1
noncomputable def l2System_selD  (p : Int) (c : Any) : ((List Int × List Pr) × D) × Int := dsel (l2System_gd) ((([], []) : List Int × List Pr), l2System_enc (([], []))) 2000 p c
noncomputable def l2System_sel  (p : Int) (c : Any) : (List Int × List Pr) × Int := ((l2System_selD p c).1.1, (l2System_selD p c).2)
theorem l2System_okD   (p : Int) (c : Any) : (l2System_good (l2System_sel p c).1 ∧ p ≤ (l2System_sel p c).2 ∧ (l2System_sel p c).2 ≤ p + 2000) ∧ dat (l2System_selD p c).1.2 = l2System_enc (l2System_sel p c).1 := by
  have hx : l2System_good (([], [])) := trivial
  have h := dsel_ok (good := l2System_gd) (x0 := ((([], []) : List Int × List Pr), l2System_enc (([], [])))) ⟨hx, l2System_flat _⟩ (K := 2000) (by omega) (p := p) c
  exact ⟨⟨h.1.1, h.2.1, h.2.2⟩, h.1.2⟩
theorem l2System_ok   (p : Int) (c : Any) : l2System_good (l2System_sel p c).1 ∧ p ≤ (l2System_sel p c).2 ∧ (l2System_sel p c).2 ≤ p + 2000 := (l2System_okD  p c).1
theorem l2System_ret  (ys : List UInt8) (p : Int) (b : Nat) {e_ : Exit} {S_ : St} (x : List Int × List Pr) (p' : Int) (he_ : e_ = .ret ∨ e_ = .normal)
    (h1 : (takeRes Try.prog S_ Try.f200.results.toList).1 ∧ dat (resD (takeRes Try.prog S_ Try.f200.results.toList).2.1) = l2System_enc x ∧ (takeRes Try.prog S_ Try.f200.results.toList).2.2.H b = some [li cY ys, .int .i64 p']) (hg : l2System_good x) (h2 : p ≤ p' ∧ p' ≤ p + 2000) :
    retR Try.prog Try.f200 (fun c => ((l2System_selD p c).1.2, one b [li cY ys, .int .i64 (l2System_selD p c).2])) e_ S_ :=
  ret_draw (good := l2System_gd) (enc := fun x : (List Int × List Pr) × D => x.2) (cells := fun q => [li cY ys, .int .i64 q]) (x, resD (takeRes Try.prog S_ Try.f200.results.toList).2.1) p' he_ ⟨h1.1, rfl, h1.2.2⟩ ⟨hg, h1.2.1⟩ h2
set_option maxHeartbeats 4000000 in
theorem l2System_spec (ys : List UInt8) (p : Int) (b : Nat)  (hl : ys.length ≤ 2000) (h0_ : 0 ≤ p) (hp_ : p + 2000 ≤ 1000000)  : SpecR Try.prog 200 [.ptr b 0] (one b [li cY ys, .int .i64 p]) (fun c => ((l2System_selD p c).1.2, one b [li cY ys, .int .i64 (l2System_selD p c).2])) := by
  refine SpecR.of_walk Try.func200 rfl (by simp [Try.f200]) fun B => ?_
  (repeat' (first
    | refine AW_seq ?_
    | refine AW_region (id := 0) Γe24_ok [] (by kernel_rfl) ?_; simp  [-List.getD_eq_getElem?_getD, -List.drop_one, ↓splitB_true, ↓splitB_false, go_sem]
    | refine AW_region (id := 1) Γe24_ok [] (by kernel_rfl) ?_; simp  [-List.getD_eq_getElem?_getD, -List.drop_one, ↓splitB_true, ↓splitB_false, go_sem, hl, (show 0 ≤ p by omega), (show p ≤ 1000000 by omega), (show 0 ≤ p + 1 by omega), (show p + 1 ≤ 1000000 by omega), (show 0 ≤ p + 1 + 1 by omega), (show p + 1 + 1 ≤ 1000000 by omega)]; try ((generalize pkI ys p 2 = x1 at *); (generalize numI ys (p + 1) [0, 0, 1, 3] = x2 at *); (refine AW_boxNil1N 3 2 rfl ?_); (refine AW_matBox 3 rfl fun sb hsb => ?_); (have hbs : ¬ b = sb := (by rintro rfl; simp [go_sem] at hsb)); (clear hsb); (refine AW_gen (fun H1 => H1 b = some [.list ys.length (cat cY ys), .int .i64 (p + 1 + 1)] ∧ H1 sb = some [.fr 1 3 [.int .i64 x1, .int .i64 x2, .int .i64 0], .fr 2 0 []]) ⟨by simp [go_sem, hbs], by simp [go_sem, hbs]⟩ fun H1 ⟨w1, w2⟩ => ?_))
    | refine AW_region (id := 2) Γe24_ok [] (by kernel_rfl) ?_; simp  [-List.getD_eq_getElem?_getD, -List.drop_one, ↓splitB_true, ↓splitB_false, go_sem, w1, hl, (show 0 ≤ p + 1 + 1 by omega), (show p + 1 + 1 ≤ 1000000 by omega), (show 0 ≤ p + 1 + 1 + 1 by omega), (show p + 1 + 1 + 1 ≤ 1000000 by omega)]; try ((have hr := numI_range ys (p := p + 1 + 1) (by omega) (xs := [2, 1, 2, 3]) (lo := 1) (hi := 3) (by simp) (by simp)); (generalize numI ys (p + 1 + 1) [2, 1, 2, 3] = kk at *))
    | refine AW_region (id := 3) Γe24_ok [] (by kernel_rfl) ?_; simp  [-List.getD_eq_getElem?_getD, -List.drop_one, ↓splitB_true, ↓splitB_false, go_sem]
    | refine AW_region (id := 5) Γe24_ok [] (by kernel_rfl) ?_; simp  [-List.getD_eq_getElem?_getD, -List.drop_one, ↓splitB_true, ↓splitB_false, go_sem, g5, hl, (show 0 ≤ q.2.2.1 by omega), (show q.2.2.1 ≤ 1000000 by omega), (show 0 ≤ q.2.2.1 + 1 by omega), (show q.2.2.1 + 1 ≤ 1000000 by omega)]; try ((have hr5 := numI_range ys (p := q.2.2.1) (by omega) (xs := [2, 3, 1, 2]) (lo := 1) (hi := 3) (by simp) (by simp)); (generalize numI ys q.2.2.1 [2, 3, 1, 2] = lc at *); (refine AW_boxNil1N 5 10 rfl ?_); (refine AW_matBox 5 rfl fun pb hpb => ?_); (have hbp : ¬ b = pb := (by rintro rfl; simp [upd] at hpb)); (have hsp : ¬ sb = pb := (by rintro rfl; simp [upd, Ne.symm hbs, g6] at hpb)); (clear hpb); (refine AW_gen (fun H2 => H2 b = some [.list ys.length (cat cY ys), .int .i64 (q.2.2.1 + 1)] ∧ H2 sb = some [.fr 1 3 [.int .i64 x1, .int .i64 x2, .int .i64 0], .fr 2 q.1.length (cat cR q.1)] ∧ H2 pb = some [.int .i64 lc, .fr 10 0 []]) ⟨by simp [upd, hbp], by simp [upd, hsp, Ne.symm hbs, g6], by simp [upd]⟩ fun H2 ⟨v1, v2, v3⟩ => ?_))
    | refine AW_region (id := 6) Γe24_ok [] (by kernel_rfl) ?_; simp  [-List.getD_eq_getElem?_getD, -List.drop_one, ↓splitB_true, ↓splitB_false, go_sem, v1, hl, (show 0 ≤ q.2.2.1 + 1 by omega), (show q.2.2.1 + 1 ≤ 1000000 by omega), (show 0 ≤ q.2.2.1 + 1 + 1 by omega), (show q.2.2.1 + 1 + 1 ≤ 1000000 by omega)]; try ((have hr6 := numI_range ys (p := q.2.2.1 + 1) (by omega) (xs := [3, 4, 2, 5, 1]) (lo := 1) (hi := 5) (by simp) (by simp)); (generalize numI ys (q.2.2.1 + 1) [3, 4, 2, 5, 1] = mm at *))
    | refine AW_region (id := 7) Γe24_ok [] (by kernel_rfl) ?_; simp  [-List.getD_eq_getElem?_getD, -List.drop_one, ↓splitB_true, ↓splitB_false, go_sem]
    | ((refine AW_matCell pb 1 (all := [.int .i64 lc, .fr 10 r.1.length (cat cE r.1)]) f7 rfl fun u cu ju hu hcu hdu => ?_); (have ub : ¬ u = b := (by intro e; rw [e] at hu; dsimp only at hu; rw [f5] at hu; cases hu)); (have us : ¬ u = sb := (by intro e; rw [e] at hu; dsimp only at hu; rw [f6] at hu; cases hu)); (have up : ¬ u = pb := (by intro e; rw [e] at hu; dsimp only at hu; rw [f7] at hu; cases hu)); (clear hu)); refine AW_region_snap (id := 9) Γe24_ok mixed [(pb, [.int .i64 lc, .sl u 10 0 r.1.length cu])] [] [5] (by kernel_rfl) (by kernel_rfl) (by simp [-List.getD_eq_getElem?_getD, -List.drop_one, ↓splitB_true, ↓splitB_false, go_sem, f5, f6, hl, hbp, hbs, hsp, Ne.symm hbp, Ne.symm hbs, Ne.symm hsp, ub, us, up, Ne.symm ub, Ne.symm us, Ne.symm up, (show 0 ≤ r.2.2.1 by omega), (show lc ≤ 1000000 by omega), (show r.2.2.1 + 115 ≤ 1000000 by omega), hdu, (show r.1.length ≤ 9223372036854775806 by omega), (show 2 * (r.1.length + 1) * 112 ≤ 281474976710656 by omega)]) (by simp [-List.getD_eq_getElem?_getD, -List.drop_one, ↓splitB_true, ↓splitB_false, go_sem, f5, f6, hl, hbp, hbs, hsp, Ne.symm hbp, Ne.symm hbs, Ne.symm hsp, ub, us, up, Ne.symm ub, Ne.symm us, Ne.symm up, (show 0 ≤ r.2.2.1 by omega), (show lc ≤ 1000000 by omega), (show r.2.2.1 + 115 ≤ 1000000 by omega), hdu, (show r.1.length ≤ 9223372036854775806 by omega), (show 2 * (r.1.length + 1) * 112 ≤ 281474976710656 by omega)]) ?_; simp  [-List.getD_eq_getElem?_getD, -List.drop_one, ↓splitB_true, ↓splitB_false, go_sem, f5, f6, hl, hbp, hbs, hsp, Ne.symm hbp, Ne.symm hbs, Ne.symm hsp, ub, us, up, Ne.symm ub, Ne.symm us, Ne.symm up, (show 0 ≤ r.2.2.1 by omega), (show lc ≤ 1000000 by omega), (show r.2.2.1 + 115 ≤ 1000000 by omega), hdu, (show r.1.length ≤ 9223372036854775806 by omega), (show 2 * (r.1.length + 1) * 112 ≤ 281474976710656 by omega)]; try (intro c9; have z0 := l2DrawEdge_ok lc (by omega) r.2.2.1 c9; generalize l2DrawEdge_sel lc r.2.2.1 c9 = z at *; obtain ⟨-, z1, z2⟩ := z0; obtain ⟨t, p2⟩ := z; dsimp only at z1 z2; refine AW_gen (fun H3 => H3 b = some [.list ys.length (cat cY ys), .int .i64 p2] ∧ H3 sb = some [.fr 1 3 [.int .i64 x1, .int .i64 x2, .int .i64 0], .fr 2 q.1.length (cat cR q.1)] ∧ H3 pb = some [.int .i64 lc, .fr 10 (r.1 ++ [t]).length (cat cE (r.1 ++ [t]))]) ⟨by simp [upd, hbp, hbs, hsp, Ne.symm hbp, Ne.symm hbs, Ne.symm hsp, ub, us, up, Ne.symm ub, Ne.symm us, Ne.symm up], by simp [upd, hbp, hbs, hsp, Ne.symm hbp, Ne.symm hbs, Ne.symm hsp, ub, us, up, Ne.symm ub, Ne.symm us, Ne.symm up, f6], by simp [upd, hbp, hbs, hsp, Ne.symm hbp, Ne.symm hbs, Ne.symm hsp, ub, us, up, Ne.symm ub, Ne.symm us, Ne.symm up, cat_append, cat_one, cE, li]⟩ fun H3 ⟨u1, u2, u3⟩ => ?_)
    | refine AW_region (id := 8) Γe24_ok [] (by kernel_rfl) ?_; simp  [-List.getD_eq_getElem?_getD, -List.drop_one, ↓splitB_true, ↓splitB_false, go_sem, wrap_in (x := r.2.1 - 1) (by omega) (by omega)]
    | ((refine AW_shutCell pb 1 (all := [.int .i64 lc, .fr 10 r.1.length (cat cE r.1)]) f7 rfl rfl ?_)); refine AW_region (id := 10) Γe24_ok [] (by kernel_rfl) ?_; simp  [-List.getD_eq_getElem?_getD, -List.drop_one, ↓splitB_true, ↓splitB_false, go_sem, f6, hbp, hbs, hsp, Ne.symm hbp, Ne.symm hbs, Ne.symm hsp, dat, datL_map, (show q.1.length ≤ 9223372036854775806 by omega), (show 2 * (q.1.length + 1) * 32 ≤ 281474976710656 by omega)]; try (refine AW_gen (fun H5 => H5 b = some [.list ys.length (cat cY ys), .int .i64 r.2.2.1] ∧ H5 sb = some [.fr 1 3 [.int .i64 x1, .int .i64 x2, .int .i64 0], .fr 2 (q.1 ++ [Pr.mk lc r.1]).length (cat cR (q.1 ++ [Pr.mk lc r.1]))]) ⟨by simp [upd, hbp, hbs, hsp, Ne.symm hbp, Ne.symm hbs, Ne.symm hsp, f5], by simp [upd, hbp, hbs, hsp, Ne.symm hbp, Ne.symm hbs, Ne.symm hsp, cat_append, cat_one, cR, li]⟩ fun H5 ⟨y1, y2⟩ => ?_)
    | refine AW_region (id := 4) Γe24_ok [] (by kernel_rfl) ?_; simp  [-List.getD_eq_getElem?_getD, -List.drop_one, ↓splitB_true, ↓splitB_false, go_sem, wrap_in (x := q.2.1 - 1) (by omega) (by omega)]
    | refine AW_region (id := 11) Γe24_ok [] (by kernel_rfl) ?_; simp  [-List.getD_eq_getElem?_getD, -List.drop_one, ↓splitB_true, ↓splitB_false, go_sem, g6]
    | refine AW_condA (c := .tmp 18) ?_; simp [-List.getD_eq_getElem?_getD, -List.drop_one, ↓splitB_true, ↓splitB_false, go_sem]; try first | (refine ⟨?_, ?_⟩ <;> change AW _ _ _ _ _ _) | (refine ⟨fun c18 => ?_, fun c18 => ?_⟩ <;> (try simp [B_iff, B_not] at c18))
    | refine AW_condA (c := .tmp 29) ?_; simp [-List.getD_eq_getElem?_getD, -List.drop_one, ↓splitB_true, ↓splitB_false, go_sem]; try first | (refine ⟨?_, ?_⟩ <;> change AW _ _ _ _ _ _) | (refine ⟨fun c29 => ?_, fun c29 => ?_⟩ <;> (try simp [B_iff, B_not] at c29))
    | (refine AW_block (id := 0) (AW_loop (ι := List Pr × Int × Int × Hp) (fun q : List Pr × Int × Int × Hp => ⟨(upd (upd (upd (upd (fun _ => .any) 0 (.ptr b 0)) 2 (.box [.nil, .nil])) 3 (.ptr sb 0)) 4 (.int .i64 q.2.1)), q.2.2.2⟩) (fun q => 0 ≤ q.2.1 ∧ q.2.1 ≤ 3 ∧ (q.1.length : Int) + q.2.1 ≤ 3 ∧ p ≤ q.2.2.1 ∧ q.2.2.1 ≤ p + 3 + (3 - q.2.1) * 600 ∧ q.2.2.2 b = some [.list ys.length (cat cY ys), .int .i64 q.2.2.1] ∧ q.2.2.2 sb = some [.fr 1 3 [.int .i64 x1, .int .i64 x2, .int .i64 0], .fr 2 q.1.length (cat cR q.1)]) (fun q => q.2.1.toNat) (([], kk, p + 1 + 1 + 1, upd H1 b (some [.list ys.length (cat cY ys), .int .i64 (p + 1 + 1 + 1)]))) ?_ ?_ ?_); exact ⟨by dsimp only; omega, by dsimp only; omega, by simp; omega, by dsimp only; omega, by dsimp only; omega, by simp [upd], by simp [upd, Ne.symm hbs, w2, cat_nil]⟩; ((repeat' (first | exact sub_noneH (by assumption) | exact sub_none | refine sub_upd ?_ ?_ | refine sub_noneE ?_)) <;> simp [-List.getD_eq_getElem?_getD, -List.drop_one, ↓splitB_true, ↓splitB_false, go_sem]); rintro q ⟨g0, g1, g2, g3, g4, g5, g6⟩)
    | (refine ⟨(q.1 ++ [Pr.mk lc r.1], q.2.1 - 1, r.2.2.1, H5), ⟨by dsimp only; omega, by dsimp only; omega, by simp; omega, by dsimp only; omega, by dsimp only; omega, y1, y2⟩, by first | omega | (simp; done) | (simp; omega), ?_⟩; ((repeat' (first | exact sub_noneH (by assumption) | exact sub_none | refine sub_upd ?_ ?_ | refine sub_noneE ?_)) <;> simp [-List.getD_eq_getElem?_getD, -List.drop_one, ↓splitB_true, ↓splitB_false, go_sem, ]))
    | (refine AW_block (id := 2) (AW_loop (ι := List Ed × Int × Int × Hp) (fun r : List Ed × Int × Int × Hp => ⟨(upd (upd (upd (upd (upd (upd (fun _ => .any) 0 (.ptr b 0)) 2 (.box [.nil, .nil])) 3 (.ptr sb 0)) 4 (.int .i64 q.2.1)) 5 (.ptr pb 0)) 6 (.int .i64 r.2.1)), r.2.2.2⟩) (fun r => r.2.1 ≤ 5 ∧ 0 ≤ r.2.1 ∧ (r.1.length : Int) + r.2.1 ≤ 5 ∧ q.2.2.1 ≤ r.2.2.1 ∧ r.2.2.1 ≤ q.2.2.1 + 2 + (5 - r.2.1) * 115 ∧ r.2.2.2 b = some [.list ys.length (cat cY ys), .int .i64 r.2.2.1] ∧ r.2.2.2 sb = some [.fr 1 3 [.int .i64 x1, .int .i64 x2, .int .i64 0], .fr 2 q.1.length (cat cR q.1)] ∧ r.2.2.2 pb = some [.int .i64 lc, .fr 10 r.1.length (cat cE r.1)]) (fun r => r.2.1.toNat) (([], mm, q.2.2.1 + 1 + 1, upd H2 b (some [.list ys.length (cat cY ys), .int .i64 (q.2.2.1 + 1 + 1)]))) ?_ ?_ ?_); exact ⟨by dsimp only; omega, by dsimp only; omega, by simp; omega, by dsimp only; omega, by dsimp only; omega, by simp [upd], by simp [upd, Ne.symm hbs, v2], by simp [upd, Ne.symm hbp, v3, cat_nil]⟩; ((repeat' (first | exact sub_noneH (by assumption) | exact sub_none | refine sub_upd ?_ ?_ | refine sub_noneE ?_)) <;> simp [-List.getD_eq_getElem?_getD, -List.drop_one, ↓splitB_true, ↓splitB_false, go_sem]); rintro r ⟨f1, f0, f2, f3, f4, f5, f6, f7⟩)
    | (refine ⟨(r.1 ++ [t], r.2.1 - 1, p2, H3), ⟨by dsimp only; omega, by dsimp only; omega, by simp; omega, by dsimp only; omega, by dsimp only; omega, u1, u2, u3⟩, by first | omega | (simp; done) | (simp; omega), ?_⟩; ((repeat' (first | exact sub_noneH (by assumption) | exact sub_none | refine sub_upd ?_ ?_ | refine sub_noneE ?_)) <;> simp [-List.getD_eq_getElem?_getD, -List.drop_one, ↓splitB_true, ↓splitB_false, go_sem, ]))
    | (refine AW_block ?_)
    | (refine AW_exit ?_; simp [-List.getD_eq_getElem?_getD, -List.drop_one, ↓splitB_true, ↓splitB_false, go_sem])
    | (refine AW_skip ?_; simp [-List.getD_eq_getElem?_getD, -List.drop_one, ↓splitB_true, ↓splitB_false, go_sem])
    | (refine AW_ret ?_; try simp [-List.getD_eq_getElem?_getD, -List.drop_one, ↓splitB_true, ↓splitB_false, go_sem, Try.results200])
    | (intro hx; change AW _ _ _ _ _ _)
    | (intro hx; change retR _ _ _ _ _)
    | (refine ⟨?_, ?_⟩ <;> change AW _ _ _ _ _ _)
    | (intro hx; refine ⟨fun hs => ?_, fun hs => ?_⟩)
    | (refine ⟨fun hs => ?_, fun hs => ?_⟩)
    | (refine ⟨?_, fun hs => ?_⟩; change AW _ _ _ _ _ _)
    | (refine ⟨fun hs => ?_, ?_⟩; rotate_left; change AW _ _ _ _ _ _; rotate_left)
    | ((fail_if_success change retR _ _ _ _ _); (exfalso; omega))))
  all_goals (first
    | (refine l2System_ret _ _ _ (([x1, x2, 0], q.1)) (q.2.2.1) ?_ ?_ ?_ ?_; (first | exact Or.inl rfl | exact Or.inr rfl); (focus (simp [-List.getD_eq_getElem?_getD, -List.drop_one, ↓splitB_true, ↓splitB_false, go_sem, Try.results200, li, dat, datL_map, hbs, g5, cat_cons, cI, cat_nil]; done)); (focus ((trivial); done)); (focus (refine ⟨?_, ?_⟩ <;> omega)))
    | skip)
noncomputable def l2SystemC : Con := .rel fun args H => match args with
  | [.ptr b 0] => match H b with
    | some [.list m cs, .int .i64 p] => ((Is cY m cs) ∧ (m ≤ 2000) ∧ (0 ≤ p) ∧ (p + 2000 ≤ 1000000), fun c => (l2System_enc (l2System_sel p c).1, upd H b (some [.list m cs, .int .i64 (l2System_sel p c).2])))
    | _ => (False, fun _ => (.any, H))
  | _ => (False, fun _ => (.any, H))
attribute [go_sem] l2SystemC
theorem l2SystemC_ok : ConOk Try.prog 200 l2SystemC := by
  refine ⟨callable Try.func200 (by decide) rfl, fun args H h => ?_⟩
  revert h
  dsimp only
  split
  · split
    · rename_i hH
      intro h
      obtain ⟨⟨ys, rfl, rfl⟩, hl, h0_, hp_⟩ := h
      try simp only [de_cat] at *
      exact SpecR.enc ((l2System_spec ys _ _ hl h0_ hp_ ).frame hH).shut fun c => Prod.ext (l2System_okD  _ _).2.symm rfl
    · intro h; exact h.elim
  · intro h
    exact h.elim
noncomputable def Γe25 : FuncId → Con := ext Γe24 200 l2SystemC
attribute [go_sem] Γe25
theorem Γe25_ok : ∀ g, ConOk Try.prog g (Γe25 g) := ext_ok Γe24_ok l2SystemC_ok

end Go.Proofs.Ytoklpofekcclhaa.Vm


/-
  Draws: states. No conditions.
-/
namespace Go.Proofs.Ytoklpofekcclhaa.Vm
open Go
set_option linter.unusedVariables false
set_option linter.unusedSimpArgs false
set_option maxRecDepth 200000

/-- A state, as a struct. -/
def sP (x : List Int × List Int) : D := .st [li cI x.1, li cI x.2]
attribute [go_sem] sP
noncomputable def Γe26 : FuncId → Con := Γe25
attribute [go_sem] Γe26
theorem Γe26_ok : ∀ g, ConOk Try.prog g (Γe26 g) := Γe25_ok
end Go.Proofs.Ytoklpofekcclhaa.Vm


/-
  Draws: states changed; pairs of states. No conditions.
-/
namespace Go.Proofs.Ytoklpofekcclhaa.Vm
open Go
set_option linter.unusedVariables false
set_option linter.unusedSimpArgs false
set_option maxRecDepth 200000

noncomputable def Γe27 : FuncId → Con := Γe26
attribute [go_sem] Γe27
theorem Γe27_ok : ∀ g, ConOk Try.prog g (Γe27 g) := Γe26_ok
end Go.Proofs.Ytoklpofekcclhaa.Vm


/-
  Draws: pairs of states. No conditions.
-/
namespace Go.Proofs.Ytoklpofekcclhaa.Vm
open Go
set_option linter.unusedVariables false
set_option linter.unusedSimpArgs false
set_option maxRecDepth 200000

theorem cut_len (xs : List UInt8) : (cut2000 xs).length ≤ 2000 := by simp [cut2000]; omega
noncomputable def Γe28 : FuncId → Con := Γe27
attribute [go_sem] Γe28
theorem Γe28_ok : ∀ g, ConOk Try.prog g (Γe28 g) := Γe27_ok
end Go.Proofs.Ytoklpofekcclhaa.Vm

