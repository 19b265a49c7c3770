/-
  Formulas: copies, normal forms, subformulas. No conditions.
-/
import Derived.Test.YtkjimmkemnmajaaY1
namespace Go.Proofs.Ytkjimmkemnmajaa.Vm
open Go
set_option linter.unusedVariables false
set_option linter.unusedSimpArgs false
set_option maxRecDepth 200000

theorem WellF.ks1 {k v : Int} {ks : List Tree} (h : WellF (.mk k v ks)) (hk : k = 3 ∨ k = 6 ∨ k = 9 ∨ k = 10) : ks.length = 1 := by
  have := h.at.1; unfold arF at this; rw [if_neg (by omega), if_pos (by omega)] at this; omega
theorem WellF.ks2 {k v : Int} {ks : List Tree} (h : WellF (.mk k v ks)) (h1 : ¬ k = 1) (h2 : ¬ k = 2) (h3 : ¬ k = 3) (h6 : ¬ k = 6) (h9 : ¬ k = 9) (h10 : ¬ k = 10) : ks.length = 2 := by
  have := h.at.1; unfold arF at this; rw [if_neg (by omega), if_neg (by omega)] at this; split at this <;> omega
theorem take_snocX {ks : List Tree} {i : Nat} (h : i < ks.length) : cat cX (ks.take i) ++ [.int .i64 (nth ks i).k, .int .i64 (nth ks i).v, .list (nth ks i).ks.length (cat cX (nth ks i).ks)] = cat cX (ks.take (i + 1)) := by
  rw [List.take_succ_eq_append_getElem h, cat_append, cat_one, ← nth_lt h, cX_eq]; rfl

noncomputable def l5True_enc : Tree → D := sX
attribute [go_sem] l5True_enc
theorem l5True_flat (x : Tree) : dat (l5True_enc x) = l5True_enc x := by simp [go_sem]
def l5True_good  : Tree → Prop := fun _ => True
def l5True_gd  (x : (Tree) × D) : Prop := l5True_good x.1 ∧ dat x.2 = l5True_enc x.1
noncomputable def l5True_selD  (c : Any) : (Tree) × D := sel (l5True_gd) ((.mk 1 0 [] : Tree), l5True_enc (.mk 1 0 [])) c
noncomputable def l5True_sel  (c : Any) : Tree := (l5True_selD c).1
theorem l5True_okD   (c : Any) : l5True_gd (l5True_selD c) := by
  have hx : l5True_good (.mk 1 0 []) := trivial
  exact sel_ok (p := l5True_gd) (x0 := ((.mk 1 0 [] : Tree), l5True_enc (.mk 1 0 []))) ⟨hx, l5True_flat _⟩ c
theorem l5True_ret  {e_ : Exit} {S_ : St} (x : Tree) (he_ : e_ = .ret ∨ e_ = .normal)
    (h1 : (zaak Try.prog S_ Try.f246.results.toList).1 ∧ dat (resD (zaak Try.prog S_ Try.f246.results.toList).2.1) = l5True_enc x) (hg : l5True_good x) :
    retR Try.prog Try.f246 (fun c => ((l5True_selD c).2, fun _ => none)) e_ S_ :=
  ret_prel (good := l5True_gd) (enc := fun x : (Tree) × D => x.2) (x, resD (zaak Try.prog S_ Try.f246.results.toList).2.1) he_ ⟨h1.1, rfl⟩ ⟨hg, h1.2⟩
theorem l5True_pure   : SpecR Try.prog 246 [] (fun _ => none) (fun c => ((l5True_selD c).2, fun _ => none)) := by
  refine SpecR.of_walk Try.func246 rfl (by simp [Try.f246]) fun B => ?_
  (repeat' (first
    | refine AW_seq ?_
    | refine zaac (id := 0) Γy9_ok [] (by kernel_rfl) ?_; simp  [-List.getD_eq_getElem?_getD, -List.drop_one, ↓zaab, ↓zaaa, go_sem]
    | refine zaac (id := 1) Γy9_ok [] (by kernel_rfl) ?_; simp  [-List.getD_eq_getElem?_getD, -List.drop_one, ↓zaab, ↓zaaa, go_sem]
    | (refine zaag ?_)
    | (refine zaap ?_; simp [-List.getD_eq_getElem?_getD, -List.drop_one, ↓zaab, ↓zaaa, go_sem])
    | (refine zaan ?_; simp [-List.getD_eq_getElem?_getD, -List.drop_one, ↓zaab, ↓zaaa, go_sem])
    | (refine AW_ret ?_; try simp [-List.getD_eq_getElem?_getD, -List.drop_one, ↓zaab, ↓zaaa, go_sem, Try.results246])
    | (intro hx; change AW _ _ _ _ _ _)
    | (intro hx; change retR _ _ _ _ _)
    | (refine ⟨?_, ?_⟩ <;> change AW _ _ _ _ _ _)
    | (intro hx; refine ⟨fun hs => ?_, fun hs => ?_⟩)
    | (refine ⟨fun hs => ?_, fun hs => ?_⟩)
    | (refine ⟨?_, fun hs => ?_⟩; change AW _ _ _ _ _ _)
    | (refine ⟨fun hs => ?_, ?_⟩; rotate_left; change AW _ _ _ _ _ _; rotate_left)))
  all_goals (first
    | (refine l5True_ret (.mk 1 0 []) ?_ ?_ ?_; (first | exact Or.inl rfl | exact Or.inr rfl); (focus (simp [-List.getD_eq_getElem?_getD, -List.drop_one, ↓zaab, ↓zaaa, go_sem, Try.results246, dat, li, cat_nil]; done)); (focus ((trivial); done)))
    | skip)
noncomputable def l5TrueC : Con := .rel fun args H => match args with
  | [] => (True, fun c => (l5True_enc (l5True_sel c), H))
  | _ => (False, fun _ => (.any, H))
attribute [go_sem] l5TrueC
theorem l5TrueC_ok : ConOk Try.prog 246 l5TrueC := by
  refine ⟨zaal Try.func246 (by decide) rfl, fun args H h => ?_⟩
  revert h
  dsimp only
  split
  · intro h
    skip
    try simp only [de_cat] at *
    exact SpecR.enc ((SpecR.frame0 (l5True_pure ) (H := H)).shut) fun c => Prod.ext (l5True_okD  c).2.symm rfl
  · intro h
    exact h.elim
noncomputable def Γy10 : FuncId → Con := ext Γy9 246 l5TrueC
attribute [go_sem] Γy10
theorem Γy10_ok : ∀ g, ConOk Try.prog g (Γy10 g) := ext_ok Γy9_ok l5TrueC_ok

noncomputable def l5Not_enc : Tree → D := sX
attribute [go_sem] l5Not_enc
theorem l5Not_flat (x : Tree) : dat (l5Not_enc x) = l5Not_enc x := by simp [go_sem]
def l5Not_good (k : Int) (v : Int) (E : D) : Tree → Prop := fun _ => True
def l5Not_gd (k : Int) (v : Int) (E : D) (x : (Tree) × D) : Prop := l5Not_good k v E x.1 ∧ dat x.2 = l5Not_enc x.1
noncomputable def l5Not_selD (k : Int) (v : Int) (E : D) (c : Any) : (Tree) × D := sel (l5Not_gd k v E) ((.mk 1 0 [] : Tree), l5Not_enc (.mk 1 0 [])) c
noncomputable def l5Not_sel (k : Int) (v : Int) (E : D) (c : Any) : Tree := (l5Not_selD k v E c).1
theorem l5Not_okD (k : Int) (v : Int) (E : D) (hE : IsK E) (c : Any) : l5Not_gd k v E (l5Not_selD k v E c) := by
  have hx : l5Not_good k v E (.mk 1 0 []) := trivial
  exact sel_ok (p := l5Not_gd k v E) (x0 := ((.mk 1 0 [] : Tree), l5Not_enc (.mk 1 0 []))) ⟨hx, l5Not_flat _⟩ c
theorem l5Not_ret (k : Int) (v : Int) (E : D) {e_ : Exit} {S_ : St} (x : Tree) (he_ : e_ = .ret ∨ e_ = .normal)
    (h1 : (zaak Try.prog S_ Try.f265.results.toList).1 ∧ dat (resD (zaak Try.prog S_ Try.f265.results.toList).2.1) = l5Not_enc x) (hg : l5Not_good k v E x) :
    retR Try.prog Try.f265 (fun c => ((l5Not_selD k v E c).2, fun _ => none)) e_ S_ :=
  ret_prel (good := l5Not_gd k v E) (enc := fun x : (Tree) × D => x.2) (x, resD (zaak Try.prog S_ Try.f265.results.toList).2.1) he_ ⟨h1.1, rfl⟩ ⟨hg, h1.2⟩
theorem l5Not_pure (k : Int) (v : Int) (E : D) (hE : IsK E) : SpecR Try.prog 265 [.st [.int .i64 k, .int .i64 v, E]] (fun _ => none) (fun c => ((l5Not_selD k v E c).2, fun _ => none)) := by
  refine SpecR.of_walk Try.func265 rfl (by simp [Try.f265]) fun B => ?_
  rcases hE with rfl | ⟨ks, rfl⟩
  all_goals (repeat' (first
    | refine AW_seq ?_
    | refine zaac (id := 0) Γy10_ok [] (by kernel_rfl) ?_; simp  [-List.getD_eq_getElem?_getD, -List.drop_one, ↓zaab, ↓zaaa, go_sem]; try (refine AW_shut 1 ?_; simp [go_sem, dat, li])
    | refine zaac (id := 1) Γy10_ok [] (by kernel_rfl) ?_; simp  [-List.getD_eq_getElem?_getD, -List.drop_one, ↓zaab, ↓zaaa, go_sem]
    | (refine zaag ?_)
    | (refine zaap ?_; simp [-List.getD_eq_getElem?_getD, -List.drop_one, ↓zaab, ↓zaaa, go_sem])
    | (refine zaan ?_; simp [-List.getD_eq_getElem?_getD, -List.drop_one, ↓zaab, ↓zaaa, go_sem])
    | (refine AW_ret ?_; try simp [-List.getD_eq_getElem?_getD, -List.drop_one, ↓zaab, ↓zaaa, go_sem, Try.results265])
    | (intro hx; change AW _ _ _ _ _ _)
    | (intro hx; change retR _ _ _ _ _)
    | (refine ⟨?_, ?_⟩ <;> change AW _ _ _ _ _ _)
    | (intro hx; refine ⟨fun hs => ?_, fun hs => ?_⟩)
    | (refine ⟨fun hs => ?_, fun hs => ?_⟩)
    | (refine ⟨?_, fun hs => ?_⟩; change AW _ _ _ _ _ _)
    | (refine ⟨fun hs => ?_, ?_⟩; rotate_left; change AW _ _ _ _ _ _; rotate_left)))
  all_goals (first
    | (refine l5Not_ret _ _ _ (.mk 3 0 [.mk k v []]) ?_ ?_ ?_; (first | exact Or.inl rfl | exact Or.inr rfl); (focus (simp [-List.getD_eq_getElem?_getD, -List.drop_one, ↓zaab, ↓zaaa, go_sem, Try.results265, dat, datL_map, li, cat_cons, cX_mk, cat_nil]; done)); (focus ((trivial); done)))
    | (refine l5Not_ret _ _ _ (.mk 3 0 [.mk k v ks]) ?_ ?_ ?_; (first | exact Or.inl rfl | exact Or.inr rfl); (focus (simp [-List.getD_eq_getElem?_getD, -List.drop_one, ↓zaab, ↓zaaa, go_sem, Try.results265, dat, datL_map, li, cat_cons, cX_mk, cat_nil]; done)); (focus ((trivial); done)))
    | skip)
noncomputable def l5NotC : Con := .rel fun args H => match args with
  | [.st [.int .i64 k, .int .i64 v, E]] => ((IsK E), fun c => (l5Not_enc (l5Not_sel k v E c), H))
  | _ => (False, fun _ => (.any, H))
attribute [go_sem] l5NotC
theorem l5NotC_ok : ConOk Try.prog 265 l5NotC := by
  refine ⟨zaal Try.func265 (by decide) rfl, fun args H h => ?_⟩
  revert h
  dsimp only
  split
  · intro h
    have hE := h
    try simp only [de_cat] at *
    exact SpecR.enc ((SpecR.frame0 (l5Not_pure _ _ _ hE) (H := H)).shut) fun c => Prod.ext (l5Not_okD _ _ _ hE c).2.symm rfl
  · intro h
    exact h.elim
noncomputable def Γy11 : FuncId → Con := ext Γy10 265 l5NotC
attribute [go_sem] Γy11
theorem Γy11_ok : ∀ g, ConOk Try.prog g (Γy11 g) := ext_ok Γy10_ok l5NotC_ok

noncomputable def l5Copy_enc : Tree → D := sX
attribute [go_sem] l5Copy_enc
theorem l5Copy_flat (x : Tree) : dat (l5Copy_enc x) = l5Copy_enc x := by simp [go_sem]
def l5Copy_good (k : Int) (v : Int) (ks : List Tree) : Tree → Prop := fun x => x = .mk k v ks
def l5Copy_gd (k : Int) (v : Int) (ks : List Tree) (x : (Tree) × D) : Prop := l5Copy_good k v ks x.1 ∧ dat x.2 = l5Copy_enc x.1
noncomputable def l5Copy_selD (k : Int) (v : Int) (ks : List Tree) (c : Any) : (Tree) × D := sel (l5Copy_gd k v ks) ((.mk k v ks : Tree), l5Copy_enc (.mk k v ks)) c
noncomputable def l5Copy_sel (k : Int) (v : Int) (ks : List Tree) (c : Any) : Tree := (l5Copy_selD k v ks c).1
theorem l5Copy_okD (k : Int) (v : Int) (ks : List Tree) (hw : WellF (.mk k v ks)) (c : Any) : l5Copy_gd k v ks (l5Copy_selD k v ks c) := by
  have hx : l5Copy_good k v ks (.mk k v ks) := rfl
  exact sel_ok (p := l5Copy_gd k v ks) (x0 := ((.mk k v ks : Tree), l5Copy_enc (.mk k v ks))) ⟨hx, l5Copy_flat _⟩ c
theorem l5Copy_ok (k : Int) (v : Int) (ks : List Tree) (hw : WellF (.mk k v ks)) (c : Any) : l5Copy_good k v ks (l5Copy_sel k v ks c) := (l5Copy_okD k v ks hw c).1
theorem l5Copy_ret (k : Int) (v : Int) (ks : List Tree) {e_ : Exit} {S_ : St} (x : Tree) (he_ : e_ = .ret ∨ e_ = .normal)
    (h1 : (zaak Try.prog S_ Try.f264.results.toList).1 ∧ dat (resD (zaak Try.prog S_ Try.f264.results.toList).2.1) = l5Copy_enc x) (hg : l5Copy_good k v ks x) :
    retR Try.prog Try.f264 (fun c => ((l5Copy_selD k v ks c).2, fun _ => none)) e_ S_ :=
  ret_prel (good := l5Copy_gd k v ks) (enc := fun x : (Tree) × D => x.2) (x, resD (zaak Try.prog S_ Try.f264.results.toList).2.1) he_ ⟨h1.1, rfl⟩ ⟨hg, h1.2⟩
noncomputable def l5CopyCn (n_ : Nat) : Con := .rel fun args H => match args with
  | [.st [.int .i64 k, .int .i64 v, .list n_ks c_ks]] => ((Is cX n_ks c_ks) ∧ (WellF (.mk k v (de cX c_ks))) ∧ (tsz (.mk k v (de cX c_ks)) < n_), fun c => (l5Copy_enc (l5Copy_sel k v (de cX c_ks) c), H))
  | _ => (False, fun _ => (.any, H))
attribute [go_sem] l5CopyCn
theorem l5CopyCn_ok {n_ : Nat} (ih : ∀ (k : Int) (v : Int) (ks : List Tree) (hw : WellF (.mk k v ks)) (hm_ : tsz (.mk k v ks) < n_), SpecR Try.prog 264 [.st [.int .i64 k, .int .i64 v, li cX ks]] (fun _ => none) (fun c => ((l5Copy_selD k v ks c).2, fun _ => none))) : ConOk Try.prog 264 (l5CopyCn n_) := by
  refine ⟨zaal Try.func264 (by decide) rfl, fun args H h => ?_⟩
  revert h
  dsimp only
  split
  · intro h
    obtain ⟨⟨ks, rfl, rfl⟩, hw, hm_⟩ := h
    try simp only [de_cat] at *
    exact SpecR.enc ((SpecR.frame0 (ih _ _ ks hw hm_) (H := H)).shut) fun c => Prod.ext (l5Copy_okD _ _ _ hw c).2.symm rfl
  · intro h
    exact h.elim
set_option maxHeartbeats 4000000 in
theorem l5Copy_rec : ∀ (n_ : Nat), ∀ (k : Int) (v : Int) (ks : List Tree) (hw : WellF (.mk k v ks)) (hm_ : tsz (.mk k v ks) < n_), SpecR Try.prog 264 [.st [.int .i64 k, .int .i64 v, li cX ks]] (fun _ => none) (fun c => ((l5Copy_selD k v ks c).2, fun _ => none)) := by
  intro n_
  induction n_ with
  | zero => intros; omega
  | succ n_ ih =>
  intro k v ks hw hm_
  have Γr_ok := ext_ok Γy11_ok (l5CopyCn_ok ih)
  refine SpecR.of_walk Try.func264 rfl (by simp [Try.f264]) fun B => ?_
  obtain ⟨w1, w2, w3, w4⟩ := hw.at; have w5 := arF_le k
  all_goals (repeat' (first
    | refine AW_seq ?_
    | refine zaac (id := 0) Γr_ok [] (by kernel_rfl) ?_; simp  [-List.getD_eq_getElem?_getD, -List.drop_one, ↓zaab, ↓zaaa, go_sem]; try (refine AW_shut 1 ?_; simp [go_sem])
    | (refine AW_lenP 1 2 ⟨rfl, rfl⟩ fun hm => ?_); refine zaac (id := 1) Γr_ok [] (by kernel_rfl) ?_; simp  [-List.getD_eq_getElem?_getD, -List.drop_one, ↓zaab, ↓zaaa, go_sem]; try ((refine AW_boxNil2 3 3 rfl ?_); (refine AW_matBox 3 rfl fun qb hqb => ?_); (clear hqb); (refine AW_gen (fun H1 => H1 qb = some [.int .i64 k, .int .i64 v, .fr 3 0 (cat cX (ks.take 0))]) (by simp [go_sem, cat_nil]) fun H1 w1 => ?_))
    | refine zaac (id := 2) Γr_ok [] (by kernel_rfl) ?_; simp  [-List.getD_eq_getElem?_getD, -List.drop_one, ↓zaab, ↓zaaa, go_sem]
    | refine zaac (id := 3) Γr_ok [] (by kernel_rfl) ?_; simp  [-List.getD_eq_getElem?_getD, -List.drop_one, ↓zaab, ↓zaaa, go_sem]
    | ((have qt := tsz_lt (k := k) (v := v) c14); (have qw := w4 q.1 c14); (refine AW_matCell qb 2 (all := [.int .i64 k, .int .i64 v, .fr 3 q.1 (cat cX (ks.take q.1))]) g2 rfl fun u cu ju hu hcu hdu => ?_); (have uq : ¬ u = qb := (by intro e; rw [e] at hu; dsimp only at hu; rw [g2] at hu; cases hu)); (clear hu)); refine zaao (id := 5) Γr_ok mixed [(qb, [.int .i64 k, .int .i64 v, .sl u 3 0 q.1 cu])] [] [] (by kernel_rfl) (by kernel_rfl) (by simp [-List.getD_eq_getElem?_getD, -List.drop_one, ↓zaab, ↓zaaa, go_sem, c14, zaas c14, Nat.sub_pos_of_lt c14, qw, uq, Ne.symm uq, Tree.eta, (show tsz (nth ks q.1) < n_ by omega), (show q.1 ≤ 9223372036854775806 by omega), (show 2 * (q.1 + 1) * 40 ≤ 281474976710656 by omega), hdu, (show min q.1 ks.length = q.1 by omega)]) (by simp [-List.getD_eq_getElem?_getD, -List.drop_one, ↓zaab, ↓zaaa, go_sem, c14, zaas c14, Nat.sub_pos_of_lt c14, qw, uq, Ne.symm uq, Tree.eta, (show tsz (nth ks q.1) < n_ by omega), (show q.1 ≤ 9223372036854775806 by omega), (show 2 * (q.1 + 1) * 40 ≤ 281474976710656 by omega), hdu, (show min q.1 ks.length = q.1 by omega)]) ?_; simp  [-List.getD_eq_getElem?_getD, -List.drop_one, ↓zaab, ↓zaaa, go_sem, c14, zaas c14, Nat.sub_pos_of_lt c14, qw, uq, Ne.symm uq, Tree.eta, (show tsz (nth ks q.1) < n_ by omega), (show q.1 ≤ 9223372036854775806 by omega), (show 2 * (q.1 + 1) * 40 ≤ 281474976710656 by omega), hdu, (show min q.1 ks.length = q.1 by omega)]; try ((intro c5); (have z0 := l5Copy_ok (nth ks q.1).k (nth ks q.1).v (nth ks q.1).ks (by rw [Tree.eta]; exact qw) c5); (simp only [l5Copy_good] at z0); (rw [Tree.eta] at z0); (generalize l5Copy_sel (nth ks q.1).k (nth ks q.1).v (nth ks q.1).ks c5 = z at *); (subst z0); (refine AW_gen (fun H2 => H2 qb = some [.int .i64 k, .int .i64 v, .fr 3 (q.1 + 1) (cat cX (ks.take (q.1 + 1)))]) (by simp [upd, uq, Ne.symm uq, take_snocX c14]) fun H2 y1 => ?_))
    | refine zaac (id := 4) Γr_ok [] (by kernel_rfl) ?_; simp  [-List.getD_eq_getElem?_getD, -List.drop_one, ↓zaab, ↓zaaa, go_sem, wrapS (k := q.1) (by omega)]
    | ((obtain ⟨i, H5⟩ := q); (dsimp only at *); (obtain rfl : i = ks.length := by omega)); refine zaac (id := 6) Γr_ok [] (by kernel_rfl) ?_; simp  [-List.getD_eq_getElem?_getD, -List.drop_one, ↓zaab, ↓zaaa, go_sem, g2]
    | refine zaaf (c := .tmp 14) ?_; simp [-List.getD_eq_getElem?_getD, -List.drop_one, ↓zaab, ↓zaaa, go_sem]; try first | (refine ⟨?_, ?_⟩ <;> change AW _ _ _ _ _ _) | (refine ⟨fun c14 => ?_, fun c14 => ?_⟩ <;> (try simp [B_iff, B_not] at c14))
    | (refine zaag (id := 0) (AW_loop (ι := Nat × Hp) (fun q : Nat × Hp => ⟨(upd (upd (upd (upd (fun _ => .any) 1 (.pd [.int .i64 k, .int .i64 v, li cX ks])) 2 (.box [.int .i64 0, .int .i64 0, .nil])) 3 (.ptr qb 0)) 4 (.int .i64 q.1)), q.2⟩) (fun q => q.1 ≤ ks.length ∧ q.2 qb = some [.int .i64 k, .int .i64 v, .fr 3 q.1 (cat cX (ks.take q.1))]) (fun q => ks.length - q.1) ((0, H1)) ?_ ?_ ?_); exact ⟨Nat.zero_le _, w1⟩; ((repeat' (first | exact zaad (by assumption) | exact zaah | refine zaai ?_ ?_ | refine zaae ?_)) <;> simp [-List.getD_eq_getElem?_getD, -List.drop_one, ↓zaab, ↓zaaa, go_sem]); rintro q ⟨g1, g2⟩)
    | (refine ⟨(q.1 + 1, H2), ⟨by dsimp only; omega, y1⟩, by first | omega | (simp; done) | (simp; omega), ?_⟩; ((repeat' (first | exact zaad (by assumption) | exact zaah | refine zaai ?_ ?_ | refine zaae ?_)) <;> simp [-List.getD_eq_getElem?_getD, -List.drop_one, ↓zaab, ↓zaaa, go_sem]))
    | (refine zaag ?_)
    | (refine zaap ?_; simp [-List.getD_eq_getElem?_getD, -List.drop_one, ↓zaab, ↓zaaa, go_sem])
    | (refine zaan ?_; simp [-List.getD_eq_getElem?_getD, -List.drop_one, ↓zaab, ↓zaaa, go_sem])
    | (refine AW_ret ?_; try simp [-List.getD_eq_getElem?_getD, -List.drop_one, ↓zaab, ↓zaaa, go_sem, Try.results264])
    | (intro hx; change AW _ _ _ _ _ _)
    | (intro hx; change retR _ _ _ _ _)
    | (refine ⟨?_, ?_⟩ <;> change AW _ _ _ _ _ _)
    | (intro hx; refine ⟨fun hs => ?_, fun hs => ?_⟩)
    | (refine ⟨fun hs => ?_, fun hs => ?_⟩)
    | (refine ⟨?_, fun hs => ?_⟩; change AW _ _ _ _ _ _)
    | (refine ⟨fun hs => ?_, ?_⟩; rotate_left; change AW _ _ _ _ _ _; rotate_left)))
  all_goals (first
    | (refine l5Copy_ret _ _ _ (.mk k v ks) ?_ ?_ ?_; (first | exact Or.inl rfl | exact Or.inr rfl); (focus (simp [-List.getD_eq_getElem?_getD, -List.drop_one, ↓zaab, ↓zaaa, go_sem, Try.results264, dat, datL_map, li, List.take_length]; done)); (focus ((rfl); done)))
    | skip)
theorem l5Copy_pure (k : Int) (v : Int) (ks : List Tree) (hw : WellF (.mk k v ks)) : SpecR Try.prog 264 [.st [.int .i64 k, .int .i64 v, li cX ks]] (fun _ => none) (fun c => ((l5Copy_selD k v ks c).2, fun _ => none)) := l5Copy_rec (tsz (.mk k v ks) + 1) k v ks hw (by omega)
noncomputable def l5CopyC : Con := .rel fun args H => match args with
  | [.st [.int .i64 k, .int .i64 v, .list n_ks c_ks]] => ((Is cX n_ks c_ks) ∧ (WellF (.mk k v (de cX c_ks))), fun c => (l5Copy_enc (l5Copy_sel k v (de cX c_ks) c), H))
  | _ => (False, fun _ => (.any, H))
attribute [go_sem] l5CopyC
theorem l5CopyC_ok : ConOk Try.prog 264 l5CopyC := by
  refine ⟨zaal Try.func264 (by decide) rfl, fun args H h => ?_⟩
  revert h
  dsimp only
  split
  · intro h
    obtain ⟨⟨ks, rfl, rfl⟩, hw⟩ := h
    try simp only [de_cat] at *
    exact SpecR.enc ((SpecR.frame0 (l5Copy_pure _ _ ks hw) (H := H)).shut) fun c => Prod.ext (l5Copy_okD _ _ _ hw c).2.symm rfl
  · intro h
    exact h.elim
noncomputable def Γy12 : FuncId → Con := ext Γy11 264 l5CopyC
attribute [go_sem] Γy12
theorem Γy12_ok : ∀ g, ConOk Try.prog g (Γy12 g) := ext_ok Γy11_ok l5CopyC_ok

noncomputable def l5Push_enc : Tree → D := sX
attribute [go_sem] l5Push_enc
theorem l5Push_flat (x : Tree) : dat (l5Push_enc x) = l5Push_enc x := by simp [go_sem]
def l5Push_good (k : Int) (v : Int) (ks : List Tree) (neg : Bool) : Tree → Prop := fun _ => True
def l5Push_gd (k : Int) (v : Int) (ks : List Tree) (neg : Bool) (x : (Tree) × D) : Prop := l5Push_good k v ks neg x.1 ∧ dat x.2 = l5Push_enc x.1
noncomputable def l5Push_selD (k : Int) (v : Int) (ks : List Tree) (neg : Bool) (c : Any) : (Tree) × D := sel (l5Push_gd k v ks neg) ((.mk 1 0 [] : Tree), l5Push_enc (.mk 1 0 [])) c
noncomputable def l5Push_sel (k : Int) (v : Int) (ks : List Tree) (neg : Bool) (c : Any) : Tree := (l5Push_selD k v ks neg c).1
theorem l5Push_okD (k : Int) (v : Int) (ks : List Tree) (neg : Bool) (hw : WellF (.mk k v ks)) (c : Any) : l5Push_gd k v ks neg (l5Push_selD k v ks neg c) := by
  have hx : l5Push_good k v ks neg (.mk 1 0 []) := trivial
  exact sel_ok (p := l5Push_gd k v ks neg) (x0 := ((.mk 1 0 [] : Tree), l5Push_enc (.mk 1 0 []))) ⟨hx, l5Push_flat _⟩ c
theorem l5Push_ret (k : Int) (v : Int) (ks : List Tree) (neg : Bool) {e_ : Exit} {S_ : St} (x : Tree) (he_ : e_ = .ret ∨ e_ = .normal)
    (h1 : (zaak Try.prog S_ Try.f242.results.toList).1 ∧ dat (resD (zaak Try.prog S_ Try.f242.results.toList).2.1) = l5Push_enc x) (hg : l5Push_good k v ks neg x) :
    retR Try.prog Try.f242 (fun c => ((l5Push_selD k v ks neg c).2, fun _ => none)) e_ S_ :=
  ret_prel (good := l5Push_gd k v ks neg) (enc := fun x : (Tree) × D => x.2) (x, resD (zaak Try.prog S_ Try.f242.results.toList).2.1) he_ ⟨h1.1, rfl⟩ ⟨hg, h1.2⟩
noncomputable def l5PushCn (n_ : Nat) : Con := .rel fun args H => match args with
  | [.st [.int .i64 k, .int .i64 v, .list n_ks c_ks], .bool neg] => ((Is cX n_ks c_ks) ∧ (WellF (.mk k v (de cX c_ks))) ∧ (tsz (.mk k v (de cX c_ks)) < n_), fun c => (l5Push_enc (l5Push_sel k v (de cX c_ks) neg c), H))
  | _ => (False, fun _ => (.any, H))
attribute [go_sem] l5PushCn
theorem l5PushCn_ok {n_ : Nat} (ih : ∀ (k : Int) (v : Int) (ks : List Tree) (neg : Bool) (hw : WellF (.mk k v ks)) (hm_ : tsz (.mk k v ks) < n_), SpecR Try.prog 242 [.st [.int .i64 k, .int .i64 v, li cX ks], .bool neg] (fun _ => none) (fun c => ((l5Push_selD k v ks neg c).2, fun _ => none))) : ConOk Try.prog 242 (l5PushCn n_) := by
  refine ⟨zaal Try.func242 (by decide) rfl, fun args H h => ?_⟩
  revert h
  dsimp only
  split
  · intro h
    obtain ⟨⟨ks, rfl, rfl⟩, hw, hm_⟩ := h
    try simp only [de_cat] at *
    exact SpecR.enc ((SpecR.frame0 (ih _ _ ks _ hw hm_) (H := H)).shut) fun c => Prod.ext (l5Push_okD _ _ _ _ hw c).2.symm rfl
  · intro h
    exact h.elim
set_option maxHeartbeats 8000000 in
theorem l5Push_rec : ∀ (n_ : Nat), ∀ (k : Int) (v : Int) (ks : List Tree) (neg : Bool) (hw : WellF (.mk k v ks)) (hm_ : tsz (.mk k v ks) < n_), SpecR Try.prog 242 [.st [.int .i64 k, .int .i64 v, li cX ks], .bool neg] (fun _ => none) (fun c => ((l5Push_selD k v ks neg c).2, fun _ => none)) := by
  intro n_
  induction n_ with
  | zero => intros; omega
  | succ n_ ih =>
  intro k v ks neg hw hm_
  have Γr_ok := ext_ok Γy12_ok (l5PushCn_ok ih)
  refine SpecR.of_walk Try.func242 rfl (by simp [Try.f242]) fun B => ?_
  have hk1 := hw.ks1; have hk2 := hw.ks2; have w4 := hw.at.2.2.2
  all_goals (repeat' (first
    | refine AW_seq ?_
    | refine zaac (id := 0) Γr_ok [] (by kernel_rfl) ?_; simp  [-List.getD_eq_getElem?_getD, -List.drop_one, ↓zaab, ↓zaaa, go_sem]; try (refine AW_shut 2 ?_; simp [go_sem])
    | refine zaac (id := 1) Γr_ok [] (by kernel_rfl) ?_; simp  [-List.getD_eq_getElem?_getD, -List.drop_one, ↓zaab, ↓zaaa, go_sem]
    | refine zaac (id := 2) Γr_ok [] (by kernel_rfl) ?_; simp  [-List.getD_eq_getElem?_getD, -List.drop_one, ↓zaab, ↓zaaa, go_sem]
    | refine zaac (id := 3) Γr_ok [] (by kernel_rfl) ?_; simp  [-List.getD_eq_getElem?_getD, -List.drop_one, ↓zaab, ↓zaaa, go_sem]
    | refine zaac (id := 4) Γr_ok [] (by kernel_rfl) ?_; simp  [-List.getD_eq_getElem?_getD, -List.drop_one, ↓zaab, ↓zaaa, go_sem]
    | refine zaac (id := 5) Γr_ok [] (by kernel_rfl) ?_; simp  [-List.getD_eq_getElem?_getD, -List.drop_one, ↓zaab, ↓zaaa, go_sem]; try (intro c5)
    | refine zaac (id := 6) Γr_ok [] (by kernel_rfl) ?_; simp  [-List.getD_eq_getElem?_getD, -List.drop_one, ↓zaab, ↓zaaa, go_sem]
    | refine zaac (id := 7) Γr_ok [] (by kernel_rfl) ?_; simp  [-List.getD_eq_getElem?_getD, -List.drop_one, ↓zaab, ↓zaaa, go_sem]
    | ((have ql := hk1 (by omega)); (have qk : 0 < ks.length := (by omega)); (have qt := tsz_lt (k := k) (v := v) qk); (have qw := w4 0 qk)); refine zaac (id := 8) Γr_ok [] (by kernel_rfl) ?_; simp  [-List.getD_eq_getElem?_getD, -List.drop_one, ↓zaab, ↓zaaa, go_sem, qk, zaas qk, Nat.sub_pos_of_lt qk, cat_take0 (f := cX) qk, (show 3 ≤ ks.length * 3 by omega), (show tsz (nth ks 0) < n_ by omega), Tree.eta, qw]; try (intro c8; generalize l5Push_sel (nth ks 0).k (nth ks 0).v (nth ks 0).ks (!neg) c8 = z8 at *)
    | refine zaac (id := 9) Γr_ok [] (by kernel_rfl) ?_; simp  [-List.getD_eq_getElem?_getD, -List.drop_one, ↓zaab, ↓zaaa, go_sem]
    | ((have ql := hk1 (by omega)); (have qk : 0 < ks.length := (by omega)); (have qt := tsz_lt (k := k) (v := v) qk); (have qw := w4 0 qk)); refine zaac (id := 10) Γr_ok [] (by kernel_rfl) ?_; simp  [-List.getD_eq_getElem?_getD, -List.drop_one, ↓zaab, ↓zaaa, go_sem, qk, zaas qk, Nat.sub_pos_of_lt qk, cat_take0 (f := cX) qk, (show 3 ≤ ks.length * 3 by omega), (show tsz (nth ks 0) < n_ by omega), Tree.eta, qw]; try (intro c10; generalize l5Push_sel (nth ks 0).k (nth ks 0).v (nth ks 0).ks neg c10 = z10 at *)
    | refine zaac (id := 11) Γr_ok [] (by kernel_rfl) ?_; simp  [-List.getD_eq_getElem?_getD, -List.drop_one, ↓zaab, ↓zaaa, go_sem]
    | refine zaac (id := 12) Γr_ok [] (by kernel_rfl) ?_; simp  [-List.getD_eq_getElem?_getD, -List.drop_one, ↓zaab, ↓zaaa, go_sem]
    | ((have ql := hk1 (by omega)); (have qk : 0 < ks.length := (by omega)); (have qt := tsz_lt (k := k) (v := v) qk); (have qw := w4 0 qk)); refine zaac (id := 13) Γr_ok [] (by kernel_rfl) ?_; simp  [-List.getD_eq_getElem?_getD, -List.drop_one, ↓zaab, ↓zaaa, go_sem, qk, zaas qk, Nat.sub_pos_of_lt qk, cat_take0 (f := cX) qk, (show 3 ≤ ks.length * 3 by omega), (show tsz (nth ks 0) < n_ by omega), Tree.eta, qw]; try (intro c13; generalize l5Push_sel (nth ks 0).k (nth ks 0).v (nth ks 0).ks neg c13 = z13 at *; refine AW_shut 5 ?_; simp [go_sem])
    | refine zaac (id := 14) Γr_ok [] (by kernel_rfl) ?_; simp  [-List.getD_eq_getElem?_getD, -List.drop_one, ↓zaab, ↓zaaa, go_sem]
    | refine zaao (id := 15) Γr_ok mixed [] [] [] (by kernel_rfl) (by kernel_rfl) (by simp [-List.getD_eq_getElem?_getD, -List.drop_one, ↓zaab, ↓zaaa, go_sem]) (by simp [-List.getD_eq_getElem?_getD, -List.drop_one, ↓zaab, ↓zaaa, go_sem]) ?_; simp  [-List.getD_eq_getElem?_getD, -List.drop_one, ↓zaab, ↓zaaa, go_sem]; try (intro c15; generalize l5True_sel c15 = z15 at *)
    | refine zaao (id := 16) Γr_ok mixed [] [] [] (by kernel_rfl) (by kernel_rfl) (by simp [-List.getD_eq_getElem?_getD, -List.drop_one, ↓zaab, ↓zaaa, go_sem]) (by simp [-List.getD_eq_getElem?_getD, -List.drop_one, ↓zaab, ↓zaaa, go_sem]) ?_; simp  [-List.getD_eq_getElem?_getD, -List.drop_one, ↓zaab, ↓zaaa, go_sem]; try (intro c16 c16'; generalize l5True_sel c16 = z16 at *)
    | refine zaac (id := 17) Γr_ok [] (by kernel_rfl) ?_; simp  [-List.getD_eq_getElem?_getD, -List.drop_one, ↓zaab, ↓zaaa, go_sem]
    | refine zaac (id := 18) Γr_ok [] (by kernel_rfl) ?_; simp  [-List.getD_eq_getElem?_getD, -List.drop_one, ↓zaab, ↓zaaa, go_sem]
    | refine zaac (id := 19) Γr_ok [] (by kernel_rfl) ?_; simp  [-List.getD_eq_getElem?_getD, -List.drop_one, ↓zaab, ↓zaaa, go_sem]
    | ((have ql := hk2 (by omega) (by omega) (by omega) (by omega) (by omega) (by omega)); (have qk : 0 < ks.length := (by omega)); (have qj : 1 < ks.length := (by omega)); (have qt := tsz_lt (k := k) (v := v) qk); (have qu := tsz_lt (k := k) (v := v) qj); (have qw := w4 0 qk); (have qx := w4 1 qj)); refine zaao (id := 20) Γr_ok mixed [] [] [2, 1] (by kernel_rfl) (by kernel_rfl) (by simp [-List.getD_eq_getElem?_getD, -List.drop_one, ↓zaab, ↓zaaa, go_sem, qk, zaas qk, Nat.sub_pos_of_lt qk, qj, cat_take0 (f := cX) qk, (show 3 ≤ ks.length * 3 by omega), (show (cat cX ks).drop 3 = cat cX (ks.drop 1) from cat_drop (f := cX) (sz := 3) ks 1), (show 3 ≤ ks.length * 3 - 3 by omega), (show 3 ≤ (ks.length - 1) * 3 by omega), (show (1 : Int) < (ks.length : Int) by omega), Nat.sub_pos_of_lt qj, (show tsz (nth ks 0) < n_ by omega), (show tsz (nth ks 1) < n_ by omega), Tree.eta, qw, qx]) (by simp [-List.getD_eq_getElem?_getD, -List.drop_one, ↓zaab, ↓zaaa, go_sem, qk, zaas qk, Nat.sub_pos_of_lt qk, qj, cat_take0 (f := cX) qk, (show 3 ≤ ks.length * 3 by omega), (show (cat cX ks).drop 3 = cat cX (ks.drop 1) from cat_drop (f := cX) (sz := 3) ks 1), (show 3 ≤ ks.length * 3 - 3 by omega), (show 3 ≤ (ks.length - 1) * 3 by omega), (show (1 : Int) < (ks.length : Int) by omega), Nat.sub_pos_of_lt qj, (show tsz (nth ks 0) < n_ by omega), (show tsz (nth ks 1) < n_ by omega), Tree.eta, qw, qx]) ?_; simp  [-List.getD_eq_getElem?_getD, -List.drop_one, ↓zaab, ↓zaaa, go_sem, qk, zaas qk, Nat.sub_pos_of_lt qk, qj, cat_take0 (f := cX) qk, (show 3 ≤ ks.length * 3 by omega), (show (cat cX ks).drop 3 = cat cX (ks.drop 1) from cat_drop (f := cX) (sz := 3) ks 1), (show 3 ≤ ks.length * 3 - 3 by omega), (show 3 ≤ (ks.length - 1) * 3 by omega), (show (1 : Int) < (ks.length : Int) by omega), Nat.sub_pos_of_lt qj, (show tsz (nth ks 0) < n_ by omega), (show tsz (nth ks 1) < n_ by omega), Tree.eta, qw, qx]; try (intro c20 c20'; generalize l5Push_sel (nth ks 0).k (nth ks 0).v (nth ks 0).ks neg c20 = z20 at *; generalize l5Push_sel (nth ks 1).k (nth ks 1).v (nth ks 1).ks neg c20' = y20 at *)
    | refine zaaf (c := .tmp 9) ?_; simp [-List.getD_eq_getElem?_getD, -List.drop_one, ↓zaab, ↓zaaa, go_sem]; try first | (refine ⟨?_, ?_⟩ <;> change AW _ _ _ _ _ _) | (refine ⟨fun c9 => ?_, fun c9 => ?_⟩ <;> (try simp [B_iff, B_not] at c9))
    | refine zaaf (c := .tmp 12) ?_; simp [-List.getD_eq_getElem?_getD, -List.drop_one, ↓zaab, ↓zaaa, go_sem]; try first | (refine ⟨?_, ?_⟩ <;> change AW _ _ _ _ _ _) | (refine ⟨fun c12 => ?_, fun c12 => ?_⟩ <;> (try simp [B_iff, B_not] at c12))
    | refine zaaf (c := .tmp 24) ?_; simp [-List.getD_eq_getElem?_getD, -List.drop_one, ↓zaab, ↓zaaa, go_sem]; try first | (refine ⟨?_, ?_⟩ <;> change AW _ _ _ _ _ _) | (refine ⟨fun c24 => ?_, fun c24 => ?_⟩ <;> (try simp [B_iff, B_not] at c24))
    | refine zaaf (c := .tmp 33) ?_; simp [-List.getD_eq_getElem?_getD, -List.drop_one, ↓zaab, ↓zaaa, go_sem]; try first | (refine ⟨?_, ?_⟩ <;> change AW _ _ _ _ _ _) | (refine ⟨fun c33 => ?_, fun c33 => ?_⟩ <;> (try simp [B_iff, B_not] at c33))
    | refine zaaf (c := .tmp 43) ?_; simp [-List.getD_eq_getElem?_getD, -List.drop_one, ↓zaab, ↓zaaa, go_sem]; try first | (refine ⟨?_, ?_⟩ <;> change AW _ _ _ _ _ _) | (refine ⟨fun c43 => ?_, fun c43 => ?_⟩ <;> (try simp [B_iff, B_not] at c43))
    | refine zaaf (c := .tmp 56) ?_; simp [-List.getD_eq_getElem?_getD, -List.drop_one, ↓zaab, ↓zaaa, go_sem]; try first | (refine ⟨?_, ?_⟩ <;> change AW _ _ _ _ _ _) | (refine ⟨fun c56 => ?_, fun c56 => ?_⟩ <;> (try simp [B_iff, B_not] at c56))
    | refine zaaf (c := .tmp 68) ?_; simp [-List.getD_eq_getElem?_getD, -List.drop_one, ↓zaab, ↓zaaa, go_sem]; try first | (refine ⟨?_, ?_⟩ <;> change AW _ _ _ _ _ _) | (refine ⟨fun c68 => ?_, fun c68 => ?_⟩ <;> (try simp [B_iff, B_not] at c68))
    | (refine zaag ?_)
    | (refine zaap ?_; simp [-List.getD_eq_getElem?_getD, -List.drop_one, ↓zaab, ↓zaaa, go_sem])
    | (refine zaan ?_; simp [-List.getD_eq_getElem?_getD, -List.drop_one, ↓zaab, ↓zaaa, go_sem])
    | (refine AW_ret ?_; try simp [-List.getD_eq_getElem?_getD, -List.drop_one, ↓zaab, ↓zaaa, go_sem, Try.results242])
    | (intro hx; change AW _ _ _ _ _ _)
    | (intro hx; change retR _ _ _ _ _)
    | (refine ⟨?_, ?_⟩ <;> change AW _ _ _ _ _ _)
    | (intro hx; refine ⟨fun hs => ?_, fun hs => ?_⟩)
    | (refine ⟨fun hs => ?_, fun hs => ?_⟩)
    | (refine ⟨?_, fun hs => ?_⟩; change AW _ _ _ _ _ _)
    | (refine ⟨fun hs => ?_, ?_⟩; rotate_left; change AW _ _ _ _ _ _; rotate_left)))
  all_goals (first
    | (refine l5Push_ret _ _ _ _ (.mk k v []) ?_ ?_ ?_; (first | exact Or.inl rfl | exact Or.inr rfl); (focus (simp [-List.getD_eq_getElem?_getD, -List.drop_one, ↓zaab, ↓zaaa, go_sem, Try.results242, dat, datL_map, li, cat_nil]; done)); (focus ((trivial); done)))
    | (refine l5Push_ret _ _ _ _ (l5Not_sel k v .nil c5) ?_ ?_ ?_; (first | exact Or.inl rfl | exact Or.inr rfl); (focus (simp [-List.getD_eq_getElem?_getD, -List.drop_one, ↓zaab, ↓zaaa, go_sem, Try.results242, dat, datL_map, li]; done)); (focus ((trivial); done)))
    | (refine l5Push_ret _ _ _ _ (z8) ?_ ?_ ?_; (first | exact Or.inl rfl | exact Or.inr rfl); (focus (simp [-List.getD_eq_getElem?_getD, -List.drop_one, ↓zaab, ↓zaaa, go_sem, Try.results242, dat, datL_map, li]; done)); (focus ((trivial); done)))
    | (refine l5Push_ret _ _ _ _ (.mk 6 0 [z10]) ?_ ?_ ?_; (first | exact Or.inl rfl | exact Or.inr rfl); (focus (simp [-List.getD_eq_getElem?_getD, -List.drop_one, ↓zaab, ↓zaaa, go_sem, Try.results242, dat, datL_map, li, cat_cons, cX_eq, cat_nil]; done)); (focus ((trivial); done)))
    | (refine l5Push_ret _ _ _ _ (.mk 7 0 [z15, z13]) ?_ ?_ ?_; (first | exact Or.inl rfl | exact Or.inr rfl); (focus (simp [-List.getD_eq_getElem?_getD, -List.drop_one, ↓zaab, ↓zaaa, go_sem, Try.results242, dat, datL_map, li, cat_cons, cX_eq, cat_nil]; done)); (focus ((trivial); done)))
    | (refine l5Push_ret _ _ _ _ (.mk 8 0 [l5Not_sel z16.k z16.v (li cX z16.ks) c16', z13]) ?_ ?_ ?_; (first | exact Or.inl rfl | exact Or.inr rfl); (focus (simp [-List.getD_eq_getElem?_getD, -List.drop_one, ↓zaab, ↓zaaa, go_sem, Try.results242, dat, datL_map, li, cat_cons, cX_eq, cat_nil]; done)); (focus ((trivial); done)))
    | (refine l5Push_ret _ _ _ _ (.mk k 0 [z20, y20]) ?_ ?_ ?_; (first | exact Or.inl rfl | exact Or.inr rfl); (focus (simp [-List.getD_eq_getElem?_getD, -List.drop_one, ↓zaab, ↓zaaa, go_sem, Try.results242, dat, datL_map, li, cat_cons, cX_eq, cat_nil]; done)); (focus ((trivial); done)))
    | (refine l5Push_ret _ _ _ _ (.mk (dualF k) 0 [z20, y20]) ?_ ?_ ?_; (first | exact Or.inl rfl | exact Or.inr rfl); (focus (simp [-List.getD_eq_getElem?_getD, -List.drop_one, ↓zaab, ↓zaaa, go_sem, Try.results242, dat, datL_map, li, cat_cons, cX_eq, cat_nil]; done)); (focus ((trivial); done)))
    | skip)
theorem l5Push_pure (k : Int) (v : Int) (ks : List Tree) (neg : Bool) (hw : WellF (.mk k v ks)) : SpecR Try.prog 242 [.st [.int .i64 k, .int .i64 v, li cX ks], .bool neg] (fun _ => none) (fun c => ((l5Push_selD k v ks neg c).2, fun _ => none)) := l5Push_rec (tsz (.mk k v ks) + 1) k v ks neg hw (by omega)
noncomputable def l5PushC : Con := .rel fun args H => match args with
  | [.st [.int .i64 k, .int .i64 v, .list n_ks c_ks], .bool neg] => ((Is cX n_ks c_ks) ∧ (WellF (.mk k v (de cX c_ks))), fun c => (l5Push_enc (l5Push_sel k v (de cX c_ks) neg c), H))
  | _ => (False, fun _ => (.any, H))
attribute [go_sem] l5PushC
theorem l5PushC_ok : ConOk Try.prog 242 l5PushC := by
  refine ⟨zaal Try.func242 (by decide) rfl, fun args H h => ?_⟩
  revert h
  dsimp only
  split
  · intro h
    obtain ⟨⟨ks, rfl, rfl⟩, hw⟩ := h
    try simp only [de_cat] at *
    exact SpecR.enc ((SpecR.frame0 (l5Push_pure _ _ ks _ hw) (H := H)).shut) fun c => Prod.ext (l5Push_okD _ _ _ _ hw c).2.symm rfl
  · intro h
    exact h.elim
noncomputable def Γy13 : FuncId → Con := ext Γy12 242 l5PushC
attribute [go_sem] Γy13
theorem Γy13_ok : ∀ g, ConOk Try.prog g (Γy13 g) := ext_ok Γy12_ok l5PushC_ok

end Go.Proofs.Ytkjimmkemnmajaa.Vm

