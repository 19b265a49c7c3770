/-
  Expressions evaluated. No conditions.
-/
import Derived.Test.YtljncoikoffijaaE3
namespace Go.Proofs.Ytljncoikoffijaa.Vm
open Go
set_option linter.unusedVariables false
set_option linter.unusedSimpArgs false
set_option maxRecDepth 200000

theorem cat_take0 {α : Type} [Inhabited α] {f : α → List D} {sz : Nat} [Wide f sz] {xs : List α} (h : 0 < xs.length) : (cat f xs).take sz = f (nth xs 0) := by
  have := cat_at (f := f) h
  rwa [List.drop_zero] at this
theorem mod4 {x : Int} (h : 0 ≤ x) : 0 ≤ x.tmod 4 ∧ x.tmod 4 ≤ 3 := by rw [Int.tmod_eq_emod_of_nonneg h]; omega
noncomputable def l1Eval_enc : Int → D := fun x => .int .i64 x
attribute [go_sem] l1Eval_enc
def l1Eval_good (k : Int) (v : Int) (ks : List Tree) (xs : List Int) : Int → Prop := fun x => 0 ≤ x ∧ x ≤ 3
noncomputable def l1Eval_sel (k : Int) (v : Int) (ks : List Tree) (xs : List Int) (c : Any) : Int := sel (l1Eval_good k v ks xs) (0) c
theorem l1Eval_ok (k : Int) (v : Int) (ks : List Tree) (xs : List Int) (hw : Well (.mk k v ks)) (hv : ValsOk xs) (c : Any) : l1Eval_good k v ks xs (l1Eval_sel k v ks xs c) := sel_ok (p := l1Eval_good k v ks xs) (x0 := 0) (by simp [l1Eval_good]) c
theorem l1Eval_ret (k : Int) (v : Int) (ks : List Tree) (xs : List Int) {e_ : Exit} {S_ : St} (x : Int) (he_ : e_ = .ret ∨ e_ = .normal)
    (h1 : (takeRes Try.prog S_ Try.f162.results.toList).1 ∧ resD (takeRes Try.prog S_ Try.f162.results.toList).2.1 = l1Eval_enc x) (hg : l1Eval_good k v ks xs x) :
    retR Try.prog Try.f162 (fun c => (l1Eval_enc (l1Eval_sel k v ks xs c), fun _ => none)) e_ S_ := ret_prel (enc := l1Eval_enc) x he_ h1 hg
theorem l1Eval_retE (k : Int) (v : Int) (ks : List Tree) (xs : List Int) {e_ : Exit} {S_ : St} (he_ : e_ = .ret ∨ e_ = .normal)
    (h : ∃ x, (takeRes Try.prog S_ Try.f162.results.toList).1 ∧ resD (takeRes Try.prog S_ Try.f162.results.toList).2.1 = l1Eval_enc x ∧ l1Eval_good k v ks xs x) :
    retR Try.prog Try.f162 (fun c => (l1Eval_enc (l1Eval_sel k v ks xs c), fun _ => none)) e_ S_ := by
  obtain ⟨x, h1, h2, h3⟩ := h
  exact l1Eval_ret _ _ _ _ x he_ ⟨h1, h2⟩ h3
noncomputable def l1EvalCn (n_ : Nat) : Con := .prel fun
  | [.st [.int .i64 k, .int .i64 v, .list n_ks c_ks], .list n_xs c_xs] => ((Is cX n_ks c_ks) ∧ (Is cI n_xs c_xs) ∧ (Well (.mk k v (de cX c_ks))) ∧ (ValsOk (de cI c_xs)) ∧ (tsz (.mk k v (de cX c_ks)) < n_), fun c => l1Eval_enc (l1Eval_sel k v (de cX c_ks) (de cI c_xs) c))
  | _ => (False, fun _ => .any)
attribute [go_sem] l1EvalCn
theorem l1EvalCn_ok {n_ : Nat} (ih : ∀ (k : Int) (v : Int) (ks : List Tree) (xs : List Int) (hw : Well (.mk k v ks)) (hv : ValsOk xs) (hm_ : tsz (.mk k v ks) < n_), PureR Try.prog 162 [.st [.int .i64 k, .int .i64 v, li cX ks], li cI xs] (fun c => l1Eval_enc (l1Eval_sel k v ks xs c))) : ConOk Try.prog 162 (l1EvalCn n_) := by
  refine ⟨callable Try.func162 (by decide) rfl, fun args h => ?_⟩
  revert h
  dsimp only
  split
  · intro h
    obtain ⟨⟨ks, rfl, rfl⟩, ⟨xs, rfl, rfl⟩, hw, hv, hm_⟩ := h
    try simp only [de_cat] at *
    exact ⟨ih _ _ ks xs hw hv hm_, fun c => by simp [go_sem]⟩
  · intro h
    exact h.elim
set_option maxHeartbeats 1000000 in
theorem l1Eval_rec : ∀ (n_ : Nat), ∀ (k : Int) (v : Int) (ks : List Tree) (xs : List Int) (hw : Well (.mk k v ks)) (hv : ValsOk xs) (hm_ : tsz (.mk k v ks) < n_), PureR Try.prog 162 [.st [.int .i64 k, .int .i64 v, li cX ks], li cI xs] (fun c => l1Eval_enc (l1Eval_sel k v ks xs c)) := by
  intro n_
  induction n_ with
  | zero => intros; omega
  | succ n_ ih =>
  intro k v ks xs hw hv hm_
  have Γr_ok := ext_ok Γe8_ok (l1EvalCn_ok ih)
  refine PureR.of_walk Try.func162 rfl (by simp [Try.f162]) (fun c => by simp [-List.drop_one, go_sem]) fun B hK => ?_
  obtain ⟨w1, w2, w3, w4⟩ := hw.at; have e1 : k = 1 → v ≤ 3 := (by intro h; simp only [lim, h] at w3; simpa using w3); have e2 : k = 2 → v ≤ 2 := (by intro h; simp only [lim, h] at w3; simpa using w3); have e3 : k = 3 → ks.length = 1 := (by intro h; simp only [ar, h] at w1; simp at w1; omega); have e4 : ¬ k = 1 → ¬ k = 2 → ¬ k = 3 → ks.length = 2 := (by intro a b c; simp only [ar] at w1; rw [if_neg (by omega), if_neg (by omega)] at w1; split at w1 <;> omega); have hxl := hv.1
  all_goals (repeat' (first
    | refine AW_seq ?_
    | refine AW_region (id := 0) Γr_ok [] (by kernel_rfl) ?_; simp  [-List.getD_eq_getElem?_getD, -List.drop_one, ↓splitB_true, ↓splitB_false, go_sem]; try (refine AW_data hK 2 ?_; simp [go_sem])
    | refine AW_region (id := 1) Γr_ok [] (by kernel_rfl) ?_; simp  [-List.getD_eq_getElem?_getD, -List.drop_one, ↓splitB_true, ↓splitB_false, go_sem]
    | refine AW_region (id := 2) Γr_ok [] (by kernel_rfl) ?_; simp  [-List.getD_eq_getElem?_getD, -List.drop_one, ↓splitB_true, ↓splitB_false, go_sem]
    | refine AW_region (id := 3) Γr_ok [] (by kernel_rfl) ?_; simp  [-List.getD_eq_getElem?_getD, -List.drop_one, ↓splitB_true, ↓splitB_false, go_sem]
    | refine AW_region (id := 4) Γr_ok [] (by kernel_rfl) ?_; simp  [-List.getD_eq_getElem?_getD, -List.drop_one, ↓splitB_true, ↓splitB_false, go_sem]
    | (have q2 := e2 c13; obtain ⟨y1, y2, y3⟩ := hv.at (i := v.toNat) (by omega)); refine AW_region (id := 5) Γr_ok [] (by kernel_rfl) ?_; simp  [-List.getD_eq_getElem?_getD, -List.drop_one, ↓splitB_true, ↓splitB_false, go_sem, w2, (show v < xs.length by omega), y1, ne_nil y1, Nat.sub_pos_of_lt y1, c13]
    | refine AW_region (id := 6) Γr_ok [] (by kernel_rfl) ?_; simp  [-List.getD_eq_getElem?_getD, -List.drop_one, ↓splitB_true, ↓splitB_false, go_sem]
    | (have q3 := e3 c20; have qk : 0 < ks.length := (by omega); have qt := tsz_lt (k := k) (v := v) qk; have qw := w4 0 qk); refine AW_region (id := 7) Γr_ok [] (by kernel_rfl) ?_; simp  [-List.getD_eq_getElem?_getD, -List.drop_one, ↓splitB_true, ↓splitB_false, go_sem, qk, ne_nil qk, Nat.sub_pos_of_lt qk, cat_take0 (f := cX) qk, (show 3 ≤ ks.length * 3 by omega), (show tsz (nth ks 0) < n_ by omega), Tree.eta, qw, hv, c20]; try (intro c7; have h7 := l1Eval_ok (nth ks 0).k (nth ks 0).v (nth ks 0).ks xs (by rw [Tree.eta]; exact qw) hv c7; (generalize l1Eval_sel (nth ks 0).k (nth ks 0).v (nth ks 0).ks xs c7 = z7 at *))
    | (have q4 := e4 (by assumption) (by assumption) (by assumption); have qk : 0 < ks.length := (by omega); have qj : 1 < ks.length := (by omega); have qt := tsz_lt (k := k) (v := v) qk; have qu := tsz_lt (k := k) (v := v) qj; have qw := w4 0 qk; have qx := w4 1 qj); refine AW_region (id := 8) Γr_ok [] (by kernel_rfl) ?_; simp  [-List.getD_eq_getElem?_getD, -List.drop_one, ↓splitB_true, ↓splitB_false, go_sem, qk, ne_nil qk, Nat.sub_pos_of_lt qk, cat_take0 (f := cX) qk, (show 3 ≤ ks.length * 3 by omega), (show tsz (nth ks 0) < n_ by omega), Tree.eta, qw, hv]; try (intro c8; have h8 := l1Eval_ok (nth ks 0).k (nth ks 0).v (nth ks 0).ks xs (by rw [Tree.eta]; exact qw) hv c8; (generalize l1Eval_sel (nth ks 0).k (nth ks 0).v (nth ks 0).ks xs c8 = z8 at *); (obtain ⟨h8a, h8b⟩ := h8))
    | refine AW_region (id := 9) Γr_ok [] (by kernel_rfl) ?_; simp  [-List.getD_eq_getElem?_getD, -List.drop_one, ↓splitB_true, ↓splitB_false, go_sem, qk, ne_nil qk, Nat.sub_pos_of_lt qk, qj, (show (cat cX ks).drop 3 = cat cX (ks.drop 1) from cat_drop (f := cX) (sz := 3) ks 1), (show 3 ≤ ks.length * 3 - 3 by omega), (show 3 ≤ (ks.length - 1) * 3 by omega), (show (1 : Int) < (ks.length : Int) by omega), Nat.sub_pos_of_lt qj, (show tsz (nth ks 1) < n_ by omega), Tree.eta, qx, hv]; try (intro c9; have h9 := l1Eval_ok (nth ks 1).k (nth ks 1).v (nth ks 1).ks xs (by rw [Tree.eta]; exact qx) hv c9; (generalize l1Eval_sel (nth ks 1).k (nth ks 1).v (nth ks 1).ks xs c9 = z9 at *); (obtain ⟨h9a, h9b⟩ := h9))
    | refine AW_region (id := 10) Γr_ok [] (by kernel_rfl) ?_; simp  [-List.getD_eq_getElem?_getD, -List.drop_one, ↓splitB_true, ↓splitB_false, go_sem]
    | refine AW_region (id := 11) Γr_ok [] (by kernel_rfl) ?_; simp  [-List.getD_eq_getElem?_getD, -List.drop_one, ↓splitB_true, ↓splitB_false, go_sem]
    | refine AW_region (id := 12) Γr_ok [48] (by kernel_rfl) ?_; simp  [-List.getD_eq_getElem?_getD, -List.drop_one, ↓splitB_true, ↓splitB_false, go_sem]; try (refine ⟨fun s12a => ?_, fun s12a => ?_⟩ <;> (try simp [B_iff, B_not] at s12a) <;> try (refine ⟨fun s12b => ?_, fun s12b => ?_⟩ <;> (try simp [B_iff, B_not] at s12b)))
    | refine AW_region (id := 13) Γr_ok [] (by kernel_rfl) ?_; simp  [-List.getD_eq_getElem?_getD, -List.drop_one, ↓splitB_true, ↓splitB_false, go_sem]
    | refine AW_region (id := 14) Γr_ok [57] (by kernel_rfl) ?_; simp  [-List.getD_eq_getElem?_getD, -List.drop_one, ↓splitB_true, ↓splitB_false, go_sem]; try (refine ⟨fun s14a => ?_, fun s14a => ?_⟩ <;> (try simp [B_iff, B_not] at s14a) <;> try (refine ⟨fun s14b => ?_, fun s14b => ?_⟩ <;> (try simp [B_iff, B_not] at s14b)))
    | refine AW_region (id := 15) Γr_ok [] (by kernel_rfl) ?_; simp  [-List.getD_eq_getElem?_getD, -List.drop_one, ↓splitB_true, ↓splitB_false, go_sem]
    | refine AW_region (id := 16) Γr_ok [] (by kernel_rfl) ?_; simp  [-List.getD_eq_getElem?_getD, -List.drop_one, ↓splitB_true, ↓splitB_false, go_sem]
    | refine AW_region (id := 17) Γr_ok [] (by kernel_rfl) ?_; simp  [-List.getD_eq_getElem?_getD, -List.drop_one, ↓splitB_true, ↓splitB_false, go_sem]
    | refine AW_region (id := 18) Γr_ok [] (by kernel_rfl) ?_; simp  [-List.getD_eq_getElem?_getD, -List.drop_one, ↓splitB_true, ↓splitB_false, go_sem]
    | refine AW_region (id := 19) Γr_ok [] (by kernel_rfl) ?_; simp  [-List.getD_eq_getElem?_getD, -List.drop_one, ↓splitB_true, ↓splitB_false, go_sem]
    | refine AW_region (id := 20) Γr_ok [] (by kernel_rfl) ?_; simp  [-List.getD_eq_getElem?_getD, -List.drop_one, ↓splitB_true, ↓splitB_false, go_sem, wrap_in (x := z8 + z9) (by omega) (by omega)]
    | refine AW_region (id := 21) Γr_ok [] (by kernel_rfl) ?_; simp  [-List.getD_eq_getElem?_getD, -List.drop_one, ↓splitB_true, ↓splitB_false, go_sem, wrap_in (x := z8 - z9) (by omega) (by omega), wrap_in (x := z8 - z9 + 3) (by omega) (by omega), wrap_in (x := z8 - z9 + 3 + 1) (by omega) (by omega)]
    | refine AW_condA (c := .tmp 9) ?_; simp [-List.getD_eq_getElem?_getD, -List.drop_one, ↓splitB_true, ↓splitB_false, go_sem]; try first | (refine ⟨?_, ?_⟩ <;> change AW _ _ _ _ _ _) | (refine ⟨fun c9 => ?_, fun c9 => ?_⟩ <;> (try simp [B_iff, B_not] at c9))
    | refine AW_condA (c := .tmp 13) ?_; simp [-List.getD_eq_getElem?_getD, -List.drop_one, ↓splitB_true, ↓splitB_false, go_sem]; try first | (refine ⟨?_, ?_⟩ <;> change AW _ _ _ _ _ _) | (refine ⟨fun c13 => ?_, fun c13 => ?_⟩ <;> (try simp [B_iff, B_not] at c13))
    | refine AW_condA (c := .tmp 20) ?_; simp [-List.getD_eq_getElem?_getD, -List.drop_one, ↓splitB_true, ↓splitB_false, go_sem]; try first | (refine ⟨?_, ?_⟩ <;> change AW _ _ _ _ _ _) | (refine ⟨fun c20 => ?_, fun c20 => ?_⟩ <;> (try simp [B_iff, B_not] at c20))
    | refine AW_condA (c := .tmp 44) ?_; simp [-List.getD_eq_getElem?_getD, -List.drop_one, ↓splitB_true, ↓splitB_false, go_sem]; try first | (refine ⟨?_, ?_⟩ <;> change AW _ _ _ _ _ _) | (refine ⟨fun c44 => ?_, fun c44 => ?_⟩ <;> (try simp [B_iff, B_not] at c44))
    | refine AW_condA (c := .tmp 53) ?_; simp [-List.getD_eq_getElem?_getD, -List.drop_one, ↓splitB_true, ↓splitB_false, go_sem]; try first | (refine ⟨?_, ?_⟩ <;> change AW _ _ _ _ _ _) | (refine ⟨fun c53 => ?_, fun c53 => ?_⟩ <;> (try simp [B_iff, B_not] at c53))
    | refine AW_condA (c := .tmp 62) ?_; simp [-List.getD_eq_getElem?_getD, -List.drop_one, ↓splitB_true, ↓splitB_false, go_sem]; try first | (refine ⟨?_, ?_⟩ <;> change AW _ _ _ _ _ _) | (refine ⟨fun c62 => ?_, fun c62 => ?_⟩ <;> (try simp [B_iff, B_not] at c62))
    | refine AW_condA (c := .tmp 68) ?_; simp [-List.getD_eq_getElem?_getD, -List.drop_one, ↓splitB_true, ↓splitB_false, go_sem]; try first | (refine ⟨?_, ?_⟩ <;> change AW _ _ _ _ _ _) | (refine ⟨fun c68 => ?_, fun c68 => ?_⟩ <;> (try simp [B_iff, B_not] at c68))
    | refine AW_condA (c := .tmp 74) ?_; simp [-List.getD_eq_getElem?_getD, -List.drop_one, ↓splitB_true, ↓splitB_false, go_sem]; try first | (refine ⟨?_, ?_⟩ <;> change AW _ _ _ _ _ _) | (refine ⟨fun c74 => ?_, fun c74 => ?_⟩ <;> (try simp [B_iff, B_not] at c74))
    | (refine AW_block ?_)
    | (refine AW_exit ?_; simp [-List.getD_eq_getElem?_getD, -List.drop_one, ↓splitB_true, ↓splitB_false, go_sem])
    | (refine AW_skip ?_; simp [-List.getD_eq_getElem?_getD, -List.drop_one, ↓splitB_true, ↓splitB_false, go_sem])
    | (refine AW_ret ?_; try simp [-List.getD_eq_getElem?_getD, -List.drop_one, ↓splitB_true, ↓splitB_false, go_sem, Try.results162])
    | (intro hx; change AW _ _ _ _ _ _)
    | (intro hx; change retR _ _ _ _ _)
    | (refine ⟨?_, ?_⟩ <;> change AW _ _ _ _ _ _)
    | (intro hx; refine ⟨fun hs => ?_, fun hs => ?_⟩)
    | (refine ⟨fun hs => ?_, fun hs => ?_⟩)
    | (refine ⟨?_, fun hs => ?_⟩; change AW _ _ _ _ _ _)
    | (refine ⟨fun hs => ?_, ?_⟩; rotate_left; change AW _ _ _ _ _ _; rotate_left)))
  all_goals (first
    | (refine l1Eval_retE _ _ _ _ ?_ ?_; (first | exact Or.inl rfl | exact Or.inr rfl); (simp [-List.getD_eq_getElem?_getD, -List.drop_one, ↓splitB_true, ↓splitB_false, go_sem, Try.results162, l1Eval_good]); (((first | omega | exact mod4 (by omega) | (split <;> omega) | (constructor <;> split <;> omega))); done))
    | (refine l1Eval_retE _ _ _ _ ?_ ?_; (first | exact Or.inl rfl | exact Or.inr rfl); (simp [-List.getD_eq_getElem?_getD, -List.drop_one, ↓splitB_true, ↓splitB_false, go_sem, Try.results162, l1Eval_good]; done))
    | skip)
theorem l1Eval_pure (k : Int) (v : Int) (ks : List Tree) (xs : List Int) (hw : Well (.mk k v ks)) (hv : ValsOk xs) : PureR Try.prog 162 [.st [.int .i64 k, .int .i64 v, li cX ks], li cI xs] (fun c => l1Eval_enc (l1Eval_sel k v ks xs c)) := l1Eval_rec (tsz (.mk k v ks) + 1) k v ks xs hw hv (by omega)
noncomputable def l1EvalC : Con := .prel fun
  | [.st [.int .i64 k, .int .i64 v, .list n_ks c_ks], .list n_xs c_xs] => ((Is cX n_ks c_ks) ∧ (Is cI n_xs c_xs) ∧ (Well (.mk k v (de cX c_ks))) ∧ (ValsOk (de cI c_xs)), fun c => l1Eval_enc (l1Eval_sel k v (de cX c_ks) (de cI c_xs) c))
  | _ => (False, fun _ => .any)
attribute [go_sem] l1EvalC
theorem l1EvalC_ok : ConOk Try.prog 162 l1EvalC := by
  refine ⟨callable Try.func162 (by decide) rfl, fun args h => ?_⟩
  revert h
  dsimp only
  split
  · intro h
    obtain ⟨⟨ks, rfl, rfl⟩, ⟨xs, rfl, rfl⟩, hw, hv⟩ := h
    try simp only [de_cat] at *
    exact ⟨l1Eval_pure _ _ ks xs hw hv, fun c => by simp [go_sem]⟩
  · intro h
    exact h.elim
noncomputable def Γe9 : FuncId → Con := ext Γe8 162 l1EvalC
attribute [go_sem] Γe9
theorem Γe9_ok : ∀ g, ConOk Try.prog g (Γe9 g) := ext_ok Γe8_ok l1EvalC_ok
end Go.Proofs.Ytljncoikoffijaa.Vm

