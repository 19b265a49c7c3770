/-
  Formulas: normal forms, subformulas, basic formulas; their values. No conditions.
-/
import Derived.Test.YtkjimmkemnmajaaY2
namespace Go.Proofs.Ytkjimmkemnmajaa.Vm
open Go
set_option linter.unusedVariables false
set_option linter.unusedSimpArgs false
set_option maxRecDepth 200000

noncomputable def NormalForm_enc : Tree × Bool → D := fun x => .tup [sX x.1, .bool x.2]
attribute [go_sem] NormalForm_enc
theorem NormalForm_flat (x : Tree × Bool) : dat (NormalForm_enc x) = NormalForm_enc x := by simp [go_sem]
def NormalForm_good (k : Int) (v : Int) (ks : List Tree) : Tree × Bool → Prop := fun x => (x.2 = true → ForOk x.1) ∧ (x.1.k = 0 ∨ WellF x.1)
def NormalForm_gd (k : Int) (v : Int) (ks : List Tree) (x : (Tree × Bool) × D) : Prop := NormalForm_good k v ks x.1 ∧ dat x.2 = NormalForm_enc x.1
noncomputable def NormalForm_selD (k : Int) (v : Int) (ks : List Tree) (c : Any) : (Tree × Bool) × D := sel (NormalForm_gd k v ks) (((.mk 0 0 [], false) : Tree × Bool), NormalForm_enc ((.mk 0 0 [], false))) c
noncomputable def NormalForm_sel (k : Int) (v : Int) (ks : List Tree) (c : Any) : Tree × Bool := (NormalForm_selD k v ks c).1
theorem NormalForm_okD (k : Int) (v : Int) (ks : List Tree)  (c : Any) : NormalForm_gd k v ks (NormalForm_selD k v ks c) := by
  have hx : NormalForm_good k v ks ((.mk 0 0 [], false)) := by simp [NormalForm_good, Tree.k]
  exact sel_ok (p := NormalForm_gd k v ks) (x0 := (((.mk 0 0 [], false) : Tree × Bool), NormalForm_enc ((.mk 0 0 [], false)))) ⟨hx, NormalForm_flat _⟩ c
theorem NormalForm_ok (k : Int) (v : Int) (ks : List Tree)  (c : Any) : NormalForm_good k v ks (NormalForm_sel k v ks c) := (NormalForm_okD k v ks  c).1
theorem NormalForm_ret (k : Int) (v : Int) (ks : List Tree) {e_ : Exit} {S_ : St} (x : Tree × Bool) (he_ : e_ = .ret ∨ e_ = .normal)
    (h1 : (zaak Try.prog S_ Try.f214.results.toList).1 ∧ dat (resD (zaak Try.prog S_ Try.f214.results.toList).2.1) = NormalForm_enc x) (hg : NormalForm_good k v ks x) :
    retR Try.prog Try.f214 (fun c => ((NormalForm_selD k v ks c).2, fun _ => none)) e_ S_ :=
  ret_prel (good := NormalForm_gd k v ks) (enc := fun x : (Tree × Bool) × D => x.2) (x, resD (zaak Try.prog S_ Try.f214.results.toList).2.1) he_ ⟨h1.1, rfl⟩ ⟨hg, h1.2⟩
theorem NormalForm_pure (k : Int) (v : Int) (ks : List Tree)  : SpecR Try.prog 214 [.st [.int .i64 k, .int .i64 v, li cX ks]] (fun _ => none) (fun c => ((NormalForm_selD k v ks c).2, fun _ => none)) := by
  refine SpecR.of_walk Try.func214 rfl (by simp [Try.f214]) fun B => ?_
  cases hs : Vm.B (ForOk (.mk k v ks))
  all_goals (repeat' (first
    | refine AW_seq ?_
    | refine zaac (id := 0) Γy13_ok [] (by kernel_rfl) ?_; simp  [-List.getD_eq_getElem?_getD, -List.drop_one, ↓zaab, ↓zaaa, go_sem]; try (refine AW_shut 1 ?_; simp [go_sem])
    | refine zaac (id := 1) Γy13_ok [] (by kernel_rfl) ?_; simp  [-List.getD_eq_getElem?_getD, -List.drop_one, ↓zaab, ↓zaaa, go_sem, hs]
    | refine zaac (id := 2) Γy13_ok [] (by kernel_rfl) ?_; simp  [-List.getD_eq_getElem?_getD, -List.drop_one, ↓zaab, ↓zaaa, go_sem]
    | (have hS : ForOk (.mk k v ks) := (by rw [B_iff] at hs; exact hs); have hW := hS.well); refine zaac (id := 3) Γy13_ok [] (by kernel_rfl) ?_; simp  [-List.getD_eq_getElem?_getD, -List.drop_one, ↓zaab, ↓zaaa, go_sem, hW]; try (intro c3; generalize l5Push_sel k v ks false c3 = z3 at *; refine AW_shut 4 ?_; simp [go_sem])
    | refine zaac (id := 4) Γy13_ok [] (by kernel_rfl) ?_; simp  [-List.getD_eq_getElem?_getD, -List.drop_one, ↓zaab, ↓zaaa, go_sem, Tree.eta]
    | refine zaac (id := 5) Γy13_ok [] (by kernel_rfl) ?_; simp  [-List.getD_eq_getElem?_getD, -List.drop_one, ↓zaab, ↓zaaa, go_sem]
    | refine zaac (id := 6) Γy13_ok [] (by kernel_rfl) ?_; simp  [-List.getD_eq_getElem?_getD, -List.drop_one, ↓zaab, ↓zaaa, go_sem]
    | refine zaaf (c := .tmp 7) ?_; simp [-List.getD_eq_getElem?_getD, -List.drop_one, ↓zaab, ↓zaaa, go_sem]; try first | (refine ⟨?_, ?_⟩ <;> change AW _ _ _ _ _ _) | (refine ⟨fun c7 => ?_, fun c7 => ?_⟩ <;> (try simp [B_iff, B_not] at c7))
    | refine zaaf (c := .tmp 13) ?_; simp [-List.getD_eq_getElem?_getD, -List.drop_one, ↓zaab, ↓zaaa, go_sem]; try first | (refine ⟨?_, ?_⟩ <;> change AW _ _ _ _ _ _) | (refine ⟨fun c13 => ?_, fun c13 => ?_⟩ <;> (try simp [B_iff, B_not] at c13))
    | (refine zaag ?_)
    | (refine zaap ?_; simp [-List.getD_eq_getElem?_getD, -List.drop_one, ↓zaab, ↓zaaa, go_sem])
    | (refine zaan ?_; simp [-List.getD_eq_getElem?_getD, -List.drop_one, ↓zaab, ↓zaaa, go_sem])
    | (refine AW_ret ?_; try simp [-List.getD_eq_getElem?_getD, -List.drop_one, ↓zaab, ↓zaaa, go_sem, Try.results214])
    | (intro hx; change AW _ _ _ _ _ _)
    | (intro hx; change retR _ _ _ _ _)
    | (refine ⟨?_, ?_⟩ <;> change AW _ _ _ _ _ _)
    | (intro hx; refine ⟨fun hs => ?_, fun hs => ?_⟩)
    | (refine ⟨fun hs => ?_, fun hs => ?_⟩)
    | (refine ⟨?_, fun hs => ?_⟩; change AW _ _ _ _ _ _)
    | (refine ⟨fun hs => ?_, ?_⟩; rotate_left; change AW _ _ _ _ _ _; rotate_left)))
  all_goals (first
    | (refine NormalForm_ret _ _ _ ((.mk 0 0 [], false)) ?_ ?_ ?_; (first | exact Or.inl rfl | exact Or.inr rfl); (focus (simp [-List.getD_eq_getElem?_getD, -List.drop_one, ↓zaab, ↓zaaa, go_sem, Try.results214, dat, li, cat_nil]; done)); (focus ((simp [NormalForm_good, Tree.k]); done)))
    | (refine NormalForm_ret _ _ _ ((z3, true)) ?_ ?_ ?_; (first | exact Or.inl rfl | exact Or.inr rfl); (focus (simp [-List.getD_eq_getElem?_getD, -List.drop_one, ↓zaab, ↓zaaa, go_sem, Try.results214, dat, datL_map, li]; done)); (focus (((have h13 : ForOk z3 := (by assumption); exact ⟨fun _ => h13, .inr h13.well⟩)); done)))
    | skip)
noncomputable def NormalFormC : Con := .rel fun args H => match args with
  | [.st [.int .i64 k, .int .i64 v, .list n_ks c_ks]] => ((Is cX n_ks c_ks), fun c => (NormalForm_enc (NormalForm_sel k v (de cX c_ks) c), H))
  | _ => (False, fun _ => (.any, H))
attribute [go_sem] NormalFormC
theorem NormalFormC_ok : ConOk Try.prog 214 NormalFormC := by
  refine ⟨zaal Try.func214 (by decide) rfl, fun args H h => ?_⟩
  revert h
  dsimp only
  split
  · intro h
    obtain ⟨ks, rfl, rfl⟩ := h
    try simp only [de_cat] at *
    exact SpecR.enc ((SpecR.frame0 (NormalForm_pure _ _ ks ) (H := H)).shut) fun c => Prod.ext (NormalForm_okD _ _ _  c).2.symm rfl
  · intro h
    exact h.elim
noncomputable def Γy14 : FuncId → Con := ext Γy13 214 NormalFormC
attribute [go_sem] Γy14
theorem Γy14_ok : ∀ g, ConOk Try.prog g (Γy14 g) := ext_ok Γy13_ok NormalFormC_ok

def AllW (xs : List Tree) : Prop := ∀ t, t ∈ xs → WellF t
theorem AllW.snoc {xs : List Tree} (h : AllW xs) {t : Tree} (ht : WellF t) : AllW (xs ++ [t]) := fun u hu => by
  rcases List.mem_append.1 hu with q | q
  · exact h u q
  · have : u = t := by simpa using q
    rw [this]; exact ht
theorem AllW.nil : AllW [] := fun t h => nomatch h
theorem AllW.at {xs : List Tree} (h : AllW xs) {i : Nat} (hi : i < xs.length) : WellF (nth xs i) := h _ (nth_mem hi)
def IsO (E : D) : Prop := E = .nil ∨ ∃ xs, E = .fr 3 (List.length xs) (cat cX xs)
noncomputable def xsO (E : D) : List Tree := match E with | .fr _ _ cs => de cX cs | _ => []
@[go_sem] theorem isO_nil : IsO .nil = True := eq_true (.inl rfl)
@[go_sem] theorem isO_fr (xs : List Tree) : IsO (.fr 3 xs.length (cat cX xs)) = True := eq_true (.inr ⟨xs, rfl⟩)
@[go_sem] theorem xsO_nil : xsO .nil = [] := rfl
@[go_sem] theorem xsO_fr (n : Nat) (xs : List Tree) : xsO (.fr 3 n (cat cX xs)) = xs := de_cat xs
theorem tszs_take {ks : List Tree} {i : Nat} (h : i < ks.length) : tszs (ks.take (i + 1)) = tszs (ks.take i) + tsz (nth ks i) := by
  have key : ∀ (xs ys : List Tree), tszs (xs ++ ys) = tszs xs + tszs ys := fun xs ys => by
    induction xs with
    | nil => simp [tszs]
    | cons x xs ih => rw [List.cons_append, tszs, tszs, ih]; omega
  rw [List.take_succ_eq_append_getElem h, key, ← nth_lt h]; simp [tszs]
theorem tszs_le {ks : List Tree} {i : Nat} (h : i ≤ ks.length) : tszs (ks.take i) ≤ tszs ks := by
  have key : ∀ (xs ys : List Tree), tszs (xs ++ ys) = tszs xs + tszs ys := fun xs ys => by
    induction xs with
    | nil => simp [tszs]
    | cons x xs ih => rw [List.cons_append, tszs, tszs, ih]; omega
  have := key (ks.take i) (ks.drop i)
  rw [List.take_append_drop] at this
  omega
theorem shape_tsz : ∀ (d : Nat) (t : Tree), ShapeF d t → tsz t + 1 ≤ 2 ^ (d + 1)
  | 0, _, h => h.elim
  | d + 1, .mk k v ks, h => by
    have h2 := h.two
    have h5 := h.2.2.2.2
    simp only [Tree.ks] at h2 h5
    have hp : 2 ^ (d + 1 + 1) = 2 * 2 ^ (d + 1) := by rw [Nat.pow_succ, Nat.mul_comm]
    have p1 : 2 ≤ 2 ^ (d + 1) := by rw [Nat.pow_succ]; have := Nat.one_le_two_pow (n := d); omega
    rw [tsz, hp]
    match ks, h2, h5 with
    | [], _, _ => simp only [tszs]; omega
    | [a], _, h5 =>
      have := shape_tsz d a (h5 0 (by simp))
      simp only [tszs]; omega
    | [a, b], _, h5 =>
      have := shape_tsz d a (h5 0 (by simp))
      have := shape_tsz d b (h5 1 (by simp))
      simp only [tszs]; omega
    | a :: b :: c :: l, h2, _ => simp at h2
theorem ForOk.tsz {t : Tree} (h : ForOk t) : Vm.tsz t ≤ 127 := by have := shape_tsz 6 t h.1; omega

noncomputable def l5Subs_enc0 : List Tree → D := fun x => .fr 3 x.length (cat cX x)
attribute [go_sem] l5Subs_enc0
def l5Subs_good (E : D) (k : Int) (v : Int) (ks : List Tree) : List Tree → Prop := fun x => x.length ≤ (xsO E).length + tsz (.mk k v ks) ∧ AllW x
noncomputable def l5Subs_sel (E : D) (k : Int) (v : Int) (ks : List Tree) (c : Any) : List Tree := sel (l5Subs_good E k v ks) (xsO E) c
theorem l5Subs_ok (E : D) (k : Int) (v : Int) (ks : List Tree) (hE : IsO E) (hA : AllW (xsO E)) (hw : WellF (.mk k v ks)) (hn : (xsO E).length + tsz (.mk k v ks) ≤ 1000000) (c : Any) : l5Subs_good E k v ks (l5Subs_sel E k v ks c) := sel_ok (p := l5Subs_good E k v ks) (x0 := xsO E) (⟨Nat.le_add_right _ _, hA⟩) c
theorem l5Subs_ret (E : D) (k : Int) (v : Int) (ks : List Tree) {e_ : Exit} {S_ : St} (x : List Tree) (he_ : e_ = .ret ∨ e_ = .normal)
    (h1 : (zaak Try.prog S_ Try.f240.results.toList).1 ∧ resD (zaak Try.prog S_ Try.f240.results.toList).2.1 = l5Subs_enc0 x) (hg : l5Subs_good E k v ks x) :
    retR Try.prog Try.f240 (fun c => (l5Subs_enc0 (l5Subs_sel E k v ks c), fun _ => none)) e_ S_ := ret_prel (enc := l5Subs_enc0) x he_ h1 hg
noncomputable def l5SubsCn (n_ : Nat) : Con := .rel fun args H => match args with
  | [E, .st [.int .i64 k, .int .i64 v, .list n_ks c_ks]] => ((Is cX n_ks c_ks) ∧ (IsO E) ∧ (AllW (xsO E)) ∧ (WellF (.mk k v (de cX c_ks))) ∧ ((xsO E).length + tsz (.mk k v (de cX c_ks)) ≤ 1000000) ∧ (tsz (.mk k v (de cX c_ks)) < n_), fun c => (l5Subs_enc0 (l5Subs_sel E k v (de cX c_ks) c), H))
  | _ => (False, fun _ => (.any, H))
attribute [go_sem] l5SubsCn
theorem l5SubsCn_ok {n_ : Nat} (ih : ∀ (E : D) (k : Int) (v : Int) (ks : List Tree) (hE : IsO E) (hA : AllW (xsO E)) (hw : WellF (.mk k v ks)) (hn : (xsO E).length + tsz (.mk k v ks) ≤ 1000000) (hm_ : tsz (.mk k v ks) < n_), SpecR Try.prog 240 [E, .st [.int .i64 k, .int .i64 v, li cX ks]] (fun _ => none) (fun c => (l5Subs_enc0 (l5Subs_sel E k v ks c), fun _ => none))) : ConOk Try.prog 240 (l5SubsCn n_) := by
  refine ⟨zaal Try.func240 (by decide) rfl, fun args H h => ?_⟩
  revert h
  dsimp only
  split
  · intro h
    obtain ⟨⟨ks, rfl, rfl⟩, hE, hA, hw, hn, hm_⟩ := h
    try simp only [de_cat] at *
    exact (SpecR.frame0 (ih _ _ _ ks hE hA hw hn hm_) (H := H))
  · intro h
    exact h.elim
set_option maxHeartbeats 8000000 in
theorem l5Subs_rec : ∀ (n_ : Nat), ∀ (E : D) (k : Int) (v : Int) (ks : List Tree) (hE : IsO E) (hA : AllW (xsO E)) (hw : WellF (.mk k v ks)) (hn : (xsO E).length + tsz (.mk k v ks) ≤ 1000000) (hm_ : tsz (.mk k v ks) < n_), SpecR Try.prog 240 [E, .st [.int .i64 k, .int .i64 v, li cX ks]] (fun _ => none) (fun c => (l5Subs_enc0 (l5Subs_sel E k v ks c), fun _ => none)) := by
  intro n_
  induction n_ with
  | zero => intros; omega
  | succ n_ ih =>
  intro E k v ks hE hA hw hn hm_
  have Γr_ok := ext_ok Γy14_ok (l5SubsCn_ok ih)
  refine SpecR.of_walk Try.func240 rfl (by simp [Try.f240]) fun B => ?_
  obtain ⟨w1, w2, w3, w4⟩ := hw.at; have w5 := arF_le k; have hts : tsz (.mk k v ks) = 1 + tszs ks := (by rw [tsz]); obtain ⟨xs, hxs⟩ : ∃ xs, xsO E = xs := ⟨_, rfl⟩; have hE2 : E = .nil ∧ xs = [] ∨ E = .fr 3 xs.length (cat cX xs) ∧ True := (by rcases hE with h | ⟨ys, h⟩; (left; subst h; exact ⟨rfl, by rw [← hxs]; rfl⟩); (right; have e : ys = xs := (by rw [← hxs, h]; exact (de_cat ys).symm); exact ⟨by rw [h, e], trivial⟩)); rw [hxs] at hA hn; rcases hE2 with ⟨he, hx⟩ | ⟨he, hx⟩ <;> subst he
  all_goals (repeat' (first
    | refine AW_seq ?_
    | ((try (refine AW_nilfr 0 3 rfl ?_)); simp only [go_sem]); refine zaac (id := 0) Γr_ok [] (by kernel_rfl) ?_; simp  [-List.getD_eq_getElem?_getD, -List.drop_one, ↓zaab, ↓zaaa, go_sem]; try (refine AW_shut 3 ?_; simp [go_sem])
    | (refine AW_lenP 3 2 ⟨rfl, rfl⟩ fun hm => ?_); refine zaac (id := 1) Γr_ok [] (by kernel_rfl) ?_; simp  [-List.getD_eq_getElem?_getD, -List.drop_one, ↓zaab, ↓zaaa, go_sem]
    | refine zaac (id := 2) Γr_ok [] (by kernel_rfl) ?_; simp  [-List.getD_eq_getElem?_getD, -List.drop_one, ↓zaab, ↓zaaa, go_sem]
    | ((have qt := tsz_lt (k := k) (v := v) c10); (have qw := w4 q.1 c10); (have qs := tszs_take c10); (have ql := tszs_le (ks := ks) (i := q.1 + 1) (by omega))); refine zaac (id := 4) Γr_ok [] (by kernel_rfl) ?_; simp  [-List.getD_eq_getElem?_getD, -List.drop_one, ↓zaab, ↓zaaa, go_sem, c10, zaas c10, Nat.sub_pos_of_lt c10, qw, g3, Tree.eta, (show tsz (nth ks q.1) < n_ by omega), (show q.2.length + tsz (nth ks q.1) ≤ 1000000 by omega)]; try ((intro c4); (have z0 := l5Subs_ok (.fr 3 q.2.length (cat cX q.2)) (nth ks q.1).k (nth ks q.1).v (nth ks q.1).ks (.inr ⟨q.2, rfl⟩) (by rw [xsO_fr]; exact g3) (by rw [Tree.eta]; exact qw) (by rw [xsO_fr, Tree.eta]; omega) c4); (simp only [l5Subs_good, xsO_fr, Tree.eta] at z0); (generalize l5Subs_sel (.fr 3 q.2.length (cat cX q.2)) (nth ks q.1).k (nth ks q.1).v (nth ks q.1).ks c4 = z at *); (obtain ⟨z1, z2⟩ := z0))
    | refine zaac (id := 3) Γr_ok [] (by kernel_rfl) ?_; simp  [-List.getD_eq_getElem?_getD, -List.drop_one, ↓zaab, ↓zaaa, go_sem, wrapS (k := q.1) (by omega)]
    | ((obtain ⟨i, o⟩ := q); (dsimp only at *); (have hlk := tszs_le (ks := ks) (Nat.le_refl ks.length)); (obtain rfl : i = ks.length := by omega); (rw [List.take_length] at g2 hlk); (refine AW_mat 0 rfl fun nb cp j hnb hcp hcj => ?_); (simp only [go_sem] at hnb ⊢)); refine zaac (id := 5) Γr_ok [] (by kernel_rfl) ?_; simp  [-List.getD_eq_getElem?_getD, -List.drop_one, ↓zaab, ↓zaaa, go_sem, Tree.eta]
    | refine zaac (id := 6) Γr_ok [] (by kernel_rfl) ?_; simp  [-List.getD_eq_getElem?_getD, -List.drop_one, ↓zaab, ↓zaaa, go_sem, hw, (show o.length ≤ 9223372036854775806 by omega), (show 2 * (o.length + 1) * 40 ≤ 281474976710656 by omega), hcj, (show o.length * 3 ≤ o.length * 3 + j by omega)]; try ((intro c6); (have z0 := l5Copy_ok k v ks hw c6); (simp only [l5Copy_good] at z0); (rw [z0]))
    | ((try (refine AW_unmat 0 (b := nb) (all := cat cX o ++ List.replicate j D.any) rfl (by simp [upd]) (by omega) (by simp [zaaj]) (by simp [zaaj]; omega) ?_))); refine zaac (id := 7) Γr_ok [] (by kernel_rfl) ?_; simp  [-List.getD_eq_getElem?_getD, -List.drop_one, ↓zaab, ↓zaaa, go_sem]
    | refine zaaf (c := .tmp 10) ?_; simp [-List.getD_eq_getElem?_getD, -List.drop_one, ↓zaab, ↓zaaa, go_sem]; try first | (refine ⟨?_, ?_⟩ <;> change AW _ _ _ _ _ _) | (refine ⟨fun c10 => ?_, fun c10 => ?_⟩ <;> (try simp [B_iff, B_not] at c10))
    | refine zaaf (c := .tmp 23) ?_; simp [-List.getD_eq_getElem?_getD, -List.drop_one, ↓zaab, ↓zaaa, go_sem]; try first | (refine ⟨?_, ?_⟩ <;> change AW _ _ _ _ _ _) | (refine ⟨fun c23 => ?_, fun c23 => ?_⟩ <;> (try simp [B_iff, B_not] at c23))
    | (refine zaag (id := 0) (AW_loop (ι := Nat × List Tree) (fun q : Nat × List Tree => ⟨(upd (upd (upd (fun _ => .any) 0 (.fr 3 q.2.length (cat cX q.2))) 3 (.pd [.int .i64 k, .int .i64 v, li cX ks])) 5 (.int .i64 q.1)), fun _ => none⟩) (fun q => q.1 ≤ ks.length ∧ q.2.length ≤ xs.length + tszs (ks.take q.1) ∧ AllW q.2) (fun q => ks.length - q.1) ((0, xs)) ?_ ?_ ?_); exact ⟨Nat.zero_le _, Nat.le_add_right _ _, hA⟩; ((repeat' (first | exact zaad (by assumption) | exact zaah | refine zaai ?_ ?_ | refine zaae ?_)) <;> simp [-List.getD_eq_getElem?_getD, -List.drop_one, ↓zaab, ↓zaaa, go_sem, hx, List.length_nil, cat_nil]); rintro q ⟨g1, g2, g3⟩)
    | (refine ⟨(q.1 + 1, z), ⟨by dsimp only; omega, by dsimp only; omega, z2⟩, by first | omega | (simp; done) | (simp; omega), ?_⟩; ((repeat' (first | exact zaad (by assumption) | exact zaah | refine zaai ?_ ?_ | refine zaae ?_)) <;> simp [-List.getD_eq_getElem?_getD, -List.drop_one, ↓zaab, ↓zaaa, go_sem, hx, List.length_nil, cat_nil]))
    | (refine zaag ?_)
    | (refine zaap ?_; simp [-List.getD_eq_getElem?_getD, -List.drop_one, ↓zaab, ↓zaaa, go_sem])
    | (refine zaan ?_; simp [-List.getD_eq_getElem?_getD, -List.drop_one, ↓zaab, ↓zaaa, go_sem])
    | (refine AW_ret ?_; try simp [-List.getD_eq_getElem?_getD, -List.drop_one, ↓zaab, ↓zaaa, go_sem, Try.results240])
    | (intro hx; change AW _ _ _ _ _ _)
    | (intro hx; change retR _ _ _ _ _)
    | (refine ⟨?_, ?_⟩ <;> change AW _ _ _ _ _ _)
    | (intro hx; refine ⟨fun hs => ?_, fun hs => ?_⟩)
    | (refine ⟨fun hs => ?_, fun hs => ?_⟩)
    | (refine ⟨?_, fun hs => ?_⟩; change AW _ _ _ _ _ _)
    | (refine ⟨fun hs => ?_, ?_⟩; rotate_left; change AW _ _ _ _ _ _; rotate_left)))
  all_goals (first
    | (refine l5Subs_ret _ _ _ _ (o) ?_ ?_ ?_; (first | exact Or.inl rfl | exact Or.inr rfl); (focus (simp [-List.getD_eq_getElem?_getD, -List.drop_one, ↓zaab, ↓zaaa, go_sem, Try.results240, take_cX]; done)); (focus (((show o.length ≤ (xsO _).length + tsz (.mk k v ks) ∧ AllW o); rw [hxs]; exact ⟨by omega, g3⟩); done)))
    | (refine l5Subs_ret _ _ _ _ (o ++ [.mk k v ks]) ?_ ?_ ?_; (first | exact Or.inl rfl | exact Or.inr rfl); (focus (simp [-List.getD_eq_getElem?_getD, -List.drop_one, ↓zaab, ↓zaaa, go_sem, Try.results240, cat_append, cat_one, cX_mk, li]; done)); (focus (((show (o ++ [Tree.mk k v ks]).length ≤ (xsO _).length + tsz (.mk k v ks) ∧ AllW (o ++ [.mk k v ks])); rw [hxs]; exact ⟨by simp; omega, g3.snoc hw⟩); done)))
    | skip)
theorem l5Subs_pure (E : D) (k : Int) (v : Int) (ks : List Tree) (hE : IsO E) (hA : AllW (xsO E)) (hw : WellF (.mk k v ks)) (hn : (xsO E).length + tsz (.mk k v ks) ≤ 1000000) : SpecR Try.prog 240 [E, .st [.int .i64 k, .int .i64 v, li cX ks]] (fun _ => none) (fun c => (l5Subs_enc0 (l5Subs_sel E k v ks c), fun _ => none)) := l5Subs_rec (tsz (.mk k v ks) + 1) E k v ks hE hA hw hn (by omega)
noncomputable def l5SubsC : Con := .rel fun args H => match args with
  | [E, .st [.int .i64 k, .int .i64 v, .list n_ks c_ks]] => ((Is cX n_ks c_ks) ∧ (IsO E) ∧ (AllW (xsO E)) ∧ (WellF (.mk k v (de cX c_ks))) ∧ ((xsO E).length + tsz (.mk k v (de cX c_ks)) ≤ 1000000), fun c => (l5Subs_enc0 (l5Subs_sel E k v (de cX c_ks) c), H))
  | _ => (False, fun _ => (.any, H))
attribute [go_sem] l5SubsC
theorem l5SubsC_ok : ConOk Try.prog 240 l5SubsC := by
  refine ⟨zaal Try.func240 (by decide) rfl, fun args H h => ?_⟩
  revert h
  dsimp only
  split
  · intro h
    obtain ⟨⟨ks, rfl, rfl⟩, hE, hA, hw, hn⟩ := h
    try simp only [de_cat] at *
    exact (SpecR.frame0 (l5Subs_pure _ _ _ ks hE hA hw hn) (H := H))
  · intro h
    exact h.elim
noncomputable def Γy15 : FuncId → Con := ext Γy14 240 l5SubsC
attribute [go_sem] Γy15
theorem Γy15_ok : ∀ g, ConOk Try.prog g (Γy15 g) := ext_ok Γy14_ok l5SubsC_ok

noncomputable def BasicFormulas_enc : List Tree × Bool → D := fun x => .tup [li cX x.1, .bool x.2]
attribute [go_sem] BasicFormulas_enc
theorem BasicFormulas_flat (x : List Tree × Bool) : dat (BasicFormulas_enc x) = BasicFormulas_enc x := by simp [go_sem]
def BasicFormulas_good (k : Int) (v : Int) (ks : List Tree) : List Tree × Bool → Prop := fun x => x.1.length ≤ 5 ∧ AllW x.1
def BasicFormulas_gd (k : Int) (v : Int) (ks : List Tree) (x : (List Tree × Bool) × D) : Prop := BasicFormulas_good k v ks x.1 ∧ dat x.2 = BasicFormulas_enc x.1
noncomputable def BasicFormulas_selD (k : Int) (v : Int) (ks : List Tree) (c : Any) : (List Tree × Bool) × D := sel (BasicFormulas_gd k v ks) ((([], false) : List Tree × Bool), BasicFormulas_enc (([], false))) c
noncomputable def BasicFormulas_sel (k : Int) (v : Int) (ks : List Tree) (c : Any) : List Tree × Bool := (BasicFormulas_selD k v ks c).1
theorem BasicFormulas_okD (k : Int) (v : Int) (ks : List Tree)  (c : Any) : BasicFormulas_gd k v ks (BasicFormulas_selD k v ks c) := by
  have hx : BasicFormulas_good k v ks (([], false)) := ⟨by simp, AllW.nil⟩
  exact sel_ok (p := BasicFormulas_gd k v ks) (x0 := ((([], false) : List Tree × Bool), BasicFormulas_enc (([], false)))) ⟨hx, BasicFormulas_flat _⟩ c
theorem BasicFormulas_ok (k : Int) (v : Int) (ks : List Tree)  (c : Any) : BasicFormulas_good k v ks (BasicFormulas_sel k v ks c) := (BasicFormulas_okD k v ks  c).1
theorem BasicFormulas_ret (k : Int) (v : Int) (ks : List Tree) {e_ : Exit} {S_ : St} (x : List Tree × Bool) (he_ : e_ = .ret ∨ e_ = .normal)
    (h1 : (zaak Try.prog S_ Try.f213.results.toList).1 ∧ dat (resD (zaak Try.prog S_ Try.f213.results.toList).2.1) = BasicFormulas_enc x) (hg : BasicFormulas_good k v ks x) :
    retR Try.prog Try.f213 (fun c => ((BasicFormulas_selD k v ks c).2, fun _ => none)) e_ S_ :=
  ret_prel (good := BasicFormulas_gd k v ks) (enc := fun x : (List Tree × Bool) × D => x.2) (x, resD (zaak Try.prog S_ Try.f213.results.toList).2.1) he_ ⟨h1.1, rfl⟩ ⟨hg, h1.2⟩
set_option maxHeartbeats 8000000 in
theorem BasicFormulas_pure (k : Int) (v : Int) (ks : List Tree)  : SpecR Try.prog 213 [.st [.int .i64 k, .int .i64 v, li cX ks]] (fun _ => none) (fun c => ((BasicFormulas_selD k v ks c).2, fun _ => none)) := by
  refine SpecR.of_walk Try.func213 rfl (by simp [Try.f213]) fun B => ?_
  (repeat' (first
    | refine AW_seq ?_
    | refine zaac (id := 0) Γy15_ok [] (by kernel_rfl) ?_; simp  [-List.getD_eq_getElem?_getD, -List.drop_one, ↓zaab, ↓zaaa, go_sem]; try (refine AW_shut 1 ?_; simp [go_sem])
    | refine zaac (id := 1) Γy15_ok [] (by kernel_rfl) ?_; simp  [-List.getD_eq_getElem?_getD, -List.drop_one, ↓zaab, ↓zaaa, go_sem]; try ((intro c1); (have z0 := NormalForm_ok k v ks c1); (generalize NormalForm_sel k v ks c1 = z1 at *); (obtain ⟨⟨gk, gv, gs⟩, okb⟩ := z1); (simp only [NormalForm_good] at z0); (obtain ⟨z2, z3⟩ := z0); (refine AW_shut 4 ?_); (simp [go_sem]))
    | refine zaac (id := 2) Γy15_ok [] (by kernel_rfl) ?_; simp  [-List.getD_eq_getElem?_getD, -List.drop_one, ↓zaab, ↓zaaa, go_sem]
    | refine zaac (id := 3) Γy15_ok [] (by kernel_rfl) ?_; simp  [-List.getD_eq_getElem?_getD, -List.drop_one, ↓zaab, ↓zaaa, go_sem]
    | refine zaac (id := 4) Γy15_ok [] (by kernel_rfl) ?_; simp  [-List.getD_eq_getElem?_getD, -List.drop_one, ↓zaab, ↓zaaa, go_sem]
    | ((have hF : ForOk (.mk gk gv gs) := z2 (by first | assumption | (simp_all; done))); (have hFw := hF.well); (have hFt := hF.tsz)); refine zaac (id := 5) Γy15_ok [] (by kernel_rfl) ?_; simp  [-List.getD_eq_getElem?_getD, -List.drop_one, ↓zaab, ↓zaaa, go_sem, hFw, AllW.nil, (show tsz (.mk gk gv gs) ≤ 1000000 by omega)]; try ((intro c5); (have y0 := l5Subs_ok .nil gk gv gs (.inl rfl) AllW.nil hFw (by simp only [xsO_nil, List.length_nil]; omega) c5); (simp only [l5Subs_good, xsO_nil, List.length_nil] at y0); (generalize l5Subs_sel .nil gk gv gs c5 = subs at *); (obtain ⟨y1, y2⟩ := y0); (refine AW_shut 7 ?_); (simp [go_sem, dat]))
    | refine zaac (id := 6) Γy15_ok [] (by kernel_rfl) ?_; simp  [-List.getD_eq_getElem?_getD, -List.drop_one, ↓zaab, ↓zaaa, go_sem]
    | refine zaac (id := 7) Γy15_ok [] (by kernel_rfl) ?_; simp  [-List.getD_eq_getElem?_getD, -List.drop_one, ↓zaab, ↓zaaa, go_sem]
    | refine zaac (id := 9) Γy15_ok [] (by kernel_rfl) ?_; simp  [-List.getD_eq_getElem?_getD, -List.drop_one, ↓zaab, ↓zaaa, go_sem, c23, zaas c23, Nat.sub_pos_of_lt c23]
    | refine zaac (id := 10) Γy15_ok [] (by kernel_rfl) ?_; simp  [-List.getD_eq_getElem?_getD, -List.drop_one, ↓zaab, ↓zaaa, go_sem, c23, zaas c23, Nat.sub_pos_of_lt c23, (show q.2.length ≤ 9223372036854775806 by omega), (show 2 * (q.2.length + 1) * 40 ≤ 281474976710656 by omega)]; try ((have o4 := g3.snoc (y2.at c23)); (have e4 := snoc_cX q.2 (nth subs q.1)); (have o3 : (q.2 ++ [nth subs q.1]).length = q.2.length + 1 := (by simp)); (simp only [li] at e4); (rw [e4, ← o3]); (generalize q.2 ++ [nth subs q.1] = o2 at *))
    | refine zaac (id := 8) Γy15_ok [] (by kernel_rfl) ?_; simp  [-List.getD_eq_getElem?_getD, -List.drop_one, ↓zaab, ↓zaaa, go_sem, wrapS (k := q.1) (by omega)]
    | ((refine AW_shut 6 ?_); (simp only [go_sem, dat, datL_map, cat_flat2])); refine zaac (id := 11) Γy15_ok [] (by kernel_rfl) ?_; simp  [-List.getD_eq_getElem?_getD, -List.drop_one, ↓zaab, ↓zaaa, go_sem]
    | refine zaac (id := 12) Γy15_ok [] (by kernel_rfl) ?_; simp  [-List.getD_eq_getElem?_getD, -List.drop_one, ↓zaab, ↓zaaa, go_sem]
    | refine zaac (id := 13) Γy15_ok [] (by kernel_rfl) ?_; simp  [-List.getD_eq_getElem?_getD, -List.drop_one, ↓zaab, ↓zaaa, go_sem]
    | refine zaaf (c := .tmp 15) ?_; simp [-List.getD_eq_getElem?_getD, -List.drop_one, ↓zaab, ↓zaaa, go_sem]; try first | (refine ⟨?_, ?_⟩ <;> change AW _ _ _ _ _ _) | (refine ⟨fun c15 => ?_, fun c15 => ?_⟩ <;> (try simp [B_iff, B_not] at c15))
    | refine zaaf (c := .tmp 23) ?_; simp [-List.getD_eq_getElem?_getD, -List.drop_one, ↓zaab, ↓zaaa, go_sem]; try first | (refine ⟨?_, ?_⟩ <;> change AW _ _ _ _ _ _) | (refine ⟨fun c23 => ?_, fun c23 => ?_⟩ <;> (try simp [B_iff, B_not] at c23))
    | refine zaaf (c := .tmp 30) ?_; simp [-List.getD_eq_getElem?_getD, -List.drop_one, ↓zaab, ↓zaaa, go_sem]; try first | (refine ⟨?_, ?_⟩ <;> change AW _ _ _ _ _ _) | (refine ⟨fun c30 => ?_, fun c30 => ?_⟩ <;> (try simp [B_iff, B_not] at c30))
    | refine zaaf (c := .tmp 40) ?_; simp [-List.getD_eq_getElem?_getD, -List.drop_one, ↓zaab, ↓zaaa, go_sem]; try first | (refine ⟨?_, ?_⟩ <;> change AW _ _ _ _ _ _) | (refine ⟨fun c40 => ?_, fun c40 => ?_⟩ <;> (try simp [B_iff, B_not] at c40))
    | (refine zaag (id := 0) (AW_loop (ι := Nat × List Tree) (fun q : Nat × List Tree => ⟨(upd (upd (upd (fun _ => .any) 6 (.fr 3 q.2.length (cat cX q.2))) 7 (.list subs.length (cat cX subs))) 8 (.int .i64 q.1)), fun _ => none⟩) (fun q => q.1 ≤ subs.length ∧ q.2.length ≤ q.1 ∧ AllW q.2) (fun q => subs.length - q.1) ((0, [])) ?_ ?_ ?_); exact ⟨Nat.zero_le _, Nat.le_refl _, AllW.nil⟩; ((repeat' (first | exact zaad (by assumption) | exact zaah | refine zaai ?_ ?_ | refine zaae ?_)) <;> simp [-List.getD_eq_getElem?_getD, -List.drop_one, ↓zaab, ↓zaaa, go_sem, List.length_nil, cat_nil]); rintro q ⟨g1, g2, g3⟩)
    | (refine ⟨(q.1 + 1, o2), ⟨by dsimp only; omega, by dsimp only; omega, o4⟩, by first | omega | (simp; done) | (simp; omega), ?_⟩; ((repeat' (first | exact zaad (by assumption) | exact zaah | refine zaai ?_ ?_ | refine zaae ?_)) <;> simp [-List.getD_eq_getElem?_getD, -List.drop_one, ↓zaab, ↓zaaa, go_sem, List.length_nil, cat_nil]))
    | (refine zaag ?_)
    | (refine zaap ?_; simp [-List.getD_eq_getElem?_getD, -List.drop_one, ↓zaab, ↓zaaa, go_sem])
    | (refine zaan ?_; simp [-List.getD_eq_getElem?_getD, -List.drop_one, ↓zaab, ↓zaaa, go_sem])
    | (refine AW_ret ?_; try simp [-List.getD_eq_getElem?_getD, -List.drop_one, ↓zaab, ↓zaaa, go_sem, Try.results213])
    | (intro hx; change AW _ _ _ _ _ _)
    | (intro hx; change retR _ _ _ _ _)
    | (refine ⟨?_, ?_⟩ <;> change AW _ _ _ _ _ _)
    | (intro hx; refine ⟨fun hs => ?_, fun hs => ?_⟩)
    | (refine ⟨fun hs => ?_, fun hs => ?_⟩)
    | (refine ⟨?_, fun hs => ?_⟩; change AW _ _ _ _ _ _)
    | (refine ⟨fun hs => ?_, ?_⟩; rotate_left; change AW _ _ _ _ _ _; rotate_left)
    | ((fail_if_success change retR _ _ _ _ _); (refine ⟨(q.1 + 1, q.2), ⟨by dsimp only; omega, by dsimp only; omega, g3⟩, by dsimp only; omega, ?_⟩; ((repeat' (first | exact zaad (by assumption) | exact zaah | refine zaai ?_ ?_ | refine zaae ?_)) <;> simp [-List.getD_eq_getElem?_getD, -List.drop_one, go_sem])))))
  all_goals (first
    | (refine BasicFormulas_ret _ _ _ (([], false)) ?_ ?_ ?_; (first | exact Or.inl rfl | exact Or.inr rfl); (focus (simp [-List.getD_eq_getElem?_getD, -List.drop_one, ↓zaab, ↓zaaa, go_sem, Try.results213, dat, datL_map, li, cat_nil]; done)); (focus ((exact ⟨by simp, AllW.nil⟩); done)))
    | (refine BasicFormulas_ret _ _ _ ((q.2, true)) ?_ ?_ ?_; (first | exact Or.inl rfl | exact Or.inr rfl); (focus (simp [-List.getD_eq_getElem?_getD, -List.drop_one, ↓zaab, ↓zaaa, go_sem, Try.results213, dat, datL_map, li, cat_flat2]; done)); (focus ((exact ⟨by dsimp only; omega, g3⟩); done)))
    | skip)
noncomputable def BasicFormulasC : Con := .rel fun args H => match args with
  | [.st [.int .i64 k, .int .i64 v, .list n_ks c_ks]] => ((Is cX n_ks c_ks), fun c => (BasicFormulas_enc (BasicFormulas_sel k v (de cX c_ks) c), H))
  | _ => (False, fun _ => (.any, H))
attribute [go_sem] BasicFormulasC
theorem BasicFormulasC_ok : ConOk Try.prog 213 BasicFormulasC := by
  refine ⟨zaal Try.func213 (by decide) rfl, fun args H h => ?_⟩
  revert h
  dsimp only
  split
  · intro h
    obtain ⟨ks, rfl, rfl⟩ := h
    try simp only [de_cat] at *
    exact SpecR.enc ((SpecR.frame0 (BasicFormulas_pure _ _ ks ) (H := H)).shut) fun c => Prod.ext (BasicFormulas_okD _ _ _  c).2.symm rfl
  · intro h
    exact h.elim
noncomputable def Γy16 : FuncId → Con := ext Γy15 213 BasicFormulasC
attribute [go_sem] Γy16
theorem Γy16_ok : ∀ g, ConOk Try.prog g (Γy16 g) := ext_ok Γy15_ok BasicFormulasC_ok

noncomputable def valN (bs : List Tree) (s : Int) : Nat → Tree → Bool
  | 0, _ => false
  | n + 1, t => if t.k = 1 then true else if t.k = 3 then !valN bs s n (nth t.ks 0) else if t.k = 4 then valN bs s n (nth t.ks 0) && valN bs s n (nth t.ks 1) else if t.k = 5 then valN bs s n (nth t.ks 0) || valN bs s n (nth t.ks 1) else hasF s (findI (fun z => B (TEq z t)) bs)
def VOk : Nat → Tree → Prop
  | 0, _ => False
  | n + 1, t => (t.k = 3 → 0 < t.ks.length ∧ VOk n (nth t.ks 0)) ∧ (t.k = 4 ∨ t.k = 5 → 1 < t.ks.length ∧ VOk n (nth t.ks 0) ∧ VOk n (nth t.ks 1))
theorem VOk.ofShape : ∀ (d : Nat) (t : Tree), ShapeF d t → VOk d t
  | 0, _, h => h.elim
  | d + 1, t, h => by
    obtain ⟨h1, h2, h3, h4, h5⟩ := h
    refine ⟨fun e => ?_, fun e => ?_⟩
    · have : t.ks.length = 1 := by unfold arF at h1; rw [if_neg (by omega), if_pos (by omega)] at h1; omega
      exact ⟨by omega, VOk.ofShape d _ (h5 0 (by omega))⟩
    · have : t.ks.length = 2 := by unfold arF at h1; rw [if_neg (by omega), if_neg (by omega), if_pos (by omega)] at h1; omega
      exact ⟨by omega, VOk.ofShape d _ (h5 0 (by omega)), VOk.ofShape d _ (h5 1 (by omega))⟩
end Go.Proofs.Ytkjimmkemnmajaa.Vm

