/-
  Expressions counted and evaluated; systems: valid. No conditions.
-/
import Derived.Test.YtljncoikoffijaaE2
namespace Go.Proofs.Ytljncoikoffijaa.Vm
open Go
set_option linter.unusedVariables false
set_option linter.unusedSimpArgs false
set_option maxRecDepth 200000

/-- The measures of the first i kids. -/
def csum (m : Tree → Int) (ks : List Tree) (i : Nat) : Int := ((ks.take i).map m).sum
theorem csum_zero (m : Tree → Int) (ks : List Tree) : csum m ks 0 = 0 := by simp [csum]
theorem csum_succ (m : Tree → Int) {ks : List Tree} {i : Nat} (h : i < ks.length) : csum m ks (i + 1) = csum m ks i + m (nth ks i) := by
  unfold csum; rw [List.take_succ_eq_append_getElem h, List.map_append, List.sum_append, nth_lt h]; simp
theorem csum_rng {m : Tree → Int} {ks : List Tree} {M : Int} (h : ∀ i, i < ks.length → 1 ≤ m (nth ks i) ∧ m (nth ks i) ≤ M) : ∀ i, i ≤ ks.length → 0 ≤ csum m ks i ∧ csum m ks i ≤ i * M
  | 0, _ => by rw [csum_zero]; simp
  | i + 1, hi => by
    have h1 := csum_rng h i (by omega)
    have h2 := h i (by omega)
    rw [csum_succ m (by omega)]
    have : ((i + 1 : Nat) : Int) * M = i * M + M := by rw [Int.natCast_add, Int.add_mul]; simp
    omega
/-- The nodes down to a depth. -/
def cntT : Nat → Tree → Int
  | 0, _ => 1
  | d + 1, t => 1 + csum (cntT d) t.ks t.ks.length
theorem cnt_rng : ∀ (d : Nat) (t : Tree), ShapeOk d t → 1 ≤ cntT d t ∧ cntT d t ≤ ((4 ^ d : Nat) : Int)
  | 0, t, h => h.elim
  | d + 1, t, h => by
    have h2 := h.two
    have h3 := csum_rng (m := cntT d) (ks := t.ks) (M := ((4 ^ d : Nat) : Int)) (fun i hi => cnt_rng d _ (h.2.2.2 i hi)) t.ks.length (Nat.le_refl _)
    have p : 1 ≤ 4 ^ d := Nat.one_le_pow _ _ (by omega)
    have h4 : (t.ks.length : Int) * ((4 ^ d : Nat) : Int) ≤ 2 * ((4 ^ d : Nat) : Int) := Int.mul_le_mul_of_nonneg_right (by omega) (by omega)
    have h5 : 4 ^ (d + 1) = 4 * 4 ^ d := by rw [Nat.pow_succ, Nat.mul_comm]
    rw [cntT, h5]
    omega
theorem pow_le20 {d : Nat} (h : d ≤ 20) : 4 ^ d ≤ 1099511627776 := by
  have : 4 ^ d ≤ 4 ^ 20 := Nat.pow_le_pow_right (by omega) h
  have e : 4 ^ 20 = 1099511627776 := by decide
  omega
theorem cnt_bd {d : Nat} {t : Tree} (h : ShapeOk d t) (hd : d ≤ 20) : 1 ≤ cntT d t ∧ cntT d t ≤ 1099511627776 := by
  have := cnt_rng d t h; have := pow_le20 hd; omega
theorem shape_at {d : Int} {k v : Int} {ks : List Tree} (h : ShapeOk d.toNat (.mk k v ks)) : 1 ≤ d ∧ (ks.length : Int) = ar k ∧ ks.length ≤ 2 ∧ (0 ≤ v ∧ v ≤ lim k) ∧ ∀ i, i < ks.length → ShapeOk (d.toNat - 1) (nth ks i) := by
  have h1 : 1 ≤ d := by
    rcases Int.lt_or_le d 1 with q | q
    · rw [show d.toNat = 0 by omega] at h; exact h.elim
    · exact q
  obtain ⟨q1, q2, q3, q4⟩ := (shape_iff h1).1 h
  exact ⟨h1, q1, h.two, ⟨q2, q3⟩, q4⟩

noncomputable def l1Count_pureCn (n_ : Nat) : Con := .pure fun
  | [.st [.int .i64 k, .int .i64 v, .list n_ks c_ks], .int .i64 d] => ((Is cX n_ks c_ks) ∧ (d ≤ 20) ∧ (ShapeOk d.toNat (.mk k v (de cX c_ks))) ∧ (d.toNat < n_), .int .i64 (cntT d.toNat (.mk k v (de cX c_ks))))
  | _ => (False, .any)
attribute [go_sem] l1Count_pureCn
theorem l1Count_pureCn_ok {n_ : Nat} (ih : ∀ (k : Int) (v : Int) (ks : List Tree) (d : Int) (h0 : d ≤ 20) (hS : ShapeOk d.toNat (.mk k v ks)) (hm_ : d.toNat < n_), Pure Try.prog 168 [.st [.int .i64 k, .int .i64 v, li cX ks], .int .i64 d] (.int .i64 (cntT d.toNat (.mk k v ks)))) : ConOk Try.prog 168 (l1Count_pureCn n_) := by
  refine ⟨callable Try.func168 (by decide) rfl, fun args h => ?_⟩
  revert h
  dsimp only
  split
  · intro h
    obtain ⟨⟨ks, rfl, rfl⟩, h0, hS, hm_⟩ := h
    try simp only [de_cat] at *
    exact ⟨ih _ _ ks _ h0 hS hm_, by simp [go_sem]⟩
  · intro h
    exact h.elim
theorem l1Count_pure_rec : ∀ (n_ : Nat), ∀ (k : Int) (v : Int) (ks : List Tree) (d : Int) (h0 : d ≤ 20) (hS : ShapeOk d.toNat (.mk k v ks)) (hm_ : d.toNat < n_), Pure Try.prog 168 [.st [.int .i64 k, .int .i64 v, li cX ks], .int .i64 d] (.int .i64 (cntT d.toNat (.mk k v ks))) := by
  intro n_
  induction n_ with
  | zero => intros; omega
  | succ n_ ih =>
  intro k v ks d h0 hS hm_
  have Γr_ok := ext_ok Γe5_ok (l1Count_pureCn_ok ih)
  refine Pure.of_walk Try.func168 rfl (by simp [Try.f168]) (by simp [-List.drop_one, go_sem]) fun B hK => ?_
  obtain ⟨s1, s2, s3, s4, s5⟩ := shape_at hS; have hcb : ∀ i, i < ks.length → 1 ≤ cntT (d.toNat - 1) (nth ks i) ∧ cntT (d.toNat - 1) (nth ks i) ≤ 1099511627776 := (fun i hi => cnt_bd (s5 i hi) (by omega))
  all_goals (repeat' (first
    | refine AW_seq ?_
    | refine AW_region (id := 0) Γr_ok [] (by kernel_rfl) ?_; simp  [-List.getD_eq_getElem?_getD, -List.drop_one, ↓splitB_true, ↓splitB_false, go_sem]; try (refine AW_data hK 2 ?_; simp [go_sem])
    | refine AW_region (id := 1) Γr_ok [] (by kernel_rfl) ?_; simp  [-List.getD_eq_getElem?_getD, -List.drop_one, ↓splitB_true, ↓splitB_false, go_sem]
    | refine AW_region (id := 2) Γr_ok [] (by kernel_rfl) ?_; simp  [-List.getD_eq_getElem?_getD, -List.drop_one, ↓splitB_true, ↓splitB_false, go_sem]
    | refine AW_region (id := 3) Γr_ok [12] (by kernel_rfl) ?_; simp  [-List.getD_eq_getElem?_getD, -List.drop_one, ↓splitB_true, ↓splitB_false, go_sem, (show 0 < d by omega)]; try (refine ⟨fun s3a => ?_, fun s3a => ?_⟩ <;> (try simp [B_iff, B_not] at s3a) <;> try (refine ⟨fun s3b => ?_, fun s3b => ?_⟩ <;> (try simp [B_iff, B_not] at s3b)))
    | (have q1 := csum_rng hcb i hi; have q2 := hcb i s3a); refine AW_region (id := 5) Γr_ok [] (by kernel_rfl) ?_; simp  [-List.getD_eq_getElem?_getD, -List.drop_one, ↓splitB_true, ↓splitB_false, go_sem, s3a, ne_nil s3a, Nat.sub_pos_of_lt s3a, wrap_in (x := d - 1) (by omega) (by omega), (show d - 1 ≤ 20 by omega), (show d ≤ 20 + 1 by omega), (show d.toNat - 1 < n_ by omega), (show 0 < d.toNat by omega), Tree.eta, s5 i s3a, wrap_in (x := 1 + csum (cntT (d.toNat - 1)) ks i + cntT (d.toNat - 1) (nth ks i)) (by omega) (by omega)]
    | refine AW_region (id := 4) Γr_ok [] (by kernel_rfl) ?_; simp  [-List.getD_eq_getElem?_getD, -List.drop_one, ↓splitB_true, ↓splitB_false, go_sem, wrapS (k := i) (by omega)]
    | refine AW_region (id := 6) Γr_ok [] (by kernel_rfl) ?_; simp  [-List.getD_eq_getElem?_getD, -List.drop_one, ↓splitB_true, ↓splitB_false, go_sem]
    | refine AW_condA (c := .tmp 15) ?_; simp [-List.getD_eq_getElem?_getD, -List.drop_one, ↓splitB_true, ↓splitB_false, go_sem]; try first | (refine ⟨?_, ?_⟩ <;> change AW _ _ _ _ _ _) | (refine ⟨fun c15 => ?_, fun c15 => ?_⟩ <;> (try simp [B_iff, B_not] at c15))
    | (refine AW_block (id := 0) (AW_loop (ι := Nat) (fun i : Nat => ⟨(upd (upd (upd (upd (fun _ => .any) 1 (.int .i64 d)) 2 (.pd [.int .i64 k, .int .i64 v, li cX ks])) 5 (.int .i64 (1 + csum (cntT (d.toNat - 1)) ks i))) 6 (.int .i64 i)), fun _ => none⟩) (fun i => i ≤ ks.length) (fun i => ks.length - i) (0) ?_ ?_ ?_); exact Nat.zero_le _; ((repeat' (first | exact sub_noneH (by assumption) | exact sub_none | refine sub_upd ?_ ?_ | refine sub_noneE ?_)) <;> simp [-List.getD_eq_getElem?_getD, -List.drop_one, ↓splitB_true, ↓splitB_false, go_sem, csum_zero]); rintro i hi)
    | (refine ⟨i + 1, by omega, by first | omega | (simp; done) | (simp; omega), ?_⟩; ((repeat' (first | exact sub_noneH (by assumption) | exact sub_none | refine sub_upd ?_ ?_ | refine sub_noneE ?_)) <;> simp [-List.getD_eq_getElem?_getD, -List.drop_one, ↓splitB_true, ↓splitB_false, go_sem, csum_succ (cntT (d.toNat - 1)) s3a, Int.add_assoc]))
    | (refine AW_block ?_)
    | (refine AW_exit ?_; simp [-List.getD_eq_getElem?_getD, -List.drop_one, ↓splitB_true, ↓splitB_false, go_sem])
    | (refine AW_skip ?_; simp [-List.getD_eq_getElem?_getD, -List.drop_one, ↓splitB_true, ↓splitB_false, go_sem])
    | (refine AW_ret ?_; simp [-List.getD_eq_getElem?_getD, -List.drop_one, ↓splitB_true, ↓splitB_false, go_sem, Try.results168])
    | (intro hx; change AW _ _ _ _ _ _)
    | (refine ⟨?_, ?_⟩ <;> change AW _ _ _ _ _ _)
    | (intro hx; refine ⟨fun hs => ?_, fun hs => ?_⟩)
    | (refine ⟨fun hs => ?_, fun hs => ?_⟩)
    | (refine ⟨?_, fun hs => ?_⟩; change AW _ _ _ _ _ _)
    | (refine ⟨fun hs => ?_, ?_⟩; rotate_left; change AW _ _ _ _ _ _; rotate_left)))
  all_goals (first
    | (obtain ⟨d', e⟩ : ∃ d', d.toNat = d' + 1 := ⟨d.toNat - 1, by omega⟩; obtain rfl : i = ks.length := (by omega); rw [e]; simp only [cntT, Nat.add_sub_cancel, Tree.ks])
    | skip)
theorem l1Count_pure (k : Int) (v : Int) (ks : List Tree) (d : Int) (h0 : d ≤ 20) (hS : ShapeOk d.toNat (.mk k v ks)) : Pure Try.prog 168 [.st [.int .i64 k, .int .i64 v, li cX ks], .int .i64 d] (.int .i64 (cntT d.toNat (.mk k v ks))) := l1Count_pure_rec (d.toNat + 1) k v ks d h0 hS (by omega)
noncomputable def l1Count_pureC : Con := .pure fun
  | [.st [.int .i64 k, .int .i64 v, .list n_ks c_ks], .int .i64 d] => ((Is cX n_ks c_ks) ∧ (d ≤ 20) ∧ (ShapeOk d.toNat (.mk k v (de cX c_ks))), .int .i64 (cntT d.toNat (.mk k v (de cX c_ks))))
  | _ => (False, .any)
attribute [go_sem] l1Count_pureC
theorem l1Count_pureC_ok : ConOk Try.prog 168 l1Count_pureC := by
  refine ⟨callable Try.func168 (by decide) rfl, fun args h => ?_⟩
  revert h
  dsimp only
  split
  · intro h
    obtain ⟨⟨ks, rfl, rfl⟩, h0, hS⟩ := h
    try simp only [de_cat] at *
    exact ⟨l1Count_pure _ _ ks _ h0 hS, by simp [go_sem]⟩
  · intro h
    exact h.elim
noncomputable def Γe6 : FuncId → Con := ext Γe5 168 l1Count_pureC
attribute [go_sem] Γe6
theorem Γe6_ok : ∀ g, ConOk Try.prog g (Γe6 g) := ext_ok Γe5_ok l1Count_pureC_ok

/-- A valid expression. -/
def ExprOk (t : Tree) : Prop := ShapeOk 6 t ∧ cntT 6 t ≤ 15
theorem ExprValid_pure (k : Int) (v : Int) (ks : List Tree)  : Pure Try.prog 160 [.st [.int .i64 k, .int .i64 v, li cX ks]] (.bool (B (ExprOk (.mk k v ks)))) := by
  refine Pure.of_walk Try.func160 rfl (by simp [Try.f160]) (by simp [-List.drop_one, go_sem]) fun B hK => ?_
  cases hs : Vm.B (ShapeOk 6 (.mk k v ks))
  all_goals (repeat' (first
    | refine AW_seq ?_
    | refine AW_region (id := 0) Γe6_ok [] (by kernel_rfl) ?_; simp  [-List.getD_eq_getElem?_getD, -List.drop_one, ↓splitB_true, ↓splitB_false, go_sem]; try (refine AW_data hK 1 ?_; simp [go_sem])
    | ((try (have hS : ShapeOk 6 (.mk k v ks) := (by rw [B_iff] at hs; exact hs))); skip); refine AW_region (id := 1) Γe6_ok [5] (by kernel_rfl) ?_; simp  [-List.getD_eq_getElem?_getD, -List.drop_one, ↓splitB_true, ↓splitB_false, go_sem, hs, hS]; try (refine ⟨fun s1a => ?_, fun s1a => ?_⟩ <;> (try simp [B_iff, B_not] at s1a) <;> try (refine ⟨fun s1b => ?_, fun s1b => ?_⟩ <;> (try simp [B_iff, B_not] at s1b)))
    | refine AW_region (id := 1) Γe6_ok [5] (by kernel_rfl) ?_; simp  [-List.getD_eq_getElem?_getD, -List.drop_one, ↓splitB_true, ↓splitB_false, go_sem, hs]; try (refine ⟨fun s1a => ?_, fun s1a => ?_⟩ <;> (try simp [B_iff, B_not] at s1a) <;> try (refine ⟨fun s1b => ?_, fun s1b => ?_⟩ <;> (try simp [B_iff, B_not] at s1b)))
    | (refine AW_block ?_)
    | (refine AW_exit ?_; simp [-List.getD_eq_getElem?_getD, -List.drop_one, ↓splitB_true, ↓splitB_false, go_sem])
    | (refine AW_skip ?_; simp [-List.getD_eq_getElem?_getD, -List.drop_one, ↓splitB_true, ↓splitB_false, go_sem])
    | (refine AW_ret ?_; simp [-List.getD_eq_getElem?_getD, -List.drop_one, ↓splitB_true, ↓splitB_false, go_sem, Try.results160])
    | (intro hx; change AW _ _ _ _ _ _)
    | (refine ⟨?_, ?_⟩ <;> change AW _ _ _ _ _ _)
    | (intro hx; refine ⟨fun hs => ?_, fun hs => ?_⟩)
    | (refine ⟨fun hs => ?_, fun hs => ?_⟩)
    | (refine ⟨?_, fun hs => ?_⟩; change AW _ _ _ _ _ _)
    | (refine ⟨fun hs => ?_, ?_⟩; rotate_left; change AW _ _ _ _ _ _; rotate_left)))
  all_goals (first
    | (rw [eq_comm, B_not]; intro h; have := B_yes h.1; rw [hs] at this; cases this; done)
    | (rw [B_not]; intro h; have := B_yes h.1; rw [hs] at this; cases this; done)
    | (rw [Bool.eq_iff_iff, B_iff, decide_eq_true_eq]; exact ⟨fun h => ⟨hS, h⟩, fun h => h.2⟩)
    | (intro h; have := B_yes h.1; rw [hs] at this; cases this; done)
    | skip)
noncomputable def ExprValid_pureC : Con := .pure fun
  | [.st [.int .i64 k, .int .i64 v, .list n_ks c_ks]] => ((Is cX n_ks c_ks), .bool (B (ExprOk (.mk k v (de cX c_ks)))))
  | _ => (False, .any)
attribute [go_sem] ExprValid_pureC
theorem ExprValid_pureC_ok : ConOk Try.prog 160 ExprValid_pureC := by
  refine ⟨callable Try.func160 (by decide) rfl, fun args h => ?_⟩
  revert h
  dsimp only
  split
  · intro h
    obtain ⟨ks, rfl, rfl⟩ := h
    try simp only [de_cat] at *
    exact ⟨ExprValid_pure _ _ ks, by simp [go_sem]⟩
  · intro h
    exact h.elim
noncomputable def Γe7 : FuncId → Con := ext Γe6 160 ExprValid_pureC
attribute [go_sem] Γe7
theorem Γe7_ok : ∀ g, ConOk Try.prog g (Γe7 g) := ext_ok Γe6_ok ExprValid_pureC_ok

theorem l1Bool_pure (b : Bool)  : Pure Try.prog 170 [.bool b] (.int .i64 (if b then 1 else 0)) := by
  refine Pure.of_walk Try.func170 rfl (by simp [Try.f170]) (by simp [-List.drop_one, go_sem]) fun B hK => ?_
  cases b
  all_goals (repeat' (first
    | refine AW_seq ?_
    | refine AW_region (id := 0) Γe7_ok [] (by kernel_rfl) ?_; simp  [-List.getD_eq_getElem?_getD, -List.drop_one, ↓splitB_true, ↓splitB_false, go_sem]
    | refine AW_region (id := 1) Γe7_ok [] (by kernel_rfl) ?_; simp  [-List.getD_eq_getElem?_getD, -List.drop_one, ↓splitB_true, ↓splitB_false, go_sem]
    | refine AW_region (id := 2) Γe7_ok [] (by kernel_rfl) ?_; simp  [-List.getD_eq_getElem?_getD, -List.drop_one, ↓splitB_true, ↓splitB_false, go_sem]
    | refine AW_region (id := 3) Γe7_ok [] (by kernel_rfl) ?_; simp  [-List.getD_eq_getElem?_getD, -List.drop_one, ↓splitB_true, ↓splitB_false, go_sem]
    | refine AW_condA (c := .tmp 3) ?_; simp [-List.getD_eq_getElem?_getD, -List.drop_one, ↓splitB_true, ↓splitB_false, go_sem]; try first | (refine ⟨?_, ?_⟩ <;> change AW _ _ _ _ _ _) | (refine ⟨fun c3 => ?_, fun c3 => ?_⟩ <;> (try simp [B_iff, B_not] at c3))
    | (refine AW_block ?_)
    | (refine AW_exit ?_; simp [-List.getD_eq_getElem?_getD, -List.drop_one, ↓splitB_true, ↓splitB_false, go_sem])
    | (refine AW_skip ?_; simp [-List.getD_eq_getElem?_getD, -List.drop_one, ↓splitB_true, ↓splitB_false, go_sem])
    | (refine AW_ret ?_; simp [-List.getD_eq_getElem?_getD, -List.drop_one, ↓splitB_true, ↓splitB_false, go_sem, Try.results170])
    | (intro hx; change AW _ _ _ _ _ _)
    | (refine ⟨?_, ?_⟩ <;> change AW _ _ _ _ _ _)
    | (intro hx; refine ⟨fun hs => ?_, fun hs => ?_⟩)
    | (refine ⟨fun hs => ?_, fun hs => ?_⟩)
    | (refine ⟨?_, fun hs => ?_⟩; change AW _ _ _ _ _ _)
    | (refine ⟨fun hs => ?_, ?_⟩; rotate_left; change AW _ _ _ _ _ _; rotate_left)))
noncomputable def l1Bool_pureC : Con := .pure fun
  | [.bool b] => (True, .int .i64 (if b then 1 else 0))
  | _ => (False, .any)
attribute [go_sem] l1Bool_pureC
theorem l1Bool_pureC_ok : ConOk Try.prog 170 l1Bool_pureC := by
  refine ⟨callable Try.func170 (by decide) rfl, fun args h => ?_⟩
  revert h
  dsimp only
  split
  · intro h
    skip
    skip
    exact ⟨l1Bool_pure _, by simp [go_sem]⟩
  · intro h
    exact h.elim
noncomputable def Γe8 : FuncId → Con := ext Γe7 170 l1Bool_pureC
attribute [go_sem] Γe8
theorem Γe8_ok : ∀ g, ConOk Try.prog g (Γe8 g) := ext_ok Γe7_ok l1Bool_pureC_ok
mutual
def tsz : Tree → Nat
  | .mk _ _ ks => 1 + tszs ks
def tszs : List Tree → Nat
  | [] => 0
  | t :: ts => tsz t + tszs ts
end
theorem tsz_kid : ∀ (ks : List Tree) (i : Nat), i < ks.length → tsz (nth ks i) ≤ tszs ks
  | [], i, h => by simp at h
  | t :: ts, 0, h => by rw [tszs, nth_zero]; omega
  | t :: ts, i + 1, h => by rw [tszs, nth_succ]; have := tsz_kid ts i (by simpa using h); omega
theorem tsz_lt {k v : Int} {ks : List Tree} {i : Nat} (h : i < ks.length) : tsz (nth ks i) < tsz (.mk k v ks) := by rw [tsz]; have := tsz_kid ks i h; omega
/-- Well-made. -/
def Well (t : Tree) : Prop := ∃ d, ShapeOk d t
theorem Well.at {k v : Int} {ks : List Tree} (h : Well (.mk k v ks)) : (ks.length : Int) = ar k ∧ 0 ≤ v ∧ v ≤ lim k ∧ ∀ i, i < ks.length → Well (nth ks i) := by
  obtain ⟨d, h⟩ := h
  cases d with
  | zero => exact h.elim
  | succ d => obtain ⟨q1, q2, q3, q4⟩ := h; exact ⟨q1, q2, q3, fun i hi => ⟨d, q4 i hi⟩⟩
theorem ValsOk.at {xs : List Int} (h : ValsOk xs) {i : Nat} (hi : i < 3) : i < xs.length ∧ 0 ≤ nth xs i ∧ nth xs i ≤ 3 := by
  have := h.1; exact ⟨by omega, h.2 i (by omega)⟩
end Go.Proofs.Ytljncoikoffijaa.Vm

