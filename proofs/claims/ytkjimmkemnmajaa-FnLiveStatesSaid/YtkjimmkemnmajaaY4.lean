/-
  Formulas: values, what follows, letters, phases, pairs. No conditions.
-/
import Derived.Test.YtkjimmkemnmajaaY3
namespace Go.Proofs.Ytkjimmkemnmajaa.Vm
open Go
set_option linter.unusedVariables false
set_option linter.unusedSimpArgs false
set_option maxRecDepth 200000

theorem valN_eq {bs : List Tree} {s : Int} {n : Nat} (h : 0 < n) {k v : Int} {ks : List Tree} : valN bs s n (.mk k v ks) = if k = 1 then true else if k = 3 then !valN bs s (n - 1) (nth ks 0) else if k = 4 then valN bs s (n - 1) (nth ks 0) && valN bs s (n - 1) (nth ks 1) else if k = 5 then valN bs s (n - 1) (nth ks 0) || valN bs s (n - 1) (nth ks 1) else hasF s (findI (fun z => B (TEq z (.mk k v ks))) bs) := by
  obtain ⟨m, rfl⟩ : ∃ m, n = m + 1 := ⟨n - 1, by omega⟩
  rfl
theorem VOk.at {n : Nat} {k v : Int} {ks : List Tree} (h : VOk n (.mk k v ks)) : 0 < n ∧ (k = 3 → 0 < ks.length ∧ VOk (n - 1) (nth ks 0)) ∧ (k = 4 ∨ k = 5 → 1 < ks.length ∧ VOk (n - 1) (nth ks 0) ∧ VOk (n - 1) (nth ks 1)) := by
  cases n with
  | zero => exact h.elim
  | succ n => exact ⟨by omega, h.1, h.2⟩
theorem WellF.vok {t : Tree} (h : WellF t) : ∃ n, VOk n t := by obtain ⟨d, h⟩ := h; exact ⟨d, VOk.ofShape d t h⟩
theorem VOk.zero {t : Tree} (h : t.k = 0) : VOk 1 t := ⟨fun e => by omega, fun e => by omega⟩
def Valu (t : Tree) : Prop := ∃ n, VOk n t
theorem WellF.valu {t : Tree} (h : WellF t) : Valu t := h.vok
theorem Valu.zero {t : Tree} (h : t.k = 0) : Valu t := ⟨1, VOk.zero h⟩
theorem Valu.at {k v : Int} {ks : List Tree} (h : Valu (.mk k v ks)) : (k = 3 → 0 < ks.length ∧ Valu (nth ks 0)) ∧ (k = 4 ∨ k = 5 → 1 < ks.length ∧ Valu (nth ks 0) ∧ Valu (nth ks 1)) := by
  obtain ⟨n, h⟩ := h
  obtain ⟨h0, h1, h2⟩ := h.at
  exact ⟨fun e => ⟨(h1 e).1, _, (h1 e).2⟩, fun e => ⟨(h2 e).1, ⟨_, (h2 e).2.1⟩, _, (h2 e).2.2⟩⟩
noncomputable def valF (bs : List Tree) (s : Int) (t : Tree) : Bool := valN bs s (tsz t) t
theorem tsz_pos (t : Tree) : 0 < tsz t := by cases t; rw [tsz]; omega
theorem valN_more (bs : List Tree) (s : Int) : ∀ (n : Nat) (t : Tree), VOk n t → ∀ m, tsz t ≤ m → valN bs s m t = valF bs s t := by
  have key : ∀ (n : Nat) (t : Tree), VOk n t → ∀ m l, tsz t ≤ m → tsz t ≤ l → valN bs s m t = valN bs s l t := by
    intro n
    induction n with
    | zero => intro t h; exact h.elim
    | succ n ih =>
      intro t h m l hm hl
      obtain ⟨k, v, ks⟩ := t
      obtain ⟨h0, h1, h2⟩ := h.at
      have hp := tsz_pos (.mk k v ks)
      rw [valN_eq (by omega), valN_eq (by omega)]
      by_cases e1 : k = 1
      · rw [if_pos e1, if_pos e1]
      rw [if_neg e1, if_neg e1]
      by_cases e3 : k = 3
      · rw [if_pos e3, if_pos e3]
        obtain ⟨q1, q2⟩ := h1 e3
        have := tsz_lt (k := k) (v := v) q1
        rw [ih _ q2 (m - 1) (l - 1) (by omega) (by omega)]
      rw [if_neg e3, if_neg e3]
      by_cases e4 : k = 4
      · rw [if_pos e4, if_pos e4]
        obtain ⟨q1, q2, q3⟩ := h2 (.inl e4)
        have := tsz_lt (k := k) (v := v) (show 0 < ks.length by omega)
        have := tsz_lt (k := k) (v := v) q1
        rw [ih _ q2 (m - 1) (l - 1) (by omega) (by omega), ih _ q3 (m - 1) (l - 1) (by omega) (by omega)]
      rw [if_neg e4, if_neg e4]
      by_cases e5 : k = 5
      · rw [if_pos e5, if_pos e5]
        obtain ⟨q1, q2, q3⟩ := h2 (.inr e5)
        have := tsz_lt (k := k) (v := v) (show 0 < ks.length by omega)
        have := tsz_lt (k := k) (v := v) q1
        rw [ih _ q2 (m - 1) (l - 1) (by omega) (by omega), ih _ q3 (m - 1) (l - 1) (by omega) (by omega)]
      rw [if_neg e5, if_neg e5]
  intro n t h m hm
  exact key n t h m (tsz t) hm (Nat.le_refl _)
theorem valF_not {bs : List Tree} {s v : Int} {ks : List Tree} (h : Valu (.mk 3 v ks)) : valF bs s (.mk 3 v ks) = !valF bs s (nth ks 0) := by
  obtain ⟨q1, n, q2⟩ := h.at.1 rfl
  have := tsz_lt (k := 3) (v := v) q1
  show valN bs s (tsz (.mk 3 v ks)) (.mk 3 v ks) = _
  rw [valN_eq (tsz_pos _), if_neg (by omega), if_pos rfl, valN_more bs s n _ q2 _ (by omega)]
theorem valF_and {bs : List Tree} {s v : Int} {ks : List Tree} (h : Valu (.mk 4 v ks)) : valF bs s (.mk 4 v ks) = (valF bs s (nth ks 0) && valF bs s (nth ks 1)) := by
  obtain ⟨q1, ⟨n, q2⟩, m, q3⟩ := h.at.2 (.inl rfl)
  have := tsz_lt (k := 4) (v := v) (show 0 < ks.length by omega)
  have := tsz_lt (k := 4) (v := v) q1
  show valN bs s (tsz (.mk 4 v ks)) (.mk 4 v ks) = _
  rw [valN_eq (tsz_pos _), if_neg (by omega), if_neg (by omega), if_pos rfl, valN_more bs s n _ q2 _ (by omega), valN_more bs s m _ q3 _ (by omega)]
theorem valF_or {bs : List Tree} {s v : Int} {ks : List Tree} (h : Valu (.mk 5 v ks)) : valF bs s (.mk 5 v ks) = (valF bs s (nth ks 0) || valF bs s (nth ks 1)) := by
  obtain ⟨q1, ⟨n, q2⟩, m, q3⟩ := h.at.2 (.inr rfl)
  have := tsz_lt (k := 5) (v := v) (show 0 < ks.length by omega)
  have := tsz_lt (k := 5) (v := v) q1
  show valN bs s (tsz (.mk 5 v ks)) (.mk 5 v ks) = _
  rw [valN_eq (tsz_pos _), if_neg (by omega), if_neg (by omega), if_neg (by omega), if_pos rfl, valN_more bs s n _ q2 _ (by omega), valN_more bs s m _ q3 _ (by omega)]
theorem valF_true {bs : List Tree} {s v : Int} {ks : List Tree} : valF bs s (.mk 1 v ks) = true := by
  show valN bs s (tsz (.mk 1 v ks)) (.mk 1 v ks) = _
  rw [valN_eq (tsz_pos _), if_pos rfl]
theorem valF_has {bs : List Tree} {s k v : Int} {ks : List Tree} (h1 : ¬ k = 1) (h3 : ¬ k = 3) (h4 : ¬ k = 4) (h5 : ¬ k = 5) : valF bs s (.mk k v ks) = hasF s (findI (fun z => B (TEq z (.mk k v ks))) bs) := by
  show valN bs s (tsz (.mk k v ks)) (.mk k v ks) = _
  rw [valN_eq (tsz_pos _), if_neg h1, if_neg h3, if_neg h4, if_neg h5]

noncomputable def l7Value_pureCn (n_ : Nat) : Con := .pure fun
  | [.list n_bs c_bs, .int .i64 s, .st [.int .i64 k, .int .i64 v, .list n_ks c_ks]] => ((Is cX n_bs c_bs) ∧ (Is cX n_ks c_ks) ∧ (Valu (.mk k v (de cX c_ks))) ∧ (tsz (.mk k v (de cX c_ks)) < n_), .bool (valF (de cX c_bs) s (.mk k v (de cX c_ks))))
  | _ => (False, .any)
attribute [go_sem] l7Value_pureCn
theorem l7Value_pureCn_ok {n_ : Nat} (ih : ∀ (bs : List Tree) (s : Int) (k : Int) (v : Int) (ks : List Tree) (hv : Valu (.mk k v ks)) (hm_ : tsz (.mk k v ks) < n_), Pure Try.prog 216 [li cX bs, .int .i64 s, .st [.int .i64 k, .int .i64 v, li cX ks]] (.bool (valF bs s (.mk k v ks)))) : ConOk Try.prog 216 (l7Value_pureCn n_) := by
  refine ⟨zaal Try.func216 (by decide) rfl, fun args h => ?_⟩
  revert h
  dsimp only
  split
  · intro h
    obtain ⟨⟨bs, rfl, rfl⟩, ⟨ks, rfl, rfl⟩, hv, hm_⟩ := h
    try simp only [de_cat] at *
    exact ⟨ih bs _ _ _ ks hv hm_, by simp [go_sem]⟩
  · intro h
    exact h.elim
set_option maxHeartbeats 8000000 in
theorem l7Value_pure_rec : ∀ (n_ : Nat), ∀ (bs : List Tree) (s : Int) (k : Int) (v : Int) (ks : List Tree) (hv : Valu (.mk k v ks)) (hm_ : tsz (.mk k v ks) < n_), Pure Try.prog 216 [li cX bs, .int .i64 s, .st [.int .i64 k, .int .i64 v, li cX ks]] (.bool (valF bs s (.mk k v ks))) := by
  intro n_
  induction n_ with
  | zero => intros; omega
  | succ n_ ih =>
  intro bs s k v ks hv hm_
  have Γr_ok := ext_ok Γy16_ok (l7Value_pureCn_ok ih)
  refine Pure.of_walk Try.func216 rfl (by simp [Try.f216]) (by simp [-List.drop_one, go_sem]) fun B hK => ?_
  obtain ⟨v1, v2⟩ := hv.at
  all_goals (repeat' (first
    | refine AW_seq ?_
    | refine zaac (id := 0) Γr_ok [] (by kernel_rfl) ?_; simp  [-List.getD_eq_getElem?_getD, -List.drop_one, ↓zaab, ↓zaaa, go_sem]; try (refine AW_data hK 5 ?_; simp [go_sem])
    | refine zaac (id := 1) Γr_ok [] (by kernel_rfl) ?_; simp  [-List.getD_eq_getElem?_getD, -List.drop_one, ↓zaab, ↓zaaa, go_sem]
    | refine zaac (id := 2) Γr_ok [] (by kernel_rfl) ?_; simp  [-List.getD_eq_getElem?_getD, -List.drop_one, ↓zaab, ↓zaaa, go_sem]
    | refine zaac (id := 3) Γr_ok [] (by kernel_rfl) ?_; simp  [-List.getD_eq_getElem?_getD, -List.drop_one, ↓zaab, ↓zaaa, go_sem]
    | refine zaac (id := 4) Γr_ok [] (by kernel_rfl) ?_; simp  [-List.getD_eq_getElem?_getD, -List.drop_one, ↓zaab, ↓zaaa, go_sem]
    | ((obtain ⟨qk, qw⟩ := v1 (by omega)); (have qt := tsz_lt (k := k) (v := v) qk)); refine zaac (id := 5) Γr_ok [] (by kernel_rfl) ?_; simp  [-List.getD_eq_getElem?_getD, -List.drop_one, ↓zaab, ↓zaaa, go_sem, qk, zaas qk, Nat.sub_pos_of_lt qk, cat_take0 (f := cX) qk, (show 3 ≤ ks.length * 3 by omega), (show tsz (nth ks 0) < n_ by omega), Tree.eta, qw]
    | refine zaac (id := 6) Γr_ok [] (by kernel_rfl) ?_; simp  [-List.getD_eq_getElem?_getD, -List.drop_one, ↓zaab, ↓zaaa, go_sem]
    | ((obtain ⟨qj, qw, qx⟩ := v2 (by omega)); (have qk : 0 < ks.length := (by omega)); (have qt := tsz_lt (k := k) (v := v) qk); (have qu := tsz_lt (k := k) (v := v) qj)); refine zaac (id := 7) Γr_ok [30] (by kernel_rfl) ?_; simp  [-List.getD_eq_getElem?_getD, -List.drop_one, ↓zaab, ↓zaaa, go_sem, qk, zaas qk, Nat.sub_pos_of_lt qk, qj, cat_take0 (f := cX) qk, (show 3 ≤ ks.length * 3 by omega), (show (cat cX ks).drop 3 = cat cX (ks.drop 1) from cat_drop (f := cX) (sz := 3) ks 1), (show 3 ≤ ks.length * 3 - 3 by omega), (show 3 ≤ (ks.length - 1) * 3 by omega), (show (1 : Int) < (ks.length : Int) by omega), Nat.sub_pos_of_lt qj, (show tsz (nth ks 0) < n_ by omega), (show tsz (nth ks 1) < n_ by omega), Tree.eta, qw, qx]; try (refine ⟨fun s7a => ?_, fun s7a => ?_⟩ <;> (try simp [B_iff, B_not] at s7a) <;> try (refine ⟨fun s7b => ?_, fun s7b => ?_⟩ <;> (try simp [B_iff, B_not] at s7b)))
    | refine zaac (id := 8) Γr_ok [] (by kernel_rfl) ?_; simp  [-List.getD_eq_getElem?_getD, -List.drop_one, ↓zaab, ↓zaaa, go_sem]
    | ((obtain ⟨qj, qw, qx⟩ := v2 (by omega)); (have qk : 0 < ks.length := (by omega)); (have qt := tsz_lt (k := k) (v := v) qk); (have qu := tsz_lt (k := k) (v := v) qj)); refine zaac (id := 9) Γr_ok [48] (by kernel_rfl) ?_; simp  [-List.getD_eq_getElem?_getD, -List.drop_one, ↓zaab, ↓zaaa, go_sem, qk, zaas qk, Nat.sub_pos_of_lt qk, qj, cat_take0 (f := cX) qk, (show 3 ≤ ks.length * 3 by omega), (show (cat cX ks).drop 3 = cat cX (ks.drop 1) from cat_drop (f := cX) (sz := 3) ks 1), (show 3 ≤ ks.length * 3 - 3 by omega), (show 3 ≤ (ks.length - 1) * 3 by omega), (show (1 : Int) < (ks.length : Int) by omega), Nat.sub_pos_of_lt qj, (show tsz (nth ks 0) < n_ by omega), (show tsz (nth ks 1) < n_ by omega), Tree.eta, qw, qx]; try (refine ⟨fun s9a => ?_, fun s9a => ?_⟩ <;> (try simp [B_iff, B_not] at s9a) <;> try (refine ⟨fun s9b => ?_, fun s9b => ?_⟩ <;> (try simp [B_iff, B_not] at s9b)))
    | refine zaac (id := 10) Γr_ok [] (by kernel_rfl) ?_; simp  [-List.getD_eq_getElem?_getD, -List.drop_one, ↓zaab, ↓zaaa, go_sem, Tree.eta]
    | refine zaaf (c := .tmp 9) ?_; simp [-List.getD_eq_getElem?_getD, -List.drop_one, ↓zaab, ↓zaaa, go_sem]; try first | (refine ⟨?_, ?_⟩ <;> change AW _ _ _ _ _ _) | (refine ⟨fun c9 => ?_, fun c9 => ?_⟩ <;> (try simp [B_iff, B_not] at c9))
    | refine zaaf (c := .tmp 11) ?_; simp [-List.getD_eq_getElem?_getD, -List.drop_one, ↓zaab, ↓zaaa, go_sem]; try first | (refine ⟨?_, ?_⟩ <;> change AW _ _ _ _ _ _) | (refine ⟨fun c11 => ?_, fun c11 => ?_⟩ <;> (try simp [B_iff, B_not] at c11))
    | refine zaaf (c := .tmp 21) ?_; simp [-List.getD_eq_getElem?_getD, -List.drop_one, ↓zaab, ↓zaaa, go_sem]; try first | (refine ⟨?_, ?_⟩ <;> change AW _ _ _ _ _ _) | (refine ⟨fun c21 => ?_, fun c21 => ?_⟩ <;> (try simp [B_iff, B_not] at c21))
    | refine zaaf (c := .tmp 39) ?_; simp [-List.getD_eq_getElem?_getD, -List.drop_one, ↓zaab, ↓zaaa, go_sem]; try first | (refine ⟨?_, ?_⟩ <;> change AW _ _ _ _ _ _) | (refine ⟨fun c39 => ?_, fun c39 => ?_⟩ <;> (try simp [B_iff, B_not] at c39))
    | (refine zaag ?_)
    | (refine zaap ?_; simp [-List.getD_eq_getElem?_getD, -List.drop_one, ↓zaab, ↓zaaa, go_sem])
    | (refine zaan ?_; simp [-List.getD_eq_getElem?_getD, -List.drop_one, ↓zaab, ↓zaaa, go_sem])
    | (refine AW_ret ?_; simp [-List.getD_eq_getElem?_getD, -List.drop_one, ↓zaab, ↓zaaa, go_sem, Try.results216])
    | (intro hx; change AW _ _ _ _ _ _)
    | (refine ⟨?_, ?_⟩ <;> change AW _ _ _ _ _ _)
    | (intro hx; refine ⟨fun hs => ?_, fun hs => ?_⟩)
    | (refine ⟨fun hs => ?_, fun hs => ?_⟩)
    | (refine ⟨?_, fun hs => ?_⟩; change AW _ _ _ _ _ _)
    | (refine ⟨fun hs => ?_, ?_⟩; rotate_left; change AW _ _ _ _ _ _; rotate_left)))
  all_goals (first
    | (have e : k = 1 := (by omega); subst e; rw [valF_true]; done)
    | (have e : k = 3 := (by omega); subst e; rw [valF_not hv]; (first | done | (simp_all; done)))
    | (have e : k = 4 := (by omega); subst e; rw [valF_and hv]; (first | done | (simp_all; done)))
    | (have e : k = 5 := (by omega); subst e; rw [valF_or hv]; (first | done | (simp_all; done)))
    | (rw [valF_has (by omega) (by omega) (by omega) (by omega)])
    | skip)
  all_goals trace_state
theorem l7Value_pure (bs : List Tree) (s : Int) (k : Int) (v : Int) (ks : List Tree) (hv : Valu (.mk k v ks)) : Pure Try.prog 216 [li cX bs, .int .i64 s, .st [.int .i64 k, .int .i64 v, li cX ks]] (.bool (valF bs s (.mk k v ks))) := l7Value_pure_rec (tsz (.mk k v ks) + 1) bs s k v ks hv (by omega)
noncomputable def l7Value_pureC : Con := .pure fun
  | [.list n_bs c_bs, .int .i64 s, .st [.int .i64 k, .int .i64 v, .list n_ks c_ks]] => ((Is cX n_bs c_bs) ∧ (Is cX n_ks c_ks) ∧ (Valu (.mk k v (de cX c_ks))), .bool (valF (de cX c_bs) s (.mk k v (de cX c_ks))))
  | _ => (False, .any)
attribute [go_sem] l7Value_pureC
theorem l7Value_pureC_ok : ConOk Try.prog 216 l7Value_pureC := by
  refine ⟨zaal Try.func216 (by decide) rfl, fun args h => ?_⟩
  revert h
  dsimp only
  split
  · intro h
    obtain ⟨⟨bs, rfl, rfl⟩, ⟨ks, rfl, rfl⟩, hv⟩ := h
    try simp only [de_cat] at *
    exact ⟨l7Value_pure bs _ _ _ ks hv, by simp [go_sem]⟩
  · intro h
    exact h.elim
noncomputable def Γy17 : FuncId → Con := ext Γy16 216 l7Value_pureC
attribute [go_sem] Γy17
theorem Γy17_ok : ∀ g, ConOk Try.prog g (Γy17 g) := ext_ok Γy16_ok l7Value_pureC_ok

end Go.Proofs.Ytkjimmkemnmajaa.Vm

