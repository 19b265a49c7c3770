/-
  spec.FormatLasso; a text bent; what ParseLasso is asked of. No conditions.
-/
import Derived.Test.YtlbbhkpjjciaiaaP6
namespace Go.Proofs.Ytlbbhkpjjciaiaa.Vm
open Go
set_option linter.unusedVariables false
set_option linter.unusedSimpArgs false
set_option maxRecDepth 200000

noncomputable def l3DigC : Con := .pure fun
  | [.list n c] => (Is cI n c ∧ (de cI c).length ≤ 1048576, .tup [.str (digsT (de cI c)), .bool (digsOk (de cI c))])
  | _ => (False, .any)
attribute [go_sem] l3DigC
theorem l3DigC_ok : ConOk Try.prog 48 l3DigC := by
  refine ⟨callable Try.func48 (by decide) rfl, fun args h => ?_⟩
  revert h
  dsimp only
  split
  · rintro ⟨⟨xs, rfl, rfl⟩, h0⟩
    rw [de_cat] at h0 ⊢
    exact ⟨l3Digits_pure xs h0, by simp [go_sem]⟩
  · intro h
    exact h.elim
noncomputable def Γp17 : FuncId → Con := ext Γp16 48 l3DigC
attribute [go_sem] Γp17
theorem Γp17_ok : ∀ g, ConOk Try.prog g (Γp17 g) := ext_ok Γp16_ok l3DigC_ok

theorem specFmt_pure (a : List Int) (b : List Int)  : Pure Try.prog 26 [.st [li cI a, li cI b]] (.str (fmtL a b)) := by
  refine Pure.of_walk Try.func26 rfl (by simp [Try.f26]) (by simp [-List.drop_one, go_sem]) fun B hK => ?_
  cases hv : Vm.B (LasOk a b)
  all_goals (repeat' (first
    | refine AW_seq ?_
    | refine AW_region (id := 0) Γp17_ok [] (by kernel_rfl) ?_; simp  [-List.getD_eq_getElem?_getD, -List.drop_one, ↓splitB_true, ↓splitB_false, go_sem]; try (refine AW_data hK 1 ?_; simp [go_sem])
    | refine AW_region (id := 1) Γp17_ok [] (by kernel_rfl) ?_; simp  [-List.getD_eq_getElem?_getD, -List.drop_one, ↓splitB_true, ↓splitB_false, go_sem, hv]
    | refine AW_region (id := 2) Γp17_ok [] (by kernel_rfl) ?_; simp  [-List.getD_eq_getElem?_getD, -List.drop_one, ↓splitB_true, ↓splitB_false, go_sem]
    | (have hL : LasOk a b := (by rw [B_iff] at hv; exact hv); obtain ⟨_, _, g3, g4, g5⟩ := hL; have l1 := digsT_len a; have l2 := digsT_len b); refine AW_region (id := 3) Γp17_ok [] (by kernel_rfl) ?_; simp  [-List.getD_eq_getElem?_getD, -List.drop_one, ↓splitB_true, ↓splitB_false, go_sem, (show a.length ≤ 1048576 by omega)]
    | refine AW_region (id := 4) Γp17_ok [] (by kernel_rfl) ?_; simp  [-List.getD_eq_getElem?_getD, -List.drop_one, ↓splitB_true, ↓splitB_false, go_sem, (show b.length ≤ 1048576 by omega)]
    | refine AW_region (id := 5) Γp17_ok [] (by kernel_rfl) ?_; simp  [-List.getD_eq_getElem?_getD, -List.drop_one, ↓splitB_true, ↓splitB_false, go_sem, (show (digsT a).length + 1 ≤ 9223372036854775807 by omega), (show (digsT a).length + 1 + (digsT b).length ≤ 9223372036854775807 by omega), (show (digsT a).length + 1 + (digsT b).length + 1 ≤ 9223372036854775807 by omega), (show (digsT a).length + ((digsT b).length + 1) ≤ 9223372036854775806 by omega)]
    | refine AW_condA (c := .tmp 9) ?_; simp [-List.getD_eq_getElem?_getD, -List.drop_one, ↓splitB_true, ↓splitB_false, go_sem]; try first | (refine ⟨?_, ?_⟩ <;> change AW _ _ _ _ _ _) | (refine ⟨fun c9 => ?_, fun c9 => ?_⟩ <;> (try simp [B_iff, B_not] at c9))
    | (refine AW_block ?_)
    | (refine AW_exit ?_; simp [-List.getD_eq_getElem?_getD, -List.drop_one, ↓splitB_true, ↓splitB_false, go_sem])
    | (refine AW_skip ?_; simp [-List.getD_eq_getElem?_getD, -List.drop_one, ↓splitB_true, ↓splitB_false, go_sem])
    | (refine AW_ret ?_; simp [-List.getD_eq_getElem?_getD, -List.drop_one, ↓splitB_true, ↓splitB_false, go_sem, Try.results26])
    | (intro hx; change AW _ _ _ _ _ _)
    | (refine ⟨?_, ?_⟩ <;> change AW _ _ _ _ _ _)
    | (intro hx; refine ⟨fun hs => ?_, fun hs => ?_⟩)
    | (refine ⟨fun hs => ?_, fun hs => ?_⟩)
    | (refine ⟨?_, fun hs => ?_⟩; change AW _ _ _ _ _ _)
    | (refine ⟨fun hs => ?_, ?_⟩; rotate_left; change AW _ _ _ _ _ _; rotate_left)))
  all_goals (first
    | (simp [fmtL, hv]; done)
    | skip)
noncomputable def specFmt_pureC : Con := .pure fun
  | [.st [.list n_a c_a, .list n_b c_b]] => ((Is cI n_a c_a) ∧ (Is cI n_b c_b), .str (fmtL (de cI c_a) (de cI c_b)))
  | _ => (False, .any)
attribute [go_sem] specFmt_pureC
theorem specFmt_pureC_ok : ConOk Try.prog 26 specFmt_pureC := by
  refine ⟨callable Try.func26 (by decide) rfl, fun args h => ?_⟩
  revert h
  dsimp only
  split
  · intro h
    obtain ⟨⟨a, rfl, rfl⟩, ⟨b, rfl, rfl⟩⟩ := h
    try simp only [de_cat] at *
    exact ⟨specFmt_pure a b, by simp [go_sem]⟩
  · intro h
    exact h.elim
noncomputable def Γp18 : FuncId → Con := ext Γp17 26 specFmt_pureC
attribute [go_sem] Γp18
theorem Γp18_ok : ∀ g, ConOk Try.prog g (Γp18 g) := ext_ok Γp17_ok specFmt_pureC_ok

/-- A text, sometimes bent. -/
noncomputable def bendT (ys : List UInt8) (p : Int) (s : List UInt8) (gs : List (List UInt8)) : List UInt8 :=
  if s.length = 0 then s else if pkI ys p 2 = 0 then s else s.take (pkI ys (p + 1) s.length).toNat ++ ofT ys (p + 1 + 1) gs ++ s.drop (pkI ys (p + 1) s.length + pkI ys (p + 1 + 1 + 1) 2).toNat
noncomputable def bendP (ys : List UInt8) (p : Int) (s : List UInt8) : Int :=
  if s.length = 0 then p else if pkI ys p 2 = 0 then p + 1 else p + 1 + 1 + 1 + 1
theorem ofT_le (ys : List UInt8) {p : Int} (hp : p ≤ 1000000) {gs : List (List UInt8)} (hg : 1 ≤ gs.length) (h : ∀ t ∈ gs, t.length ≤ 10) : (ofT ys p gs).length ≤ 10 := by
  obtain ⟨k1, k2⟩ := pkI_range ys hp (n := (gs.length : Int)) (by omega)
  have k3 : (pkI ys p gs.length).toNat < gs.length := by omega
  unfold ofT
  rw [nth_lt k3]
  exact h _ (List.getElem_mem k3)

set_option maxHeartbeats 1000000 in
theorem bend_spec (ys : List UInt8) (p : Int) (s : List UInt8) (gs : List (List UInt8)) (b : Nat) (H : Hp) (hH : H b = some [li cY ys, .int .i64 p]) (h0 : 0 ≤ p) (hp : p ≤ 800000) (hl : ys.length ≤ 2000) (hs : s.length ≤ 1000000) (hg : 1 ≤ gs.length) (hg2 : gs.length ≤ 1000) (hg3 : ∀ t ∈ gs, t.length ≤ 10) :
    Spec Try.prog 77 [.ptr b 0, .str s, fr 1 cStr gs] H (.str (bendT ys p s gs)) (upd H b (some [li cY ys, .int .i64 (bendP ys p s)])) := by
  refine Spec.of_walk Try.func77 rfl (by simp [Try.f77]) fun B => ?_
  have u := ofT_le ys (p := p + 1 + 1) (by omega) hg hg3
  by_cases h1 : s.length = 0 <;> by_cases h2 : pkI ys p 2 = 0
  all_goals (repeat' (first
    | refine AW_seq ?_
    | refine AW_region (id := 0) Γp18_ok [] (by kernel_rfl) ?_; simp  [-List.getD_eq_getElem?_getD, -List.drop_one, ↓splitB_true, ↓splitB_false, go_sem]
    | refine AW_region (id := 1) Γp18_ok [11] (by kernel_rfl) ?_; simp  [-List.getD_eq_getElem?_getD, -List.drop_one, ↓splitB_true, ↓splitB_false, go_sem, hH, h0, hl, h1, h2, (show p ≤ 1000000 by omega)]; try (refine ⟨fun s1a => ?_, fun s1a => ?_⟩ <;> (try simp [B_iff, B_not] at s1a) <;> try (refine ⟨fun s1b => ?_, fun s1b => ?_⟩ <;> (try simp [B_iff, B_not] at s1b)))
    | refine AW_region (id := 2) Γp18_ok [] (by kernel_rfl) ?_; simp  [-List.getD_eq_getElem?_getD, -List.drop_one, ↓splitB_true, ↓splitB_false, go_sem]
    | (obtain ⟨k1, k2⟩ := pkI_range ys (p := p + 1) (by omega) (n := (s.length : Int)) (by omega); obtain ⟨k3, k4⟩ := pkI_range ys (p := p + 1 + 1 + 1) (by omega) (n := 2) (by omega)); refine AW_region (id := 3) Γp18_ok [] (by kernel_rfl) ?_; simp  [-List.getD_eq_getElem?_getD, -List.drop_one, ↓splitB_true, ↓splitB_false, go_sem, hH, hl, (show 0 ≤ p + 1 by omega), (show p + 1 ≤ 1000000 by omega), (show (s.length : Int) ≤ 1000000 by omega), (show s.length ≤ 1000000 by omega)]
    | refine AW_region_draw (id := 4) Γp18_ok mixed [] [1, 7, 0] (by kernel_rfl) (by kernel_rfl) (by simp [-List.getD_eq_getElem?_getD, -List.drop_one, ↓splitB_true, ↓splitB_false, go_sem, hl, hg, hg3, (show gs.length ≤ 1000000 by omega), (show 0 ≤ p + 1 + 1 by omega), (show p + 1 + 1 ≤ 1000000 by omega), (show 0 ≤ p + 1 + 1 + 1 by omega), (show p + 1 + 1 + 1 ≤ 1000000 by omega), k1, (show pkI ys (p + 1) s.length ≤ s.length by omega), wrap_in (x := pkI ys (p + 1) s.length + pkI ys (p + 1 + 1 + 1) 2) (by omega) (by omega), (show 0 ≤ pkI ys (p + 1) s.length + pkI ys (p + 1 + 1 + 1) 2 by omega), (show pkI ys (p + 1) s.length + pkI ys (p + 1 + 1 + 1) 2 ≤ s.length by omega), (show (pkI ys (p + 1) s.length).toNat + (ofT ys (p + 1 + 1) gs).length ≤ 9223372036854775807 by omega), (show (pkI ys (p + 1) s.length).toNat + (ofT ys (p + 1 + 1) gs).length + min (↑s.length - (pkI ys (p + 1) s.length + pkI ys (p + 1 + 1 + 1) 2)).toNat (s.length - (pkI ys (p + 1) s.length + pkI ys (p + 1 + 1 + 1) 2).toNat) ≤ 9223372036854775807 by omega)]) ?_; simp  [-List.getD_eq_getElem?_getD, -List.drop_one, ↓splitB_true, ↓splitB_false, go_sem, hl, hg, hg3, (show gs.length ≤ 1000000 by omega), (show 0 ≤ p + 1 + 1 by omega), (show p + 1 + 1 ≤ 1000000 by omega), (show 0 ≤ p + 1 + 1 + 1 by omega), (show p + 1 + 1 + 1 ≤ 1000000 by omega), k1, (show pkI ys (p + 1) s.length ≤ s.length by omega), wrap_in (x := pkI ys (p + 1) s.length + pkI ys (p + 1 + 1 + 1) 2) (by omega) (by omega), (show 0 ≤ pkI ys (p + 1) s.length + pkI ys (p + 1 + 1 + 1) 2 by omega), (show pkI ys (p + 1) s.length + pkI ys (p + 1 + 1 + 1) 2 ≤ s.length by omega), (show (pkI ys (p + 1) s.length).toNat + (ofT ys (p + 1 + 1) gs).length ≤ 9223372036854775807 by omega), (show (pkI ys (p + 1) s.length).toNat + (ofT ys (p + 1 + 1) gs).length + min (↑s.length - (pkI ys (p + 1) s.length + pkI ys (p + 1 + 1 + 1) 2)).toNat (s.length - (pkI ys (p + 1) s.length + pkI ys (p + 1 + 1 + 1) 2).toNat) ≤ 9223372036854775807 by omega)]
    | refine AW_condA (c := .tmp 15) ?_; simp [-List.getD_eq_getElem?_getD, -List.drop_one, ↓splitB_true, ↓splitB_false, go_sem]; try first | (refine ⟨?_, ?_⟩ <;> change AW _ _ _ _ _ _) | (refine ⟨fun c15 => ?_, fun c15 => ?_⟩ <;> (try simp [B_iff, B_not] at c15))
    | (refine AW_block ?_)
    | (refine AW_exit ?_; simp [-List.getD_eq_getElem?_getD, -List.drop_one, ↓splitB_true, ↓splitB_false, go_sem])
    | (refine AW_skip ?_; simp [-List.getD_eq_getElem?_getD, -List.drop_one, ↓splitB_true, ↓splitB_false, go_sem])
    | (refine AW_ret ?_; simp [-List.getD_eq_getElem?_getD, -List.drop_one, ↓splitB_true, ↓splitB_false, go_sem, Try.results77])
    | (intro hx; change AW _ _ _ _ _ _)
    | (refine ⟨?_, ?_⟩ <;> change AW _ _ _ _ _ _)
    | (intro hx; refine ⟨fun hs => ?_, fun hs => ?_⟩)
    | (refine ⟨fun hs => ?_, fun hs => ?_⟩)
    | (refine ⟨?_, fun hs => ?_⟩; change AW _ _ _ _ _ _)
    | (refine ⟨fun hs => ?_, ?_⟩; rotate_left; change AW _ _ _ _ _ _; rotate_left)))
  all_goals (first
    | (have e1 : bendT ys p s gs = s := (by simp [bendT, h1, h2]); have e2 : bendP ys p s = p := (by simp [bendP, h1]); refine ⟨e1.symm, fun z cs h => ?_⟩; rw [e2] at h; by_cases e : z = b <;> simp_all [li]; done)
    | (have e1 : bendT ys p s gs = s := (by simp [bendT, h1, h2]); have e2 : bendP ys p s = p + 1 := (by simp [bendP, h1, h2]); refine ⟨e1.symm, fun z cs h => ?_⟩; rw [e2] at h; by_cases e : z = b <;> simp_all [li]; done)
    | (have e1 : bendT ys p s gs = s.take (pkI ys (p + 1) s.length).toNat ++ ofT ys (p + 1 + 1) gs ++ s.drop (pkI ys (p + 1) s.length + pkI ys (p + 1 + 1 + 1) 2).toNat := (by simp [bendT, h1, h2]); have e2 : bendP ys p s = p + 1 + 1 + 1 + 1 := (by simp [bendP, h1, h2]); have e3 : (s.drop (pkI ys (p + 1) s.length + pkI ys (p + 1 + 1 + 1) 2).toNat).take (↑s.length - (pkI ys (p + 1) s.length + pkI ys (p + 1 + 1 + 1) 2)).toNat = s.drop (pkI ys (p + 1) s.length + pkI ys (p + 1 + 1 + 1) 2).toNat := (by apply List.take_of_length_le; rw [List.length_drop]; omega); refine ⟨(by rw [e1, ← e3]; simp [e3]), fun z cs h => ?_⟩; rw [e2] at h; by_cases e : z = b <;> simp_all [li]; done)
    | skip)
end Go.Proofs.Ytlbbhkpjjciaiaa.Vm

