/-
  ParseLasso, both ways. No conditions.
-/
import Derived.Test.YtlbbhkpjjciaiaaDigW
import Derived.Test.YtlbbhkpjjciaiaaD5
namespace Go.Proofs.Ytlbbhkpjjciaiaa.Vm
open Go
set_option linter.unusedVariables false
set_option linter.unusedSimpArgs false
set_option maxRecDepth 200000

noncomputable def digitsC : Con := .pure fun
  | [.list n c] => (Is cI n c ∧ (de cI c).length ≤ 1048576, .tup [.str (digsT (de cI c)), .bool (digsOk (de cI c))])
  | _ => (False, .any)
attribute [go_sem] digitsC
theorem digitsC_ok : ConOk Try.prog 50 digitsC := by
  refine ⟨callable Try.func50 (by decide) rfl, fun args h => ?_⟩
  revert h
  dsimp only
  split
  · rintro ⟨⟨xs, rfl, rfl⟩, h0⟩
    rw [de_cat] at h0 ⊢
    exact ⟨digits_pure xs h0, by simp [go_sem]⟩
  · intro h
    exact h.elim
noncomputable def Γp13 : FuncId → Con := ext Γp12 50 digitsC
attribute [go_sem] Γp13
theorem Γp13_ok : ∀ g, ConOk Try.prog g (Γp13 g) := ext_ok Γp12_ok digitsC_ok

theorem digsT_len (xs : List Int) : (digsT xs).length ≤ xs.length := by unfold digsT digs; split <;> simp
/-- The text of a lasso. -/
noncomputable def fmtL (a b : List Int) : List UInt8 := if B (LasOk a b) = true then digsT a ++ [40] ++ digsT b ++ [41] else []
theorem implFmt_pure (a : List Int) (b : List Int)  : Pure Try.prog 28 [.st [li cI a, li cI b]] (.str (fmtL a b)) := by
  refine Pure.of_walk Try.func28 rfl (by simp [Try.f28]) (by simp [-List.drop_one, go_sem]) fun B hK => ?_
  cases hv : Vm.B (LasOk a b)
  all_goals (repeat' (first
    | refine AW_seq ?_
    | refine AW_region (id := 0) Γp13_ok [] (by kernel_rfl) ?_; simp  [-List.getD_eq_getElem?_getD, -List.drop_one, ↓splitB_true, ↓splitB_false, go_sem]; try (refine AW_data hK 1 ?_; simp [go_sem])
    | refine AW_region (id := 1) Γp13_ok [] (by kernel_rfl) ?_; simp  [-List.getD_eq_getElem?_getD, -List.drop_one, ↓splitB_true, ↓splitB_false, go_sem, hv]
    | refine AW_region (id := 2) Γp13_ok [] (by kernel_rfl) ?_; simp  [-List.getD_eq_getElem?_getD, -List.drop_one, ↓splitB_true, ↓splitB_false, go_sem]
    | (have hL : LasOk a b := (by rw [B_iff] at hv; exact hv); obtain ⟨_, _, g3, g4, g5⟩ := hL; have l1 := digsT_len a; have l2 := digsT_len b); refine AW_region (id := 3) Γp13_ok [] (by kernel_rfl) ?_; simp  [-List.getD_eq_getElem?_getD, -List.drop_one, ↓splitB_true, ↓splitB_false, go_sem, (show a.length ≤ 1048576 by omega)]
    | refine AW_region (id := 4) Γp13_ok [] (by kernel_rfl) ?_; simp  [-List.getD_eq_getElem?_getD, -List.drop_one, ↓splitB_true, ↓splitB_false, go_sem, (show b.length ≤ 1048576 by omega)]
    | refine AW_region (id := 5) Γp13_ok [] (by kernel_rfl) ?_; simp  [-List.getD_eq_getElem?_getD, -List.drop_one, ↓splitB_true, ↓splitB_false, go_sem, (show (digsT a).length + 1 ≤ 9223372036854775807 by omega), (show (digsT a).length + 1 + (digsT b).length ≤ 9223372036854775807 by omega), (show (digsT a).length + 1 + (digsT b).length + 1 ≤ 9223372036854775807 by omega), (show (digsT a).length + ((digsT b).length + 1) ≤ 9223372036854775806 by omega)]
    | refine AW_condA (c := .tmp 9) ?_; simp [-List.getD_eq_getElem?_getD, -List.drop_one, ↓splitB_true, ↓splitB_false, go_sem]; try first | (refine ⟨?_, ?_⟩ <;> change AW _ _ _ _ _ _) | (refine ⟨fun c9 => ?_, fun c9 => ?_⟩ <;> (try simp [B_iff, B_not] at c9))
    | (refine AW_block ?_)
    | (refine AW_exit ?_; simp [-List.getD_eq_getElem?_getD, -List.drop_one, ↓splitB_true, ↓splitB_false, go_sem])
    | (refine AW_skip ?_; simp [-List.getD_eq_getElem?_getD, -List.drop_one, ↓splitB_true, ↓splitB_false, go_sem])
    | (refine AW_ret ?_; simp [-List.getD_eq_getElem?_getD, -List.drop_one, ↓splitB_true, ↓splitB_false, go_sem, Try.results28])
    | (intro hx; change AW _ _ _ _ _ _)
    | (refine ⟨?_, ?_⟩ <;> change AW _ _ _ _ _ _)
    | (intro hx; refine ⟨fun hs => ?_, fun hs => ?_⟩)
    | (refine ⟨fun hs => ?_, fun hs => ?_⟩)
    | (refine ⟨?_, fun hs => ?_⟩; change AW _ _ _ _ _ _)
    | (refine ⟨fun hs => ?_, ?_⟩; rotate_left; change AW _ _ _ _ _ _; rotate_left)))
  all_goals (first
    | (simp [fmtL, hv]; done)
    | skip)
noncomputable def implFmt_pureC : Con := .pure fun
  | [.st [.list n_a c_a, .list n_b c_b]] => ((Is cI n_a c_a) ∧ (Is cI n_b c_b), .str (fmtL (de cI c_a) (de cI c_b)))
  | _ => (False, .any)
attribute [go_sem] implFmt_pureC
theorem implFmt_pureC_ok : ConOk Try.prog 28 implFmt_pureC := by
  refine ⟨callable Try.func28 (by decide) rfl, fun args h => ?_⟩
  revert h
  dsimp only
  split
  · intro h
    obtain ⟨⟨a, rfl, rfl⟩, ⟨b, rfl, rfl⟩⟩ := h
    try simp only [de_cat] at *
    exact ⟨implFmt_pure a b, by simp [go_sem]⟩
  · intro h
    exact h.elim
noncomputable def Γp14 : FuncId → Con := ext Γp13 28 implFmt_pureC
attribute [go_sem] Γp14
theorem Γp14_ok : ∀ g, ConOk Try.prog g (Γp14 g) := ext_ok Γp13_ok implFmt_pureC_ok

theorem cut1_len (s : List UInt8) (c : UInt8) : (cut1 s c).length ≤ s.length := by unfold cut1; split <;> simp <;> omega
theorem cut2_len (s : List UInt8) (c : UInt8) : (cut2 s c).length ≤ s.length := by unfold cut2; split <;> simp <;> omega
theorem trimB_len (s : List UInt8) (c : UInt8) : (trimB s c).length ≤ s.length := by unfold trimB; split <;> simp <;> omega
noncomputable def iA (s : List UInt8) : List Int := digN (cut1 s 40)
noncomputable def iC (s : List UInt8) : List Int := digN (trimB (cut2 s 40) 41)
/-- What the program reads. -/
def IpOk (s : List UInt8) : Prop := LasOk (iA s) (iC s) ∧ fmtL (iA s) (iC s) = s

set_option maxHeartbeats 2000000 in
theorem implParse_pure (s : List UInt8) (hl : s.length ≤ 1048576) : Pure Try.prog 44 [.str s] (if B (IpOk s) = true then .tup [.st [fr 1 cI (iA s), fr 1 cI (iC s)], .bool true] else .tup [.st [.nil, .nil], .bool false]) := by
  refine Pure.of_walk Try.func44 rfl (by simp [Try.f44]) (by simp [-List.drop_one, go_sem]) fun B hK => ?_
  have q1 := cut1_len s 40; have q2 := cut2_len s 40; have q3 := trimB_len (cut2 s 40) 41; (have q4 : (iA s).length = (cut1 s 40).length := digN_len _); (have q5 : (iC s).length = (trimB (cut2 s 40) 41).length := digN_len _); cases hv : Vm.B (LasOk (iA s) (iC s)) <;> by_cases hf : fmtL (iA s) (iC s) = s
  all_goals (repeat' (first
    | refine AW_seq ?_
    | refine AW_region (id := 0) Γp14_ok [] (by kernel_rfl) ?_; simp  [-List.getD_eq_getElem?_getD, -List.drop_one, ↓splitB_true, ↓splitB_false, go_sem]
    | refine AW_region (id := 1) Γp14_ok [] (by kernel_rfl) ?_; simp  [-List.getD_eq_getElem?_getD, -List.drop_one, ↓splitB_true, ↓splitB_false, go_sem, hl]
    | refine AW_region (id := 2) Γp14_ok [] (by kernel_rfl) ?_; simp  [-List.getD_eq_getElem?_getD, -List.drop_one, ↓splitB_true, ↓splitB_false, go_sem, (show digN (cut1 s 40) = iA s from rfl), (show digN (trimB (cut2 s 40) 41) = iC s from rfl), (show (cut1 s 40).length ≤ 1048576 by omega), (show (cut2 s 40).length ≤ 1048576 by omega), (show (trimB (cut2 s 40) 41).length ≤ 1048576 by omega)]; try ((refine AW_box2c 7 rfl fun lb x y j1 j2 cp1 cp2 hlb hx hy n1 n2 n3 hc1 hd1 hc2 hd2 => ?_); (clear hlb hx hy))
    | refine AW_region (id := 3) Γp14_ok [23] (by kernel_rfl) ?_; simp  [-List.getD_eq_getElem?_getD, -List.drop_one, ↓splitB_true, ↓splitB_false, go_sem, n1, n2, n3, Ne.symm n1, Ne.symm n2, Ne.symm n3, hv, hf]; try (refine ⟨fun s3a => ?_, fun s3a => ?_⟩ <;> (try simp [B_iff, B_not] at s3a) <;> try (refine ⟨fun s3b => ?_, fun s3b => ?_⟩ <;> (try simp [B_iff, B_not] at s3b)))
    | refine AW_region (id := 4) Γp14_ok [] (by kernel_rfl) ?_; simp  [-List.getD_eq_getElem?_getD, -List.drop_one, ↓splitB_true, ↓splitB_false, go_sem]
    | refine AW_region (id := 5) Γp14_ok [] (by kernel_rfl) ?_; simp  [-List.getD_eq_getElem?_getD, -List.drop_one, ↓splitB_true, ↓splitB_false, go_sem, n1, n2, n3, Ne.symm n1, Ne.symm n2, Ne.symm n3]; try ((refine AW_own2 2 (X := cat cI (iA s) ++ List.replicate j1 D.any) (Y := cat cI (iC s) ++ List.replicate j2 D.any) rfl (by simp [upd, n1, n2, n3, Ne.symm n1, Ne.symm n2, Ne.symm n3]) (by simp [upd, n1, n2, n3, Ne.symm n1, Ne.symm n2, Ne.symm n3]) n3 (by simp [cat_length]) (by simp [cat_length]; omega) (by simp [cat_length]) (by simp [cat_length]; omega) fun r hr => ?_))
    | refine AW_condA (c := .tmp 28) ?_; simp [-List.getD_eq_getElem?_getD, -List.drop_one, ↓splitB_true, ↓splitB_false, go_sem]; try first | (refine ⟨?_, ?_⟩ <;> change AW _ _ _ _ _ _) | (refine ⟨fun c28 => ?_, fun c28 => ?_⟩ <;> (try simp [B_iff, B_not] at c28))
    | (refine AW_block ?_)
    | (refine AW_exit ?_; simp [-List.getD_eq_getElem?_getD, -List.drop_one, ↓splitB_true, ↓splitB_false, go_sem])
    | (refine AW_skip ?_; simp [-List.getD_eq_getElem?_getD, -List.drop_one, ↓splitB_true, ↓splitB_false, go_sem])
    | (refine AW_ret ?_; simp [-List.getD_eq_getElem?_getD, -List.drop_one, ↓splitB_true, ↓splitB_false, go_sem, Try.results44])
    | (intro hx; change AW _ _ _ _ _ _)
    | (refine ⟨?_, ?_⟩ <;> change AW _ _ _ _ _ _)
    | (intro hx; refine ⟨fun hs => ?_, fun hs => ?_⟩)
    | (refine ⟨fun hs => ?_, fun hs => ?_⟩)
    | (refine ⟨?_, fun hs => ?_⟩; change AW _ _ _ _ _ _)
    | (refine ⟨fun hs => ?_, ?_⟩; rotate_left; change AW _ _ _ _ _ _; rotate_left)))
  all_goals (first
    | (have hi : Vm.B (IpOk s) = true := B_yes ⟨by rw [B_iff] at hv; exact hv, hf⟩; simp [hi]; done)
    | (have hi : Vm.B (IpOk s) = false := B_no (fun h => by have := B_yes h.1; rw [hv] at this; cases this); simp [hi]; done)
    | (have hi : Vm.B (IpOk s) = false := B_no (fun h => hf h.2); simp [hi]; done)
    | (intro h; exact absurd h.2 hf)
    | (exact ⟨by rw [B_iff] at hv; exact hv, hf⟩)
    | (intro h; have := B_yes h.1; rw [hv] at this; cases this; done)
    | skip)
noncomputable def implParse_pureC : Con := .pure fun
  | [.str s] => ((s.length ≤ 1048576), if B (IpOk s) = true then .tup [.st [fr 1 cI (iA s), fr 1 cI (iC s)], .bool true] else .tup [.st [.nil, .nil], .bool false])
  | _ => (False, .any)
attribute [go_sem] implParse_pureC
theorem implParse_pureC_ok : ConOk Try.prog 44 implParse_pureC := by
  refine ⟨callable Try.func44 (by decide) rfl, fun args h => ?_⟩
  revert h
  dsimp only
  split
  · intro h
    have hl := h
    skip
    exact ⟨implParse_pure _ hl, by simp [go_sem]⟩
  · intro h
    exact h.elim
noncomputable def Γp15 : FuncId → Con := ext Γp14 44 implParse_pureC
attribute [go_sem] Γp15
theorem Γp15_ok : ∀ g, ConOk Try.prog g (Γp15 g) := ext_ok Γp14_ok implParse_pureC_ok

theorem pc_piece (c : UInt8) : ∀ (l acc : List UInt8) (p : List UInt8), p ∈ pc c l acc → p.length ≤ l.length + acc.length
  | [], acc, p, h => by simp only [pc, List.mem_singleton] at h; subst h; simp
  | b :: l, acc, p, h => by
    simp only [pc] at h
    split at h
    · rcases List.mem_cons.1 h with h | h
      · subst h; simp only [List.length_cons]; omega
      · have := pc_piece c l [] p h; simp only [List.length_cons, List.length_nil] at this ⊢; omega
    · have := pc_piece c l (acc ++ [b]) p h; simp only [List.length_cons, List.length_append, List.length_nil] at this ⊢; omega
theorem nth_piece (s : List UInt8) (k : Nat) : (nth (pc 40 s []) k).length ≤ s.length := by
  by_cases h : k < (pc 40 s []).length
  · rw [nth_lt h]; have := pc_piece 40 s [] _ (List.getElem_mem h); simpa using this
  · have : nth (pc 40 s []) k = [] := by
      unfold nth; rw [List.getD_eq_getElem?_getD, List.getElem?_eq_none (by omega)]; rfl
    rw [this]; simp
noncomputable def sP (s : List UInt8) : List (List UInt8) := pc 40 s []
noncomputable def sQ (s : List UInt8) : List UInt8 := nth (sP s) 1
noncomputable def sA (s : List UInt8) : List Int := nums (nth (sP s) 0)
noncomputable def sC (s : List UInt8) : List Int := nums ((sQ s).take ((sQ s).length - 1))
/-- What the reference reads. -/
def SpOk (s : List UInt8) : Prop := (sP s).length = 2 ∧ ¬ sQ s = [] ∧ (sQ s).getD ((sQ s).length - 1) 0 = 41 ∧ LasOk (sA s) (sC s)

end Go.Proofs.Ytlbbhkpjjciaiaa.Vm

