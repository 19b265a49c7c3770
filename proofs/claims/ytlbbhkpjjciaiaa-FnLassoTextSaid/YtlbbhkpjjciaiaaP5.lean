/-
  spec.ParseLasso. No conditions.
-/
import Derived.Test.YtlbbhkpjjciaiaaP4
namespace Go.Proofs.Ytlbbhkpjjciaiaa.Vm
open Go
set_option linter.unusedVariables false
set_option linter.unusedSimpArgs false
set_option maxRecDepth 200000

set_option maxHeartbeats 800000 in
theorem specParse_pure (s : List UInt8) (hl : s.length ≤ 1048576) : Pure Try.prog 43 [.str s] (if B (SpOk s) = true then .tup [.st [fr 1 cI (sA s), fr 1 cI (sC s)], .bool true] else .tup [.st [.nil, .nil], .bool false]) := by
  refine Pure.of_walk Try.func43 rfl (by simp [Try.f43]) (by simp [-List.drop_one, go_sem]) fun B hK => ?_
  have q0 := nth_piece s 0; have q1 := nth_piece s 1; (have q4 : (sA s).length = (nth (sP s) 0).length := nums_len _); (have q5 : (sC s).length = (sQ s).length - 1 := (by rw [sC, nums_len]; simp)); (rw [show pc 40 s [] = sP s from rfl] at q0 q1); (rw [show nth (sP s) 1 = sQ s from rfl] at q1); (have hne : ((sP s).length : Int) = 2 → ¬ sP s = [] := (fun h e => by rw [e] at h; simp at h)); (have hn1 : ((sP s).length : Int) = 2 → 1 < (sP s).length := (fun h => by omega)); (have hn2 : ((sP s).length : Int) = 2 → 0 < (sP s).length - 1 := (fun h => by omega)); cases hv : Vm.B (LasOk (sA s) (sC s)) <;> by_cases h2 : ((sP s).length : Int) = 2 <;> by_cases he : sQ s = [] <;> by_cases hc : (sQ s).getD ((sQ s).length - 1) 0 = 41
  all_goals (repeat' (first
    | refine AW_seq ?_
    | refine AW_region (id := 0) Γp15_ok [] (by kernel_rfl) ?_; simp  [-List.getD_eq_getElem?_getD, -List.drop_one, ↓splitB_true, ↓splitB_false, go_sem]
    | refine AW_region (id := 1) Γp15_ok [] (by kernel_rfl) ?_; simp  [-List.getD_eq_getElem?_getD, -List.drop_one, ↓splitB_true, ↓splitB_false, go_sem, hl, (show UInt8.ofNat (Int.toNat 40) = 40 from rfl), (show pc 40 s [] = sP s from rfl)]; try (refine AW_data hK 4 ?_; simp [go_sem])
    | (have i1 : 1 < (sP s).length := (by omega); have i2 : 0 < (sQ s).length := (List.length_pos_iff.2 he); have u1 : (((sQ s).getD ((sQ s).length - 1) 0).toNat : Int) = 41 ↔ (sQ s).getD ((sQ s).length - 1) 0 = 41 := ⟨fun h => UInt8.toNat.inj (by have : (41 : UInt8).toNat = 41 := rfl; omega), fun h => by rw [h]; rfl⟩); refine AW_region_draw (id := 2) Γp15_ok mixed [11, 17] [4] (by kernel_rfl) (by kernel_rfl) (by simp [-List.getD_eq_getElem?_getD, -List.drop_one, ↓splitB_true, ↓splitB_false, go_sem, i1, ne_nil i1, Nat.sub_pos_of_lt i1, h2, he, hc, u1, (show nth (sP s) 1 = sQ s from rfl), wrap_in (x := ((sQ s).length : Int) - 1) (by omega) (by omega), (show (((sQ s).length : Int) - 1).toNat = (sQ s).length - 1 by omega), (show (1 : Int) ≤ (sQ s).length by omega), (show (0 : Int) ≤ ((sQ s).length : Int) - 1 by omega), (show ((sQ s).length : Int) - 1 < (sQ s).length by omega)]) ?_; simp  [-List.getD_eq_getElem?_getD, -List.drop_one, ↓splitB_true, ↓splitB_false, go_sem, i1, ne_nil i1, Nat.sub_pos_of_lt i1, h2, he, hc, u1, (show nth (sP s) 1 = sQ s from rfl), wrap_in (x := ((sQ s).length : Int) - 1) (by omega) (by omega), (show (((sQ s).length : Int) - 1).toNat = (sQ s).length - 1 by omega), (show (1 : Int) ≤ (sQ s).length by omega), (show (0 : Int) ≤ ((sQ s).length : Int) - 1 by omega), (show ((sQ s).length : Int) - 1 < (sQ s).length by omega)]; try (refine ⟨fun s2a => ?_, fun s2a => ?_⟩ <;> (try simp [B_iff, B_not] at s2a) <;> try (refine ⟨fun s2b => ?_, fun s2b => ?_⟩ <;> (try simp [B_iff, B_not] at s2b) <;> try (refine ⟨fun s2c => ?_, fun s2c => ?_⟩ <;> (try simp [B_iff, B_not] at s2c))))
    | refine AW_region_draw (id := 2) Γp15_ok mixed [11, 17] [4] (by kernel_rfl) (by kernel_rfl) (by simp [-List.getD_eq_getElem?_getD, -List.drop_one, ↓splitB_true, ↓splitB_false, go_sem, h2, he, hne, hn1, hn2, (show nth (sP s) 1 = sQ s from rfl)]) ?_; simp  [-List.getD_eq_getElem?_getD, -List.drop_one, ↓splitB_true, ↓splitB_false, go_sem, h2, he, hne, hn1, hn2, (show nth (sP s) 1 = sQ s from rfl)]; try (refine ⟨fun s2a => ?_, fun s2a => ?_⟩ <;> (try simp [B_iff, B_not] at s2a) <;> try (refine ⟨fun s2b => ?_, fun s2b => ?_⟩ <;> (try simp [B_iff, B_not] at s2b) <;> try (refine ⟨fun s2c => ?_, fun s2c => ?_⟩ <;> (try simp [B_iff, B_not] at s2c))))
    | refine AW_region (id := 3) Γp15_ok [] (by kernel_rfl) ?_; simp  [-List.getD_eq_getElem?_getD, -List.drop_one, ↓splitB_true, ↓splitB_false, go_sem]
    | (have i1 : 1 < (sP s).length := (by omega); have i0 : 0 < (sP s).length := (by omega); have i2 : 0 < (sQ s).length := (List.length_pos_iff.2 he)); refine AW_region_draw (id := 4) Γp15_ok mixed [] [4] (by kernel_rfl) (by kernel_rfl) (by simp [-List.getD_eq_getElem?_getD, -List.drop_one, ↓splitB_true, ↓splitB_false, go_sem, i1, ne_nil i1, Nat.sub_pos_of_lt i1, i0, ne_nil i0, Nat.sub_pos_of_lt i0, (show (1 : Int) < ((sP s).length : Int) by omega), (show (0 : Int) < ((sP s).length : Int) by omega), (show nth (sP s) 1 = sQ s from rfl), (show nums (nth (sP s) 0) = sA s from rfl), (show nums ((sQ s).take ((sQ s).length - 1)) = sC s from rfl), (show (nth (sP s) 0).length ≤ 1048576 by omega), (show (sQ s).length - 1 ≤ 1048576 by omega), (show (sQ s).length ≤ 1048577 by omega), wrap_in (x := ((sQ s).length : Int) - 1) (by omega) (by omega), (show (((sQ s).length : Int) - 1).toNat = (sQ s).length - 1 by omega), (show (1 : Int) ≤ (sQ s).length by omega), (show (0 : Int) ≤ ((sQ s).length : Int) - 1 by omega), (show ((sQ s).length : Int) - 1 ≤ (sQ s).length by omega), (show min ((sQ s).length - 1) (sQ s).length = (sQ s).length - 1 by omega)]) ?_; simp  [-List.getD_eq_getElem?_getD, -List.drop_one, ↓splitB_true, ↓splitB_false, go_sem, i1, ne_nil i1, Nat.sub_pos_of_lt i1, i0, ne_nil i0, Nat.sub_pos_of_lt i0, (show (1 : Int) < ((sP s).length : Int) by omega), (show (0 : Int) < ((sP s).length : Int) by omega), (show nth (sP s) 1 = sQ s from rfl), (show nums (nth (sP s) 0) = sA s from rfl), (show nums ((sQ s).take ((sQ s).length - 1)) = sC s from rfl), (show (nth (sP s) 0).length ≤ 1048576 by omega), (show (sQ s).length - 1 ≤ 1048576 by omega), (show (sQ s).length ≤ 1048577 by omega), wrap_in (x := ((sQ s).length : Int) - 1) (by omega) (by omega), (show (((sQ s).length : Int) - 1).toNat = (sQ s).length - 1 by omega), (show (1 : Int) ≤ (sQ s).length by omega), (show (0 : Int) ≤ ((sQ s).length : Int) - 1 by omega), (show ((sQ s).length : Int) - 1 ≤ (sQ s).length by omega), (show min ((sQ s).length - 1) (sQ s).length = (sQ s).length - 1 by omega)]; try ((refine AW_box2c 5 rfl fun lb x y j1 j2 cp1 cp2 hlb hx hy n1 n2 n3 hc1 hd1 hc2 hd2 => ?_); (clear hlb hx hy))
    | refine AW_region (id := 5) Γp15_ok [] (by kernel_rfl) ?_; simp  [-List.getD_eq_getElem?_getD, -List.drop_one, ↓splitB_true, ↓splitB_false, go_sem, n1, n2, n3, Ne.symm n1, Ne.symm n2, Ne.symm n3, hv]
    | refine AW_region (id := 6) Γp15_ok [] (by kernel_rfl) ?_; simp  [-List.getD_eq_getElem?_getD, -List.drop_one, ↓splitB_true, ↓splitB_false, go_sem]
    | refine AW_region (id := 7) Γp15_ok [] (by kernel_rfl) ?_; simp  [-List.getD_eq_getElem?_getD, -List.drop_one, ↓splitB_true, ↓splitB_false, go_sem, n1, n2, n3, Ne.symm n1, Ne.symm n2, Ne.symm n3]; try ((refine AW_own2 2 (X := cat cI (sA s) ++ List.replicate j1 D.any) (Y := cat cI (sC s) ++ List.replicate j2 D.any) rfl (by simp [upd, n1, n2, n3, Ne.symm n1, Ne.symm n2, Ne.symm n3]) (by simp [upd, n1, n2, n3, Ne.symm n1, Ne.symm n2, Ne.symm n3]) n3 (by simp [cat_length]) (by simp [cat_length]; omega) (by simp [cat_length]) (by simp [cat_length]; omega) fun r hr => ?_))
    | refine AW_condA (c := .tmp 28) ?_; simp [-List.getD_eq_getElem?_getD, -List.drop_one, ↓splitB_true, ↓splitB_false, go_sem]; try first | (refine ⟨?_, ?_⟩ <;> change AW _ _ _ _ _ _) | (refine ⟨fun c28 => ?_, fun c28 => ?_⟩ <;> (try simp [B_iff, B_not] at c28))
    | refine AW_condA (c := .tmp 47) ?_; simp [-List.getD_eq_getElem?_getD, -List.drop_one, ↓splitB_true, ↓splitB_false, go_sem]; try first | (refine ⟨?_, ?_⟩ <;> change AW _ _ _ _ _ _) | (refine ⟨fun c47 => ?_, fun c47 => ?_⟩ <;> (try simp [B_iff, B_not] at c47))
    | (refine AW_block ?_)
    | (refine AW_exit ?_; simp [-List.getD_eq_getElem?_getD, -List.drop_one, ↓splitB_true, ↓splitB_false, go_sem])
    | (refine AW_skip ?_; simp [-List.getD_eq_getElem?_getD, -List.drop_one, ↓splitB_true, ↓splitB_false, go_sem])
    | (refine AW_ret ?_; simp [-List.getD_eq_getElem?_getD, -List.drop_one, ↓splitB_true, ↓splitB_false, go_sem, Try.results43])
    | (intro hx; change AW _ _ _ _ _ _)
    | (refine ⟨?_, ?_⟩ <;> change AW _ _ _ _ _ _)
    | (intro hx; refine ⟨fun hs => ?_, fun hs => ?_⟩)
    | (refine ⟨fun hs => ?_, fun hs => ?_⟩)
    | (refine ⟨?_, fun hs => ?_⟩; change AW _ _ _ _ _ _)
    | (refine ⟨fun hs => ?_, ?_⟩; rotate_left; change AW _ _ _ _ _ _; rotate_left)))
  all_goals (first
    | (intro h; exact absurd (by have := h.1; omega) h2)
    | (intro h; exact absurd he h.2.1)
    | (intro h; exact absurd h.2.2.1 hc)
    | (exact ⟨by omega, he, hc, by rw [B_iff] at hv; exact hv⟩)
    | (intro h; have := B_yes h.2.2.2; rw [hv] at this; cases this; done)
    | skip)
noncomputable def specParse_pureC : Con := .pure fun
  | [.str s] => ((s.length ≤ 1048576), if B (SpOk s) = true then .tup [.st [fr 1 cI (sA s), fr 1 cI (sC s)], .bool true] else .tup [.st [.nil, .nil], .bool false])
  | _ => (False, .any)
attribute [go_sem] specParse_pureC
theorem specParse_pureC_ok : ConOk Try.prog 43 specParse_pureC := by
  refine ⟨callable Try.func43 (by decide) rfl, fun args h => ?_⟩
  revert h
  dsimp only
  split
  · intro h
    have hl := h
    skip
    exact ⟨specParse_pure _ hl, by simp [go_sem]⟩
  · intro h
    exact h.elim
noncomputable def Γp16 : FuncId → Con := ext Γp15 43 specParse_pureC
attribute [go_sem] Γp16
theorem Γp16_ok : ∀ g, ConOk Try.prog g (Γp16 g) := ext_ok Γp15_ok specParse_pureC_ok
end Go.Proofs.Ytlbbhkpjjciaiaa.Vm

