/-
  Texts read: strings.Cut, strings.TrimSuffix, digits. No conditions.
-/
import Derived.Lib.Bytealg
import Derived.Test.YtlbbhkpjjciaiaaD13
namespace Go.Proofs.Ytlbbhkpjjciaiaa.Vm
open Go
set_option linter.unusedVariables false
set_option linter.unusedSimpArgs false
set_option maxRecDepth 200000

theorem RepL.two' {μ : Nat → Nat} {I : Nat → Prop} {w : World} {d e : D} {vs : List Value} {f : List Nat} (h : RepL μ I w [d, e] vs f) : ∃ v u f1 f2, vs = [v, u] ∧ Rep μ I w d v f1 ∧ Rep μ I w e u f2 := by
  simp only [RepL] at h
  obtain ⟨v', vs', f1, f2, rfl, rfl, h3, v2, vs2, g1, g2, rfl, rfl, h5, rfl, rfl⟩ := h
  exact ⟨v', v2, f1, g1, rfl, h3, h5⟩
theorem idxB_ext (s : List UInt8) (c : Int) : Ext Try.prog 103 [.str s, .int .u8 c] (.int .i64 (Go.Lib.indexByte s c.toNat.toUInt8)) := fun μ I w vs h => by
  obtain ⟨v, u, f1, f2, rfl, h1, h2⟩ := RepL.two' h
  simp only [Rep] at h1 h2
  refine ⟨.int .i64 (Go.Lib.indexByte s c.toNat.toUInt8), ?_, fun μ' I' w' => by simp [Rep]⟩
  rw [h1.2, h2.2, run_callFunc_extern (e := Extern.BytealgIndexByte.indexByte) Try.func103 (by kernel_rfl) (by kernel_rfl) (by kernel_rfl) (by kernel_rfl)]
  rw [Go.Lib.run_indexByteString]
  rfl
def idxBC : Con := .ext fun
  | [.str s, .int .u8 c] => (True, .int .i64 (Go.Lib.indexByte s c.toNat.toUInt8))
  | _ => (False, .any)
attribute [go_sem] idxBC
theorem idxBC_ok : ConOk Try.prog 103 idxBC := by
  intro args h
  revert h
  dsimp only
  split
  · intro _
    exact ⟨idxB_ext _ _, by simp [bnd]⟩
  · intro h
    exact h.elim
noncomputable def Γp1 : FuncId → Con := ext Γs52 103 idxBC
attribute [go_sem] Γp1
theorem Γp1_ok : ∀ g, ConOk Try.prog g (Γp1 g) := ext_ok Γs52_ok idxBC_ok
theorem idx_ge (s : List UInt8) (c : UInt8) : -1 ≤ Go.Lib.indexByte s c := Go.Lib.indexByte_ge s c

theorem indexByte_pure (s : List UInt8) (c : Int)  : Pure Try.prog 99 [.str s, .int .u8 c] (.int .i64 (Go.Lib.indexByte s c.toNat.toUInt8)) := by
  refine Pure.of_walk Try.func99 rfl (by simp [Try.f99]) (by simp [-List.drop_one, go_sem]) fun B hK => ?_
  (repeat' (first
    | refine AW_seq ?_
    | refine AW_region (id := 0) Γp1_ok [] (by kernel_rfl) ?_; simp  [-List.getD_eq_getElem?_getD, -List.drop_one, ↓splitB_true, ↓splitB_false, go_sem]
    | refine AW_region (id := 1) Γp1_ok [] (by kernel_rfl) ?_; simp  [-List.getD_eq_getElem?_getD, -List.drop_one, ↓splitB_true, ↓splitB_false, go_sem]
    | (refine AW_block ?_)
    | (refine AW_exit ?_; simp [-List.getD_eq_getElem?_getD, -List.drop_one, ↓splitB_true, ↓splitB_false, go_sem])
    | (refine AW_skip ?_; simp [-List.getD_eq_getElem?_getD, -List.drop_one, ↓splitB_true, ↓splitB_false, go_sem])
    | (refine AW_ret ?_; simp [-List.getD_eq_getElem?_getD, -List.drop_one, ↓splitB_true, ↓splitB_false, go_sem, Try.results99])
    | (intro hx; change AW _ _ _ _ _ _)
    | (refine ⟨?_, ?_⟩ <;> change AW _ _ _ _ _ _)
    | (intro hx; refine ⟨fun hs => ?_, fun hs => ?_⟩)
    | (refine ⟨fun hs => ?_, fun hs => ?_⟩)
    | (refine ⟨?_, fun hs => ?_⟩; change AW _ _ _ _ _ _)
    | (refine ⟨fun hs => ?_, ?_⟩; rotate_left; change AW _ _ _ _ _ _; rotate_left)))
noncomputable def indexByte_pureC : Con := .pure fun
  | [.str s, .int .u8 c] => (True, .int .i64 (Go.Lib.indexByte s c.toNat.toUInt8))
  | _ => (False, .any)
attribute [go_sem] indexByte_pureC
theorem indexByte_pureC_ok : ConOk Try.prog 99 indexByte_pureC := by
  refine ⟨callable Try.func99 (by decide) rfl, fun args h => ?_⟩
  revert h
  dsimp only
  split
  · intro h
    skip
    skip
    exact ⟨indexByte_pure _ _, by simp [go_sem]⟩
  · intro h
    exact h.elim
noncomputable def Γp2 : FuncId → Con := ext Γp1 99 indexByte_pureC
attribute [go_sem] Γp2
theorem Γp2_ok : ∀ g, ConOk Try.prog g (Γp2 g) := ext_ok Γp1_ok indexByte_pureC_ok

theorem index_pure (s : List UInt8) (c : UInt8)  : Pure Try.prog 94 [.str s, .str [c]] (.int .i64 (Go.Lib.indexByte s c)) := by
  refine Pure.of_walk Try.func94 rfl (by simp [Try.f94]) (by simp [-List.drop_one, go_sem]) fun B hK => ?_
  (repeat' (first
    | refine AW_seq ?_
    | refine AW_region (id := 0) Γp2_ok [] (by kernel_rfl) ?_; simp  [-List.getD_eq_getElem?_getD, -List.drop_one, ↓splitB_true, ↓splitB_false, go_sem, (show c.toNat.toUInt8 = c by simp)]
    | refine AW_region (id := 1) Γp2_ok [] (by kernel_rfl) ?_; simp  [-List.getD_eq_getElem?_getD, -List.drop_one, ↓splitB_true, ↓splitB_false, go_sem, (show c.toNat.toUInt8 = c by simp)]
    | refine AW_region (id := 2) Γp2_ok [19] (by kernel_rfl) ?_; simp  [-List.getD_eq_getElem?_getD, -List.drop_one, ↓splitB_true, ↓splitB_false, go_sem, (show c.toNat.toUInt8 = c by simp)]; try (refine ⟨fun s2a => ?_, fun s2a => ?_⟩ <;> (try simp [B_iff, B_not] at s2a) <;> try (refine ⟨fun s2b => ?_, fun s2b => ?_⟩ <;> (try simp [B_iff, B_not] at s2b)))
    | refine AW_region (id := 3) Γp2_ok [] (by kernel_rfl) ?_; simp  [-List.getD_eq_getElem?_getD, -List.drop_one, ↓splitB_true, ↓splitB_false, go_sem, (show c.toNat.toUInt8 = c by simp)]
    | refine AW_region (id := 4) Γp2_ok [] (by kernel_rfl) ?_; simp  [-List.getD_eq_getElem?_getD, -List.drop_one, ↓splitB_true, ↓splitB_false, go_sem, (show c.toNat.toUInt8 = c by simp)]
    | refine AW_region (id := 5) Γp2_ok [] (by kernel_rfl) ?_; simp  [-List.getD_eq_getElem?_getD, -List.drop_one, ↓splitB_true, ↓splitB_false, go_sem, (show c.toNat.toUInt8 = c by simp)]
    | refine AW_region (id := 6) Γp2_ok [] (by kernel_rfl) ?_; simp  [-List.getD_eq_getElem?_getD, -List.drop_one, ↓splitB_true, ↓splitB_false, go_sem, (show c.toNat.toUInt8 = c by simp)]
    | refine AW_region (id := 7) Γp2_ok [] (by kernel_rfl) ?_; simp  [-List.getD_eq_getElem?_getD, -List.drop_one, ↓splitB_true, ↓splitB_false, go_sem, (show c.toNat.toUInt8 = c by simp)]
    | refine AW_region (id := 8) Γp2_ok [40] (by kernel_rfl) ?_; simp  [-List.getD_eq_getElem?_getD, -List.drop_one, ↓splitB_true, ↓splitB_false, go_sem, (show c.toNat.toUInt8 = c by simp)]; try (refine ⟨fun s8a => ?_, fun s8a => ?_⟩ <;> (try simp [B_iff, B_not] at s8a) <;> try (refine ⟨fun s8b => ?_, fun s8b => ?_⟩ <;> (try simp [B_iff, B_not] at s8b)))
    | refine AW_region (id := 9) Γp2_ok [] (by kernel_rfl) ?_; simp  [-List.getD_eq_getElem?_getD, -List.drop_one, ↓splitB_true, ↓splitB_false, go_sem, (show c.toNat.toUInt8 = c by simp)]
    | refine AW_region (id := 10) Γp2_ok [] (by kernel_rfl) ?_; simp  [-List.getD_eq_getElem?_getD, -List.drop_one, ↓splitB_true, ↓splitB_false, go_sem, (show c.toNat.toUInt8 = c by simp)]
    | refine AW_region (id := 11) Γp2_ok [] (by kernel_rfl) ?_; simp  [-List.getD_eq_getElem?_getD, -List.drop_one, ↓splitB_true, ↓splitB_false, go_sem, (show c.toNat.toUInt8 = c by simp)]
    | refine AW_region (id := 12) Γp2_ok [] (by kernel_rfl) ?_; simp  [-List.getD_eq_getElem?_getD, -List.drop_one, ↓splitB_true, ↓splitB_false, go_sem, (show c.toNat.toUInt8 = c by simp)]
    | refine AW_region (id := 13) Γp2_ok [] (by kernel_rfl) ?_; simp  [-List.getD_eq_getElem?_getD, -List.drop_one, ↓splitB_true, ↓splitB_false, go_sem, (show c.toNat.toUInt8 = c by simp)]
    | refine AW_region (id := 14) Γp2_ok [] (by kernel_rfl) ?_; simp  [-List.getD_eq_getElem?_getD, -List.drop_one, ↓splitB_true, ↓splitB_false, go_sem, (show c.toNat.toUInt8 = c by simp)]
    | refine AW_region (id := 15) Γp2_ok [] (by kernel_rfl) ?_; simp  [-List.getD_eq_getElem?_getD, -List.drop_one, ↓splitB_true, ↓splitB_false, go_sem, (show c.toNat.toUInt8 = c by simp)]
    | refine AW_region (id := 16) Γp2_ok [] (by kernel_rfl) ?_; simp  [-List.getD_eq_getElem?_getD, -List.drop_one, ↓splitB_true, ↓splitB_false, go_sem, (show c.toNat.toUInt8 = c by simp)]
    | refine AW_region (id := 17) Γp2_ok [] (by kernel_rfl) ?_; simp  [-List.getD_eq_getElem?_getD, -List.drop_one, ↓splitB_true, ↓splitB_false, go_sem, (show c.toNat.toUInt8 = c by simp)]
    | refine AW_region (id := 18) Γp2_ok [] (by kernel_rfl) ?_; simp  [-List.getD_eq_getElem?_getD, -List.drop_one, ↓splitB_true, ↓splitB_false, go_sem, (show c.toNat.toUInt8 = c by simp)]
    | refine AW_region (id := 19) Γp2_ok [] (by kernel_rfl) ?_; simp  [-List.getD_eq_getElem?_getD, -List.drop_one, ↓splitB_true, ↓splitB_false, go_sem, (show c.toNat.toUInt8 = c by simp)]
    | refine AW_region (id := 20) Γp2_ok [] (by kernel_rfl) ?_; simp  [-List.getD_eq_getElem?_getD, -List.drop_one, ↓splitB_true, ↓splitB_false, go_sem, (show c.toNat.toUInt8 = c by simp)]
    | refine AW_region (id := 21) Γp2_ok [84] (by kernel_rfl) ?_; simp  [-List.getD_eq_getElem?_getD, -List.drop_one, ↓splitB_true, ↓splitB_false, go_sem, (show c.toNat.toUInt8 = c by simp)]; try (refine ⟨fun s21a => ?_, fun s21a => ?_⟩ <;> (try simp [B_iff, B_not] at s21a) <;> try (refine ⟨fun s21b => ?_, fun s21b => ?_⟩ <;> (try simp [B_iff, B_not] at s21b)))
    | refine AW_region (id := 22) Γp2_ok [] (by kernel_rfl) ?_; simp  [-List.getD_eq_getElem?_getD, -List.drop_one, ↓splitB_true, ↓splitB_false, go_sem, (show c.toNat.toUInt8 = c by simp)]
    | refine AW_region (id := 23) Γp2_ok [] (by kernel_rfl) ?_; simp  [-List.getD_eq_getElem?_getD, -List.drop_one, ↓splitB_true, ↓splitB_false, go_sem, (show c.toNat.toUInt8 = c by simp)]
    | refine AW_region (id := 24) Γp2_ok [] (by kernel_rfl) ?_; simp  [-List.getD_eq_getElem?_getD, -List.drop_one, ↓splitB_true, ↓splitB_false, go_sem, (show c.toNat.toUInt8 = c by simp)]
    | refine AW_region (id := 25) Γp2_ok [102] (by kernel_rfl) ?_; simp  [-List.getD_eq_getElem?_getD, -List.drop_one, ↓splitB_true, ↓splitB_false, go_sem, (show c.toNat.toUInt8 = c by simp)]; try (refine ⟨fun s25a => ?_, fun s25a => ?_⟩ <;> (try simp [B_iff, B_not] at s25a) <;> try (refine ⟨fun s25b => ?_, fun s25b => ?_⟩ <;> (try simp [B_iff, B_not] at s25b)))
    | refine AW_region (id := 26) Γp2_ok [] (by kernel_rfl) ?_; simp  [-List.getD_eq_getElem?_getD, -List.drop_one, ↓splitB_true, ↓splitB_false, go_sem, (show c.toNat.toUInt8 = c by simp)]
    | refine AW_region (id := 27) Γp2_ok [] (by kernel_rfl) ?_; simp  [-List.getD_eq_getElem?_getD, -List.drop_one, ↓splitB_true, ↓splitB_false, go_sem, (show c.toNat.toUInt8 = c by simp)]
    | refine AW_region (id := 28) Γp2_ok [] (by kernel_rfl) ?_; simp  [-List.getD_eq_getElem?_getD, -List.drop_one, ↓splitB_true, ↓splitB_false, go_sem, (show c.toNat.toUInt8 = c by simp)]
    | refine AW_region (id := 29) Γp2_ok [] (by kernel_rfl) ?_; simp  [-List.getD_eq_getElem?_getD, -List.drop_one, ↓splitB_true, ↓splitB_false, go_sem, (show c.toNat.toUInt8 = c by simp)]
    | refine AW_region (id := 30) Γp2_ok [121, 128] (by kernel_rfl) ?_; simp  [-List.getD_eq_getElem?_getD, -List.drop_one, ↓splitB_true, ↓splitB_false, go_sem, (show c.toNat.toUInt8 = c by simp)]; try (refine ⟨fun s30a => ?_, fun s30a => ?_⟩ <;> (try simp [B_iff, B_not] at s30a) <;> try (refine ⟨fun s30b => ?_, fun s30b => ?_⟩ <;> (try simp [B_iff, B_not] at s30b) <;> try (refine ⟨fun s30c => ?_, fun s30c => ?_⟩ <;> (try simp [B_iff, B_not] at s30c))))
    | refine AW_region (id := 31) Γp2_ok [] (by kernel_rfl) ?_; simp  [-List.getD_eq_getElem?_getD, -List.drop_one, ↓splitB_true, ↓splitB_false, go_sem, (show c.toNat.toUInt8 = c by simp)]
    | refine AW_region (id := 32) Γp2_ok [] (by kernel_rfl) ?_; simp  [-List.getD_eq_getElem?_getD, -List.drop_one, ↓splitB_true, ↓splitB_false, go_sem, (show c.toNat.toUInt8 = c by simp)]
    | refine AW_region (id := 33) Γp2_ok [] (by kernel_rfl) ?_; simp  [-List.getD_eq_getElem?_getD, -List.drop_one, ↓splitB_true, ↓splitB_false, go_sem, (show c.toNat.toUInt8 = c by simp)]
    | refine AW_region (id := 34) Γp2_ok [] (by kernel_rfl) ?_; simp  [-List.getD_eq_getElem?_getD, -List.drop_one, ↓splitB_true, ↓splitB_false, go_sem, (show c.toNat.toUInt8 = c by simp)]
    | refine AW_region (id := 35) Γp2_ok [] (by kernel_rfl) ?_; simp  [-List.getD_eq_getElem?_getD, -List.drop_one, ↓splitB_true, ↓splitB_false, go_sem, (show c.toNat.toUInt8 = c by simp)]
    | refine AW_condA (c := .tmp 16) ?_; simp [-List.getD_eq_getElem?_getD, -List.drop_one, ↓splitB_true, ↓splitB_false, go_sem, (show c.toNat.toUInt8 = c by simp)]; try first | (refine ⟨?_, ?_⟩ <;> change AW _ _ _ _ _ _) | (refine ⟨fun c16 => ?_, fun c16 => ?_⟩ <;> (try simp [B_iff, B_not] at c16))
    | refine AW_condA (c := .tmp 24) ?_; simp [-List.getD_eq_getElem?_getD, -List.drop_one, ↓splitB_true, ↓splitB_false, go_sem, (show c.toNat.toUInt8 = c by simp)]; try first | (refine ⟨?_, ?_⟩ <;> change AW _ _ _ _ _ _) | (refine ⟨fun c24 => ?_, fun c24 => ?_⟩ <;> (try simp [B_iff, B_not] at c24))
    | refine AW_condA (c := .tmp 31) ?_; simp [-List.getD_eq_getElem?_getD, -List.drop_one, ↓splitB_true, ↓splitB_false, go_sem, (show c.toNat.toUInt8 = c by simp)]; try first | (refine ⟨?_, ?_⟩ <;> change AW _ _ _ _ _ _) | (refine ⟨fun c31 => ?_, fun c31 => ?_⟩ <;> (try simp [B_iff, B_not] at c31))
    | refine AW_condA (c := .tmp 36) ?_; simp [-List.getD_eq_getElem?_getD, -List.drop_one, ↓splitB_true, ↓splitB_false, go_sem, (show c.toNat.toUInt8 = c by simp)]; try first | (refine ⟨?_, ?_⟩ <;> change AW _ _ _ _ _ _) | (refine ⟨fun c36 => ?_, fun c36 => ?_⟩ <;> (try simp [B_iff, B_not] at c36))
    | refine AW_condA (c := .tmp 59) ?_; simp [-List.getD_eq_getElem?_getD, -List.drop_one, ↓splitB_true, ↓splitB_false, go_sem, (show c.toNat.toUInt8 = c by simp)]; try first | (refine ⟨?_, ?_⟩ <;> change AW _ _ _ _ _ _) | (refine ⟨fun c59 => ?_, fun c59 => ?_⟩ <;> (try simp [B_iff, B_not] at c59))
    | refine AW_condA (c := .tmp 64) ?_; simp [-List.getD_eq_getElem?_getD, -List.drop_one, ↓splitB_true, ↓splitB_false, go_sem, (show c.toNat.toUInt8 = c by simp)]; try first | (refine ⟨?_, ?_⟩ <;> change AW _ _ _ _ _ _) | (refine ⟨fun c64 => ?_, fun c64 => ?_⟩ <;> (try simp [B_iff, B_not] at c64))
    | refine AW_condA (c := .tmp 73) ?_; simp [-List.getD_eq_getElem?_getD, -List.drop_one, ↓splitB_true, ↓splitB_false, go_sem, (show c.toNat.toUInt8 = c by simp)]; try first | (refine ⟨?_, ?_⟩ <;> change AW _ _ _ _ _ _) | (refine ⟨fun c73 => ?_, fun c73 => ?_⟩ <;> (try simp [B_iff, B_not] at c73))
    | refine AW_condA (c := .tmp 93) ?_; simp [-List.getD_eq_getElem?_getD, -List.drop_one, ↓splitB_true, ↓splitB_false, go_sem, (show c.toNat.toUInt8 = c by simp)]; try first | (refine ⟨?_, ?_⟩ <;> change AW _ _ _ _ _ _) | (refine ⟨fun c93 => ?_, fun c93 => ?_⟩ <;> (try simp [B_iff, B_not] at c93))
    | refine AW_condA (c := .tmp 107) ?_; simp [-List.getD_eq_getElem?_getD, -List.drop_one, ↓splitB_true, ↓splitB_false, go_sem, (show c.toNat.toUInt8 = c by simp)]; try first | (refine ⟨?_, ?_⟩ <;> change AW _ _ _ _ _ _) | (refine ⟨fun c107 => ?_, fun c107 => ?_⟩ <;> (try simp [B_iff, B_not] at c107))
    | refine AW_condA (c := .tmp 114) ?_; simp [-List.getD_eq_getElem?_getD, -List.drop_one, ↓splitB_true, ↓splitB_false, go_sem, (show c.toNat.toUInt8 = c by simp)]; try first | (refine ⟨?_, ?_⟩ <;> change AW _ _ _ _ _ _) | (refine ⟨fun c114 => ?_, fun c114 => ?_⟩ <;> (try simp [B_iff, B_not] at c114))
    | refine AW_condA (c := .tmp 132) ?_; simp [-List.getD_eq_getElem?_getD, -List.drop_one, ↓splitB_true, ↓splitB_false, go_sem, (show c.toNat.toUInt8 = c by simp)]; try first | (refine ⟨?_, ?_⟩ <;> change AW _ _ _ _ _ _) | (refine ⟨fun c132 => ?_, fun c132 => ?_⟩ <;> (try simp [B_iff, B_not] at c132))
    | refine AW_condA (c := .tmp 139) ?_; simp [-List.getD_eq_getElem?_getD, -List.drop_one, ↓splitB_true, ↓splitB_false, go_sem, (show c.toNat.toUInt8 = c by simp)]; try first | (refine ⟨?_, ?_⟩ <;> change AW _ _ _ _ _ _) | (refine ⟨fun c139 => ?_, fun c139 => ?_⟩ <;> (try simp [B_iff, B_not] at c139))
    | (refine AW_block ?_)
    | (refine AW_exit ?_; simp [-List.getD_eq_getElem?_getD, -List.drop_one, ↓splitB_true, ↓splitB_false, go_sem])
    | (refine AW_skip ?_; simp [-List.getD_eq_getElem?_getD, -List.drop_one, ↓splitB_true, ↓splitB_false, go_sem])
    | (refine AW_ret ?_; simp [-List.getD_eq_getElem?_getD, -List.drop_one, ↓splitB_true, ↓splitB_false, go_sem, Try.results94, (show c.toNat.toUInt8 = c by simp)])
    | (intro hx; change AW _ _ _ _ _ _)
    | (refine ⟨?_, ?_⟩ <;> change AW _ _ _ _ _ _)
    | (intro hx; refine ⟨fun hs => ?_, fun hs => ?_⟩)
    | (refine ⟨fun hs => ?_, fun hs => ?_⟩)
    | (refine ⟨?_, fun hs => ?_⟩; change AW _ _ _ _ _ _)
    | (refine ⟨fun hs => ?_, ?_⟩; rotate_left; change AW _ _ _ _ _ _; rotate_left)))
  all_goals (first
    | (rw [← c16]; simp [Go.Lib.indexByte]; done)
    | skip)
noncomputable def index_pureC : Con := .pure fun
  | [.str s, .str [c]] => (True, .int .i64 (Go.Lib.indexByte s c))
  | _ => (False, .any)
attribute [go_sem] index_pureC
theorem index_pureC_ok : ConOk Try.prog 94 index_pureC := by
  refine ⟨callable Try.func94 (by decide) rfl, fun args h => ?_⟩
  revert h
  dsimp only
  split
  · intro h
    skip
    skip
    exact ⟨index_pure _ _, by simp [go_sem]⟩
  · intro h
    exact h.elim
noncomputable def Γp3 : FuncId → Con := ext Γp2 94 index_pureC
attribute [go_sem] Γp3
theorem Γp3_ok : ∀ g, ConOk Try.prog g (Γp3 g) := ext_ok Γp2_ok index_pureC_ok

theorem idx_lt (c : UInt8) : ∀ (s : List UInt8), 0 ≤ Go.Lib.indexByte s c → (Go.Lib.indexByte s c).toNat < s.length
  | [], h => by simp [Go.Lib.indexByte] at h
  | b :: l, h => by
    have ih := idx_lt c l
    have hg := idx_ge l c
    unfold Go.Lib.indexByte at h ⊢
    split
    · simp
    · rename_i h1
      rw [if_neg h1] at h
      split
      · rename_i h2; rw [if_pos h2] at h; omega
      · rename_i h2
        have : ¬ Go.Lib.indexByte l c = -1 := by simpa using h2
        simp only [List.length_cons]
        have := ih (by omega)
        omega
/-- A text cut at the first byte c. -/
def cut1 (s : List UInt8) (c : UInt8) : List UInt8 := if 0 ≤ Go.Lib.indexByte s c then s.take (Go.Lib.indexByte s c).toNat else s
def cut2 (s : List UInt8) (c : UInt8) : List UInt8 := if 0 ≤ Go.Lib.indexByte s c then s.drop ((Go.Lib.indexByte s c).toNat + 1) else []
theorem cutLite_pure (s : List UInt8) (c : UInt8) (hl : s.length ≤ 1048576) : Pure Try.prog 87 [.str s, .str [c]] (.tup [.str (cut1 s c), .str (cut2 s c), .bool (decide (0 ≤ Go.Lib.indexByte s c))]) := by
  refine Pure.of_walk Try.func87 rfl (by simp [Try.f87]) (by simp [-List.drop_one, go_sem]) fun B hK => ?_
  by_cases hi : 0 ≤ Go.Lib.indexByte s c
  all_goals (repeat' (first
    | refine AW_seq ?_
    | refine AW_region (id := 0) Γp3_ok [] (by kernel_rfl) ?_; simp  [-List.getD_eq_getElem?_getD, -List.drop_one, ↓splitB_true, ↓splitB_false, go_sem]
    | refine AW_region (id := 1) Γp3_ok [] (by kernel_rfl) ?_; simp  [-List.getD_eq_getElem?_getD, -List.drop_one, ↓splitB_true, ↓splitB_false, go_sem]
    | refine AW_region (id := 2) Γp3_ok [] (by kernel_rfl) ?_; simp  [-List.getD_eq_getElem?_getD, -List.drop_one, ↓splitB_true, ↓splitB_false, go_sem, hi]
    | (have h1 := idx_lt c s hi; have e1 : (Go.Lib.indexByte s c + 1).toNat = (Go.Lib.indexByte s c).toNat + 1 := (by omega); have e2 : ((s.length : Int) - (Go.Lib.indexByte s c + 1)).toNat = s.length - ((Go.Lib.indexByte s c).toNat + 1) := (by omega); have e3 : (s.drop ((Go.Lib.indexByte s c).toNat + 1)).take (s.length - ((Go.Lib.indexByte s c).toNat + 1)) = s.drop ((Go.Lib.indexByte s c).toNat + 1) := (List.take_of_length_le (by simp))); refine AW_region_draw (id := 3) Γp3_ok mixed [] [0, 7] (by kernel_rfl) (by kernel_rfl) (by simp [-List.getD_eq_getElem?_getD, -List.drop_one, ↓splitB_true, ↓splitB_false, go_sem, hi, e1, e2, e3, wrap_in (x := Go.Lib.indexByte s c + 1) (by omega) (by omega), (show Go.Lib.indexByte s c ≤ s.length by omega), (show Go.Lib.indexByte s c + 1 ≤ s.length by omega), (show 0 ≤ Go.Lib.indexByte s c + 1 by omega)]) ?_; simp  [-List.getD_eq_getElem?_getD, -List.drop_one, ↓splitB_true, ↓splitB_false, go_sem, hi, e1, e2, e3, wrap_in (x := Go.Lib.indexByte s c + 1) (by omega) (by omega), (show Go.Lib.indexByte s c ≤ s.length by omega), (show Go.Lib.indexByte s c + 1 ≤ s.length by omega), (show 0 ≤ Go.Lib.indexByte s c + 1 by omega)]
    | refine AW_region (id := 4) Γp3_ok [] (by kernel_rfl) ?_; simp  [-List.getD_eq_getElem?_getD, -List.drop_one, ↓splitB_true, ↓splitB_false, go_sem]
    | refine AW_condA (c := .tmp 12) ?_; simp [-List.getD_eq_getElem?_getD, -List.drop_one, ↓splitB_true, ↓splitB_false, go_sem]; try first | (refine ⟨?_, ?_⟩ <;> change AW _ _ _ _ _ _) | (refine ⟨fun c12 => ?_, fun c12 => ?_⟩ <;> (try simp [B_iff, B_not] at c12))
    | (refine AW_block ?_)
    | (refine AW_exit ?_; simp [-List.getD_eq_getElem?_getD, -List.drop_one, ↓splitB_true, ↓splitB_false, go_sem])
    | (refine AW_skip ?_; simp [-List.getD_eq_getElem?_getD, -List.drop_one, ↓splitB_true, ↓splitB_false, go_sem])
    | (refine AW_ret ?_; simp [-List.getD_eq_getElem?_getD, -List.drop_one, ↓splitB_true, ↓splitB_false, go_sem, Try.results87])
    | (intro hx; change AW _ _ _ _ _ _)
    | (refine ⟨?_, ?_⟩ <;> change AW _ _ _ _ _ _)
    | (intro hx; refine ⟨fun hs => ?_, fun hs => ?_⟩)
    | (refine ⟨fun hs => ?_, fun hs => ?_⟩)
    | (refine ⟨?_, fun hs => ?_⟩; change AW _ _ _ _ _ _)
    | (refine ⟨fun hs => ?_, ?_⟩; rotate_left; change AW _ _ _ _ _ _; rotate_left)))
  all_goals (first
    | (simp [cut1, cut2, hi]; done)
    | skip)
noncomputable def cutLite_pureC : Con := .pure fun
  | [.str s, .str [c]] => ((s.length ≤ 1048576), .tup [.str (cut1 s c), .str (cut2 s c), .bool (decide (0 ≤ Go.Lib.indexByte s c))])
  | _ => (False, .any)
attribute [go_sem] cutLite_pureC
theorem cutLite_pureC_ok : ConOk Try.prog 87 cutLite_pureC := by
  refine ⟨callable Try.func87 (by decide) rfl, fun args h => ?_⟩
  revert h
  dsimp only
  split
  · intro h
    have hl := h
    skip
    exact ⟨cutLite_pure _ _ hl, by simp [go_sem]⟩
  · intro h
    exact h.elim
noncomputable def Γp4 : FuncId → Con := ext Γp3 87 cutLite_pureC
attribute [go_sem] Γp4
theorem Γp4_ok : ∀ g, ConOk Try.prog g (Γp4 g) := ext_ok Γp3_ok cutLite_pureC_ok

theorem cut_pure (s : List UInt8) (c : UInt8) (hl : s.length ≤ 1048576) : Pure Try.prog 73 [.str s, .str [c]] (.tup [.str (cut1 s c), .str (cut2 s c), .bool (decide (0 ≤ Go.Lib.indexByte s c))]) := by
  refine Pure.of_walk Try.func73 rfl (by simp [Try.f73]) (by simp [-List.drop_one, go_sem]) fun B hK => ?_
  (repeat' (first
    | refine AW_seq ?_
    | refine AW_region (id := 0) Γp4_ok [] (by kernel_rfl) ?_; simp  [-List.getD_eq_getElem?_getD, -List.drop_one, ↓splitB_true, ↓splitB_false, go_sem]
    | refine AW_region (id := 1) Γp4_ok [] (by kernel_rfl) ?_; simp  [-List.getD_eq_getElem?_getD, -List.drop_one, ↓splitB_true, ↓splitB_false, go_sem, hl]
    | (refine AW_block ?_)
    | (refine AW_exit ?_; simp [-List.getD_eq_getElem?_getD, -List.drop_one, ↓splitB_true, ↓splitB_false, go_sem])
    | (refine AW_skip ?_; simp [-List.getD_eq_getElem?_getD, -List.drop_one, ↓splitB_true, ↓splitB_false, go_sem])
    | (refine AW_ret ?_; simp [-List.getD_eq_getElem?_getD, -List.drop_one, ↓splitB_true, ↓splitB_false, go_sem, Try.results73])
    | (intro hx; change AW _ _ _ _ _ _)
    | (refine ⟨?_, ?_⟩ <;> change AW _ _ _ _ _ _)
    | (intro hx; refine ⟨fun hs => ?_, fun hs => ?_⟩)
    | (refine ⟨fun hs => ?_, fun hs => ?_⟩)
    | (refine ⟨?_, fun hs => ?_⟩; change AW _ _ _ _ _ _)
    | (refine ⟨fun hs => ?_, ?_⟩; rotate_left; change AW _ _ _ _ _ _; rotate_left)))
noncomputable def cut_pureC : Con := .pure fun
  | [.str s, .str [c]] => ((s.length ≤ 1048576), .tup [.str (cut1 s c), .str (cut2 s c), .bool (decide (0 ≤ Go.Lib.indexByte s c))])
  | _ => (False, .any)
attribute [go_sem] cut_pureC
theorem cut_pureC_ok : ConOk Try.prog 73 cut_pureC := by
  refine ⟨callable Try.func73 (by decide) rfl, fun args h => ?_⟩
  revert h
  dsimp only
  split
  · intro h
    have hl := h
    skip
    exact ⟨cut_pure _ _ hl, by simp [go_sem]⟩
  · intro h
    exact h.elim
noncomputable def Γp5 : FuncId → Con := ext Γp4 73 cut_pureC
attribute [go_sem] Γp5
theorem Γp5_ok : ∀ g, ConOk Try.prog g (Γp5 g) := ext_ok Γp4_ok cut_pureC_ok

/-- Whether a text ends with the byte c. -/
def hasS (s : List UInt8) (c : UInt8) : Bool := decide (1 ≤ s.length ∧ s.drop (s.length - 1) = [c])
def trimB (s : List UInt8) (c : UInt8) : List UInt8 := if hasS s c = true then s.take (s.length - 1) else s
theorem hasSuffix_pure (s : List UInt8) (c : UInt8) (hl : s.length ≤ 1048576) : Pure Try.prog 95 [.str s, .str [c]] (.bool (hasS s c)) := by
  refine Pure.of_walk Try.func95 rfl (by simp [Try.f95]) (by simp [-List.drop_one, go_sem]) fun B hK => ?_
  by_cases h1 : 1 ≤ s.length
  all_goals (repeat' (first
    | refine AW_seq ?_
    | refine AW_region (id := 0) Γp5_ok [] (by kernel_rfl) ?_; simp  [-List.getD_eq_getElem?_getD, -List.drop_one, ↓splitB_true, ↓splitB_false, go_sem]
    | refine AW_region (id := 1) Γp5_ok [10] (by kernel_rfl) ?_; simp  [-List.getD_eq_getElem?_getD, -List.drop_one, ↓splitB_true, ↓splitB_false, go_sem, h1, (show (1 : Int) ≤ s.length by omega), (show (s.length : Int) - 1 ≤ s.length by omega), (show (0 : Int) ≤ (s.length : Int) - 1 by omega), wrap_in (x := (s.length : Int) - 1) (by omega) (by omega), (show ((s.length : Int) - 1).toNat = s.length - 1 by omega), (show ((s.length : Int) - ((s.length : Int) - 1)).toNat = 1 by omega), (show (s.drop (s.length - 1)).take 1 = s.drop (s.length - 1) from List.take_of_length_le (by simp; omega))]; try (refine ⟨fun s1a => ?_, fun s1a => ?_⟩ <;> (try simp [B_iff, B_not] at s1a) <;> try (refine ⟨fun s1b => ?_, fun s1b => ?_⟩ <;> (try simp [B_iff, B_not] at s1b)))
    | refine AW_region (id := 1) Γp5_ok [10] (by kernel_rfl) ?_; simp  [-List.getD_eq_getElem?_getD, -List.drop_one, ↓splitB_true, ↓splitB_false, go_sem, h1, (show ¬ (1 : Int) ≤ s.length by omega)]; try (refine ⟨fun s1a => ?_, fun s1a => ?_⟩ <;> (try simp [B_iff, B_not] at s1a) <;> try (refine ⟨fun s1b => ?_, fun s1b => ?_⟩ <;> (try simp [B_iff, B_not] at s1b)))
    | (refine AW_block ?_)
    | (refine AW_exit ?_; simp [-List.getD_eq_getElem?_getD, -List.drop_one, ↓splitB_true, ↓splitB_false, go_sem])
    | (refine AW_skip ?_; simp [-List.getD_eq_getElem?_getD, -List.drop_one, ↓splitB_true, ↓splitB_false, go_sem])
    | (refine AW_ret ?_; simp [-List.getD_eq_getElem?_getD, -List.drop_one, ↓splitB_true, ↓splitB_false, go_sem, Try.results95])
    | (intro hx; change AW _ _ _ _ _ _)
    | (refine ⟨?_, ?_⟩ <;> change AW _ _ _ _ _ _)
    | (intro hx; refine ⟨fun hs => ?_, fun hs => ?_⟩)
    | (refine ⟨fun hs => ?_, fun hs => ?_⟩)
    | (refine ⟨?_, fun hs => ?_⟩; change AW _ _ _ _ _ _)
    | (refine ⟨fun hs => ?_, ?_⟩; rotate_left; change AW _ _ _ _ _ _; rotate_left)))
  all_goals (first
    | (simp [hasS, h1]; done)
    | skip)
noncomputable def hasSuffix_pureC : Con := .pure fun
  | [.str s, .str [c]] => ((s.length ≤ 1048576), .bool (hasS s c))
  | _ => (False, .any)
attribute [go_sem] hasSuffix_pureC
theorem hasSuffix_pureC_ok : ConOk Try.prog 95 hasSuffix_pureC := by
  refine ⟨callable Try.func95 (by decide) rfl, fun args h => ?_⟩
  revert h
  dsimp only
  split
  · intro h
    have hl := h
    skip
    exact ⟨hasSuffix_pure _ _ hl, by simp [go_sem]⟩
  · intro h
    exact h.elim
noncomputable def Γp6 : FuncId → Con := ext Γp5 95 hasSuffix_pureC
attribute [go_sem] Γp6
theorem Γp6_ok : ∀ g, ConOk Try.prog g (Γp6 g) := ext_ok Γp5_ok hasSuffix_pureC_ok

theorem trimLite_pure (s : List UInt8) (c : UInt8) (hl : s.length ≤ 1048576) : Pure Try.prog 89 [.str s, .str [c]] (.str (trimB s c)) := by
  refine Pure.of_walk Try.func89 rfl (by simp [Try.f89]) (by simp [-List.drop_one, go_sem]) fun B hK => ?_
  cases hs : hasS s c
  all_goals (repeat' (first
    | refine AW_seq ?_
    | refine AW_region (id := 0) Γp6_ok [] (by kernel_rfl) ?_; simp  [-List.getD_eq_getElem?_getD, -List.drop_one, ↓splitB_true, ↓splitB_false, go_sem]
    | refine AW_region (id := 1) Γp6_ok [] (by kernel_rfl) ?_; simp  [-List.getD_eq_getElem?_getD, -List.drop_one, ↓splitB_true, ↓splitB_false, go_sem, hl, hs]
    | (have h1 : 1 ≤ s.length := (by simp only [hasS, decide_eq_true_eq] at hs; exact hs.1)); refine AW_region (id := 2) Γp6_ok [] (by kernel_rfl) ?_; simp  [-List.getD_eq_getElem?_getD, -List.drop_one, ↓splitB_true, ↓splitB_false, go_sem, hl, (show (1 : Int) ≤ s.length by omega), (show (s.length : Int) - 1 ≤ s.length by omega), (show (0 : Int) ≤ (s.length : Int) - 1 by omega), wrap_in (x := (s.length : Int) - 1) (by omega) (by omega), (show ((s.length : Int) - 1).toNat = s.length - 1 by omega)]
    | refine AW_region (id := 3) Γp6_ok [] (by kernel_rfl) ?_; simp  [-List.getD_eq_getElem?_getD, -List.drop_one, ↓splitB_true, ↓splitB_false, go_sem]
    | refine AW_condA (c := .tmp 7) ?_; simp [-List.getD_eq_getElem?_getD, -List.drop_one, ↓splitB_true, ↓splitB_false, go_sem]; try first | (refine ⟨?_, ?_⟩ <;> change AW _ _ _ _ _ _) | (refine ⟨fun c7 => ?_, fun c7 => ?_⟩ <;> (try simp [B_iff, B_not] at c7))
    | (refine AW_block ?_)
    | (refine AW_exit ?_; simp [-List.getD_eq_getElem?_getD, -List.drop_one, ↓splitB_true, ↓splitB_false, go_sem])
    | (refine AW_skip ?_; simp [-List.getD_eq_getElem?_getD, -List.drop_one, ↓splitB_true, ↓splitB_false, go_sem])
    | (refine AW_ret ?_; simp [-List.getD_eq_getElem?_getD, -List.drop_one, ↓splitB_true, ↓splitB_false, go_sem, Try.results89])
    | (intro hx; change AW _ _ _ _ _ _)
    | (refine ⟨?_, ?_⟩ <;> change AW _ _ _ _ _ _)
    | (intro hx; refine ⟨fun hs => ?_, fun hs => ?_⟩)
    | (refine ⟨fun hs => ?_, fun hs => ?_⟩)
    | (refine ⟨?_, fun hs => ?_⟩; change AW _ _ _ _ _ _)
    | (refine ⟨fun hs => ?_, ?_⟩; rotate_left; change AW _ _ _ _ _ _; rotate_left)))
  all_goals (first
    | (simp [trimB, hs]; done)
    | skip)
noncomputable def trimLite_pureC : Con := .pure fun
  | [.str s, .str [c]] => ((s.length ≤ 1048576), .str (trimB s c))
  | _ => (False, .any)
attribute [go_sem] trimLite_pureC
theorem trimLite_pureC_ok : ConOk Try.prog 89 trimLite_pureC := by
  refine ⟨callable Try.func89 (by decide) rfl, fun args h => ?_⟩
  revert h
  dsimp only
  split
  · intro h
    have hl := h
    skip
    exact ⟨trimLite_pure _ _ hl, by simp [go_sem]⟩
  · intro h
    exact h.elim
noncomputable def Γp7 : FuncId → Con := ext Γp6 89 trimLite_pureC
attribute [go_sem] Γp7
theorem Γp7_ok : ∀ g, ConOk Try.prog g (Γp7 g) := ext_ok Γp6_ok trimLite_pureC_ok

theorem trim_pure (s : List UInt8) (c : UInt8) (hl : s.length ≤ 1048576) : Pure Try.prog 75 [.str s, .str [c]] (.str (trimB s c)) := by
  refine Pure.of_walk Try.func75 rfl (by simp [Try.f75]) (by simp [-List.drop_one, go_sem]) fun B hK => ?_
  (repeat' (first
    | refine AW_seq ?_
    | refine AW_region (id := 0) Γp7_ok [] (by kernel_rfl) ?_; simp  [-List.getD_eq_getElem?_getD, -List.drop_one, ↓splitB_true, ↓splitB_false, go_sem]
    | refine AW_region (id := 1) Γp7_ok [] (by kernel_rfl) ?_; simp  [-List.getD_eq_getElem?_getD, -List.drop_one, ↓splitB_true, ↓splitB_false, go_sem, hl]
    | (refine AW_block ?_)
    | (refine AW_exit ?_; simp [-List.getD_eq_getElem?_getD, -List.drop_one, ↓splitB_true, ↓splitB_false, go_sem])
    | (refine AW_skip ?_; simp [-List.getD_eq_getElem?_getD, -List.drop_one, ↓splitB_true, ↓splitB_false, go_sem])
    | (refine AW_ret ?_; simp [-List.getD_eq_getElem?_getD, -List.drop_one, ↓splitB_true, ↓splitB_false, go_sem, Try.results75])
    | (intro hx; change AW _ _ _ _ _ _)
    | (refine ⟨?_, ?_⟩ <;> change AW _ _ _ _ _ _)
    | (intro hx; refine ⟨fun hs => ?_, fun hs => ?_⟩)
    | (refine ⟨fun hs => ?_, fun hs => ?_⟩)
    | (refine ⟨?_, fun hs => ?_⟩; change AW _ _ _ _ _ _)
    | (refine ⟨fun hs => ?_, ?_⟩; rotate_left; change AW _ _ _ _ _ _; rotate_left)))
noncomputable def trim_pureC : Con := .pure fun
  | [.str s, .str [c]] => ((s.length ≤ 1048576), .str (trimB s c))
  | _ => (False, .any)
attribute [go_sem] trim_pureC
theorem trim_pureC_ok : ConOk Try.prog 75 trim_pureC := by
  refine ⟨callable Try.func75 (by decide) rfl, fun args h => ?_⟩
  revert h
  dsimp only
  split
  · intro h
    have hl := h
    skip
    exact ⟨trim_pure _ _ hl, by simp [go_sem]⟩
  · intro h
    exact h.elim
noncomputable def Γp8 : FuncId → Con := ext Γp7 75 trim_pureC
attribute [go_sem] Γp8
theorem Γp8_ok : ∀ g, ConOk Try.prog g (Γp8 g) := ext_ok Γp7_ok trim_pureC_ok

/-- A digit, or -1. -/
def smallB (b : UInt8) : Int := if 48 ≤ b.toNat ∧ b.toNat ≤ 57 then b.toNat - 48 else -1
theorem byte_lt2 (x : UInt8) : x.toNat < 256 := x.toNat_lt
theorem small_pure (b : UInt8)  : Pure Try.prog 88 [.str [b]] (.int .i64 (smallB b)) := by
  refine Pure.of_walk Try.func88 rfl (by simp [Try.f88]) (by simp [-List.drop_one, go_sem]) fun B hK => ?_
  have hb := byte_lt2 b; by_cases h1 : b.toNat < 48 <;> by_cases h2 : 57 < b.toNat
  all_goals (repeat' (first
    | refine AW_seq ?_
    | refine AW_region (id := 0) Γp8_ok [] (by kernel_rfl) ?_; simp  [-List.getD_eq_getElem?_getD, -List.drop_one, ↓splitB_true, ↓splitB_false, go_sem]
    | refine AW_region (id := 1) Γp8_ok [6, 11] (by kernel_rfl) ?_; simp  [-List.getD_eq_getElem?_getD, -List.drop_one, ↓splitB_true, ↓splitB_false, go_sem, h1, h2]; try (refine ⟨fun s1a => ?_, fun s1a => ?_⟩ <;> (try simp [B_iff, B_not] at s1a) <;> try (refine ⟨fun s1b => ?_, fun s1b => ?_⟩ <;> (try simp [B_iff, B_not] at s1b) <;> try (refine ⟨fun s1c => ?_, fun s1c => ?_⟩ <;> (try simp [B_iff, B_not] at s1c))))
    | refine AW_region (id := 2) Γp8_ok [] (by kernel_rfl) ?_; simp  [-List.getD_eq_getElem?_getD, -List.drop_one, ↓splitB_true, ↓splitB_false, go_sem]
    | refine AW_region (id := 3) Γp8_ok [] (by kernel_rfl) ?_; simp  [-List.getD_eq_getElem?_getD, -List.drop_one, ↓splitB_true, ↓splitB_false, go_sem, (show IntKind.u8.wrap ((b.toNat : Int) - 48) = (b.toNat : Int) - 48 by rw [IntKind.wrap_u8]; omega), wrap_in (x := (b.toNat : Int) - 48) (by omega) (by omega)]
    | refine AW_condA (c := .tmp 15) ?_; simp [-List.getD_eq_getElem?_getD, -List.drop_one, ↓splitB_true, ↓splitB_false, go_sem]; try first | (refine ⟨?_, ?_⟩ <;> change AW _ _ _ _ _ _) | (refine ⟨fun c15 => ?_, fun c15 => ?_⟩ <;> (try simp [B_iff, B_not] at c15))
    | (refine AW_block ?_)
    | (refine AW_exit ?_; simp [-List.getD_eq_getElem?_getD, -List.drop_one, ↓splitB_true, ↓splitB_false, go_sem])
    | (refine AW_skip ?_; simp [-List.getD_eq_getElem?_getD, -List.drop_one, ↓splitB_true, ↓splitB_false, go_sem])
    | (refine AW_ret ?_; simp [-List.getD_eq_getElem?_getD, -List.drop_one, ↓splitB_true, ↓splitB_false, go_sem, Try.results88])
    | (intro hx; change AW _ _ _ _ _ _)
    | (refine ⟨?_, ?_⟩ <;> change AW _ _ _ _ _ _)
    | (intro hx; refine ⟨fun hs => ?_, fun hs => ?_⟩)
    | (refine ⟨fun hs => ?_, fun hs => ?_⟩)
    | (refine ⟨?_, fun hs => ?_⟩; change AW _ _ _ _ _ _)
    | (refine ⟨fun hs => ?_, ?_⟩; rotate_left; change AW _ _ _ _ _ _; rotate_left)))
  all_goals (first
    | (simp [smallB, h1, h2]; done)
    | (simp only [smallB]; rw [if_pos (by omega)]; done)
    | (simp only [smallB]; rw [if_neg (by omega)]; done)
    | skip)
noncomputable def small_pureC : Con := .pure fun
  | [.str [b]] => (True, .int .i64 (smallB b))
  | _ => (False, .any)
attribute [go_sem] small_pureC
theorem small_pureC_ok : ConOk Try.prog 88 small_pureC := by
  refine ⟨callable Try.func88 (by decide) rfl, fun args h => ?_⟩
  revert h
  dsimp only
  split
  · intro h
    skip
    skip
    exact ⟨small_pure _, by simp [go_sem]⟩
  · intro h
    exact h.elim
noncomputable def Γp9 : FuncId → Con := ext Γp8 88 small_pureC
attribute [go_sem] Γp9
theorem Γp9_ok : ∀ g, ConOk Try.prog g (Γp9 g) := ext_ok Γp8_ok small_pureC_ok
end Go.Proofs.Ytlbbhkpjjciaiaa.Vm

