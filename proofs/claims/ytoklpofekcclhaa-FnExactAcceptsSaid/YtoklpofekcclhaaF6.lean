/-
  Lists joined; traces. No conditions.
-/
import Derived.Test.YtoklpofekcclhaaF5
namespace Go.Proofs.Ytoklpofekcclhaa.Vm
open Go
set_option linter.unusedVariables false
set_option linter.unusedSimpArgs false
set_option maxRecDepth 200000

theorem grow_spec (n : Int) (H : Hp) (h0 : 0 ≤ n) (h1 : n ≤ 1048576) : Spec Try.prog 207 [.nil, .int .i64 n] H (.fr 1 0 []) H := by
  refine Spec.of_walk Try.func207 rfl (by simp [Try.f207]) fun B => ?_
  (repeat' (first
    | refine AW_seq ?_
    | refine AW_region (id := 0) Γ45_ok [] (by kernel_rfl) ?_; simp  [-List.getD_eq_getElem?_getD, -List.drop_one, ↓splitB_true, ↓splitB_false, go_sem]
    | refine AW_region (id := 1) Γ45_ok [] (by kernel_rfl) ?_; simp  [-List.getD_eq_getElem?_getD, -List.drop_one, ↓splitB_true, ↓splitB_false, go_sem]
    | refine AW_region (id := 2) Γ45_ok [] (by kernel_rfl) ?_; simp  [-List.getD_eq_getElem?_getD, -List.drop_one, ↓splitB_true, ↓splitB_false, go_sem]
    | refine AW_region (id := 3) Γ45_ok [] (by kernel_rfl) ?_; simp  [-List.getD_eq_getElem?_getD, -List.drop_one, ↓splitB_true, ↓splitB_false, go_sem, (by decide : IntKind.i64.wrap 0 = 0), wrap_in (x := n) (by omega) (by omega)]
    | refine AW_region (id := 4) Γ45_ok [] (by kernel_rfl) ?_; simp  [-List.getD_eq_getElem?_getD, -List.drop_one, ↓splitB_true, ↓splitB_false, go_sem]
    | refine AW_region (id := 5) Γ45_ok [] (by kernel_rfl) ?_; simp  [-List.getD_eq_getElem?_getD, -List.drop_one, ↓splitB_true, ↓splitB_false, go_sem, (by omega : (1 : Int) ≤ n), (by omega : n ≤ 9223372036854775807), (by omega : n.toNat * 8 ≤ 281474976710656), (by omega : 0 ≤ n), (by omega : (0 : Int) ≤ max n 0)]
    | (first | refine AW_nilfr 0 1 rfl ?_ | skip); refine AW_region (id := 6) Γ45_ok [] (by kernel_rfl) ?_; simp  [-List.getD_eq_getElem?_getD, -List.drop_one, ↓splitB_true, ↓splitB_false, go_sem]
    | refine AW_condA (c := .tmp 6) ?_; simp [-List.getD_eq_getElem?_getD, -List.drop_one, ↓splitB_true, ↓splitB_false, go_sem]; try first | (refine ⟨?_, ?_⟩ <;> change AW _ _ _ _ _ _) | (refine ⟨fun c6 => ?_, fun c6 => ?_⟩ <;> (try simp [B_iff, B_not] at c6))
    | refine AW_condA (c := .tmp 16) ?_; simp [-List.getD_eq_getElem?_getD, -List.drop_one, ↓splitB_true, ↓splitB_false, go_sem]; try first | (refine ⟨?_, ?_⟩ <;> change AW _ _ _ _ _ _) | (refine ⟨fun c16 => ?_, fun c16 => ?_⟩ <;> (try simp [B_iff, B_not] at c16))
    | (refine AW_block ?_)
    | (refine AW_exit ?_; simp [-List.getD_eq_getElem?_getD, -List.drop_one, ↓splitB_true, ↓splitB_false, go_sem])
    | (refine AW_skip ?_; simp [-List.getD_eq_getElem?_getD, -List.drop_one, ↓splitB_true, ↓splitB_false, go_sem])
    | (refine AW_ret ?_; simp [-List.getD_eq_getElem?_getD, -List.drop_one, ↓splitB_true, ↓splitB_false, go_sem, Try.results207])
    | (intro hx; change AW _ _ _ _ _ _)
    | (refine ⟨?_, ?_⟩ <;> change AW _ _ _ _ _ _)
    | (intro hx; refine ⟨fun hs => ?_, fun hs => ?_⟩)
    | (refine ⟨fun hs => ?_, fun hs => ?_⟩)
    | (refine ⟨?_, fun hs => ?_⟩; change AW _ _ _ _ _ _)
    | (refine ⟨fun hs => ?_, ?_⟩; rotate_left; change AW _ _ _ _ _ _; rotate_left)
    | (exfalso; omega)))
def growC : Con := .gen fun args H => match args with
  | [.nil, .int .i64 n] => (0 ≤ n ∧ n ≤ 1048576, .fr 1 0 [], H)
  | _ => (False, .any, H)
attribute [go_sem] growC
theorem growC_ok : ConOk Try.prog 207 growC := by
  refine ⟨callable Try.func207 (by decide) rfl, fun args H h => ?_⟩
  revert h
  dsimp only
  split
  · rintro ⟨h0, h1⟩
    exact grow_spec _ H h0 h1
  · intro h
    exact h.elim
noncomputable def Γ46 : FuncId → Con := ext Γ45 207 growC
attribute [go_sem] Γ46
theorem Γ46_ok : ∀ g, ConOk Try.prog g (Γ46 g) := ext_ok Γ45_ok growC_ok

theorem flat_succ {xss : List (List Int)} {k : Nat} (h : k < xss.length) : (xss.take (k + 1)).flatten = (xss.take k).flatten ++ nth xss k := by
  rw [List.take_succ_eq_append_getElem h, List.flatten_append, nth_lt h]; simp
theorem msum_flat (xss : List (List Int)) (k : Nat) : msum mL xss k = ((xss.take k).flatten).length := by
  simp [msum, List.length_flatten]; rfl
@[go_sem] theorem makeD_two (x : D) : makeD [x] 2 = [x, x] := by rw [makeD_one]; rfl
@[go_sem] theorem is_two (a b : List Int) {n m : Nat} (h1 : n = a.length) (h2 : m = b.length) : Is cL 2 [.list n (cat cI a), .list m (cat cI b)] = True := by subst h1 h2; exact eq_true ⟨[a, b], rfl, rfl⟩
@[go_sem] theorem de_two (a b : List Int) {n m : Nat} (h1 : n = a.length) (h2 : m = b.length) : de cL [.list n (cat cI a), .list m (cat cI b)] = [a, b] := by
  subst h1 h2
  have := de_cat (f := cL) [a, b]; exact this

theorem concat_pure (xss : List (List Int)) (h0 : xss.flatten.length ≤ 1048576) : Pure Try.prog 192 [li cL xss] (fr 1 cI xss.flatten) := by
  refine Pure.of_walk Try.func192 rfl (by simp [Try.f192]) (by simp [-List.drop_one, go_sem]) fun B hK => ?_
  (repeat' (first
    | refine AW_seq ?_
    | refine AW_region (id := 0) Γ46_ok [] (by kernel_rfl) ?_; simp  [-List.getD_eq_getElem?_getD, -List.drop_one, ↓splitB_true, ↓splitB_false, go_sem]
    | refine AW_region (id := 1) Γ46_ok [] (by kernel_rfl) ?_; simp  [-List.getD_eq_getElem?_getD, -List.drop_one, ↓splitB_true, ↓splitB_false, go_sem]
    | (refine AW_len 0 rfl fun hm => ?_; have ht := msum_flat xss xss.length; (rw [List.take_length] at ht)); refine AW_region (id := 2) Γ46_ok [] (by kernel_rfl) ?_; simp  [-List.getD_eq_getElem?_getD, -List.drop_one, ↓splitB_true, ↓splitB_false, go_sem]
    | refine AW_region (id := 3) Γ46_ok [] (by kernel_rfl) ?_; simp  [-List.getD_eq_getElem?_getD, -List.drop_one, ↓splitB_true, ↓splitB_false, go_sem]
    | refine AW_region (id := 4) Γ46_ok [] (by kernel_rfl) ?_; simp  [-List.getD_eq_getElem?_getD, -List.drop_one, ↓splitB_true, ↓splitB_false, go_sem, c12, ne_nil c12, Nat.sub_pos_of_lt c12]
    | (have hs := msum_succ (m := mL) c12; have hmm := msum_mono (m := mL) (xs := xss) (show k + 1 ≤ xss.length from c12); (simp only [mL] at hs)); refine AW_region (id := 5) Γ46_ok [] (by kernel_rfl) ?_; simp  [-List.getD_eq_getElem?_getD, -List.drop_one, ↓splitB_true, ↓splitB_false, go_sem, wrap_in (x := (msum mL xss k : Int) + ((nth xss k).length : Int)) (by omega) (by omega)]
    | refine AW_region (id := 6) Γ46_ok [] (by kernel_rfl) ?_; simp  [-List.getD_eq_getElem?_getD, -List.drop_one, ↓splitB_true, ↓splitB_false, go_sem]
    | refine AW_region (id := 7) Γ46_ok [] (by kernel_rfl) ?_; simp  [-List.getD_eq_getElem?_getD, -List.drop_one, ↓splitB_true, ↓splitB_false, go_sem]
    | refine AW_region (id := 8) Γ46_ok [] (by kernel_rfl) ?_; simp  [-List.getD_eq_getElem?_getD, -List.drop_one, ↓splitB_true, ↓splitB_false, go_sem, wrapS (k := k) (by omega)]
    | (have hmm := msum_mono (m := mL) (xs := xss) hk); refine AW_region (id := 9) Γ46_ok [] (by kernel_rfl) ?_; simp  [-List.getD_eq_getElem?_getD, -List.drop_one, ↓splitB_true, ↓splitB_false, go_sem, (by omega : (0 : Int) ≤ (msum mL xss k : Int)), (by omega : (msum mL xss k : Int) ≤ 1048576)]
    | refine AW_region (id := 10) Γ46_ok [] (by kernel_rfl) ?_; simp  [-List.getD_eq_getElem?_getD, -List.drop_one, ↓splitB_true, ↓splitB_false, go_sem]
    | refine AW_region (id := 11) Γ46_ok [] (by kernel_rfl) ?_; simp  [-List.getD_eq_getElem?_getD, -List.drop_one, ↓splitB_true, ↓splitB_false, go_sem]
    | refine AW_region (id := 12) Γ46_ok [] (by kernel_rfl) ?_; simp  [-List.getD_eq_getElem?_getD, -List.drop_one, ↓splitB_true, ↓splitB_false, go_sem, c28, ne_nil c28, Nat.sub_pos_of_lt c28]
    | (have hs := msum_succ (m := mL) c28; have hmm := msum_mono (m := mL) (xs := xss) (show i + 1 ≤ xss.length from c28); (simp only [mL] at hs)); refine AW_region (id := 13) Γ46_ok [] (by kernel_rfl) ?_; simp  [-List.getD_eq_getElem?_getD, -List.drop_one, ↓splitB_true, ↓splitB_false, go_sem, (by omega : msum mL xss i + (nth xss i).length ≤ 9223372036854775807), (by omega : 2 * (msum mL xss i + (nth xss i).length) * 8 ≤ 281474976710656)]
    | refine AW_region (id := 14) Γ46_ok [] (by kernel_rfl) ?_; simp  [-List.getD_eq_getElem?_getD, -List.drop_one, ↓splitB_true, ↓splitB_false, go_sem, wrapS (k := i) (by omega)]
    | refine AW_region (id := 15) Γ46_ok [] (by kernel_rfl) ?_; simp  [-List.getD_eq_getElem?_getD, -List.drop_one, ↓splitB_true, ↓splitB_false, go_sem]
    | refine AW_condA (c := .tmp 12) ?_; simp [-List.getD_eq_getElem?_getD, -List.drop_one, ↓splitB_true, ↓splitB_false, go_sem]; try first | (refine ⟨?_, ?_⟩ <;> change AW _ _ _ _ _ _) | (refine ⟨fun c12 => ?_, fun c12 => ?_⟩ <;> (try simp [B_iff, B_not] at c12))
    | refine AW_condA (c := .tmp 20) ?_; simp [-List.getD_eq_getElem?_getD, -List.drop_one, ↓splitB_true, ↓splitB_false, go_sem]; try first | (refine ⟨?_, ?_⟩ <;> change AW _ _ _ _ _ _) | (refine ⟨fun c20 => ?_, fun c20 => ?_⟩ <;> (try simp [B_iff, B_not] at c20))
    | refine AW_condA (c := .tmp 28) ?_; simp [-List.getD_eq_getElem?_getD, -List.drop_one, ↓splitB_true, ↓splitB_false, go_sem]; try first | (refine ⟨?_, ?_⟩ <;> change AW _ _ _ _ _ _) | (refine ⟨fun c28 => ?_, fun c28 => ?_⟩ <;> (try simp [B_iff, B_not] at c28))
    | (refine AW_block (id := 0) (AW_loop (ι := Nat) (fun k : Nat => ⟨(upd (upd (upd (upd (upd (fun _ => .any) 0 (li cL xss)) 3 (.int .i64 (msum mL xss k))) 9 (li cL xss)) 10 (.int .i64 xss.length)) 11 (.int .i64 k)), fun _ => none⟩) (fun k => k ≤ xss.length) (fun k => xss.length - k) (0) ?_ ?_ ?_); exact Nat.zero_le _; ((repeat' (first | exact sub_noneH (by assumption) | exact sub_none | refine sub_upd ?_ ?_ | refine sub_noneE ?_)) <;> simp [-List.getD_eq_getElem?_getD, -List.drop_one, ↓splitB_true, ↓splitB_false, go_sem]); rintro k hk)
    | (refine ⟨k + 1, by omega, by first | omega | (simp; done) | (simp; omega), ?_⟩; ((repeat' (first | exact sub_noneH (by assumption) | exact sub_none | refine sub_upd ?_ ?_ | refine sub_noneE ?_)) <;> simp [-List.getD_eq_getElem?_getD, -List.drop_one, ↓splitB_true, ↓splitB_false, go_sem, msum_succ c12, mL]))
    | (refine AW_block (id := 2) (AW_loop (ι := Nat) (fun i : Nat => ⟨(upd (upd (upd (upd (fun _ => .any) 6 (.fr 1 (msum mL xss i) (cat cI (xss.take i).flatten))) 25 (li cL xss)) 26 (.int .i64 xss.length)) 27 (.int .i64 i)), fun _ => none⟩) (fun i => i ≤ xss.length) (fun i => xss.length - i) (0) ?_ ?_ ?_); exact Nat.zero_le _; ((repeat' (first | exact sub_noneH (by assumption) | exact sub_none | refine sub_upd ?_ ?_ | refine sub_noneE ?_)) <;> simp [-List.getD_eq_getElem?_getD, -List.drop_one, ↓splitB_true, ↓splitB_false, go_sem]); rintro i hi)
    | (refine ⟨i + 1, by omega, by first | omega | (simp; done) | (simp; omega), ?_⟩; ((repeat' (first | exact sub_noneH (by assumption) | exact sub_none | refine sub_upd ?_ ?_ | refine sub_noneE ?_)) <;> simp [-List.getD_eq_getElem?_getD, -List.drop_one, ↓splitB_true, ↓splitB_false, go_sem, msum_succ c28, mL, flat_succ c28, cat_append]))
    | (refine AW_block ?_)
    | (refine AW_exit ?_; simp [-List.getD_eq_getElem?_getD, -List.drop_one, ↓splitB_true, ↓splitB_false, go_sem])
    | (refine AW_skip ?_; simp [-List.getD_eq_getElem?_getD, -List.drop_one, ↓splitB_true, ↓splitB_false, go_sem])
    | (refine AW_ret ?_; simp [-List.getD_eq_getElem?_getD, -List.drop_one, ↓splitB_true, ↓splitB_false, go_sem, Try.results192])
    | (intro hx; change AW _ _ _ _ _ _)
    | (refine ⟨?_, ?_⟩ <;> change AW _ _ _ _ _ _)
    | (intro hx; refine ⟨fun hs => ?_, fun hs => ?_⟩)
    | (refine ⟨fun hs => ?_, fun hs => ?_⟩)
    | (refine ⟨?_, fun hs => ?_⟩; change AW _ _ _ _ _ _)
    | (refine ⟨fun hs => ?_, ?_⟩; rotate_left; change AW _ _ _ _ _ _; rotate_left)
    | (exfalso; omega)))
  all_goals (first
    | (obtain rfl : i = xss.length := (by omega); rw [List.take_length]; exact ⟨by rw [ht, List.length_flatten], rfl⟩)
    | skip)
noncomputable def concat_pureC : Con := .pure fun
  | [.list n_xss c_xss] => ((Is cL n_xss c_xss) ∧ ((de cL c_xss).flatten.length ≤ 1048576), fr 1 cI (de cL c_xss).flatten)
  | _ => (False, .any)
attribute [go_sem] concat_pureC
theorem concat_pureC_ok : ConOk Try.prog 192 concat_pureC := by
  refine ⟨callable Try.func192 (by decide) rfl, fun args h => ?_⟩
  revert h
  dsimp only
  split
  · intro h
    obtain ⟨⟨xss, rfl, rfl⟩, h0⟩ := h
    try simp only [de_cat] at *
    exact ⟨concat_pure xss h0, by simp [go_sem]⟩
  · intro h
    exact h.elim
noncomputable def Γ47 : FuncId → Con := ext Γ46 192 concat_pureC
attribute [go_sem] Γ47
theorem Γ47_ok : ∀ g, ConOk Try.prog g (Γ47 g) := ext_ok Γ46_ok concat_pureC_ok

noncomputable def Γ48 : FuncId → Con := Γ47
attribute [go_sem] Γ48
theorem Γ48_ok : ∀ g, ConOk Try.prog g (Γ48 g) := Γ47_ok

end Go.Proofs.Ytoklpofekcclhaa.Vm

