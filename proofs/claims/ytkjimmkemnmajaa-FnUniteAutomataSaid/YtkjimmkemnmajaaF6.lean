/-
  Lists joined; traces. No conditions.
-/
import Derived.Test.YtkjimmkemnmajaaF5
namespace Go.Proofs.Ytkjimmkemnmajaa.Vm
open Go
open List renaming getD_eq_getElem?_getD → zgE, drop_one → zdO
set_option linter.unusedVariables false
set_option linter.unusedSimpArgs false
set_option maxRecDepth 200000

theorem grow_spec (n : Int) (H : Hp) (h0 : 0 ≤ n) (h1 : n ≤ 1048576) : Spec Try.prog 194 [.nil, .int .i64 n] H (.fr 1 0 []) H := by
  refine Spec.of_walk Try.func194 rfl (by simp [Try.f194]) fun B => ?_
  (repeat' (first
    | refine AW_seq ?_
    | refine zaac (id := 0) Γ45_ok [] (by kernel_rfl) ?_; simp  [-zgE, -zdO, ↓zaab, ↓zaaa, go_sem]
    | refine zaac (id := 1) Γ45_ok [] (by kernel_rfl) ?_; simp  [-zgE, -zdO, ↓zaab, ↓zaaa, go_sem]
    | refine zaac (id := 2) Γ45_ok [] (by kernel_rfl) ?_; simp  [-zgE, -zdO, ↓zaab, ↓zaaa, go_sem]
    | refine zaac (id := 3) Γ45_ok [] (by kernel_rfl) ?_; simp  [-zgE, -zdO, ↓zaab, ↓zaaa, go_sem, (by decide : IntKind.i64.wrap 0 = 0), zaan (x := n) (by omega) (by omega)]
    | refine zaac (id := 4) Γ45_ok [] (by kernel_rfl) ?_; simp  [-zgE, -zdO, ↓zaab, ↓zaaa, go_sem]
    | refine zaac (id := 5) Γ45_ok [] (by kernel_rfl) ?_; simp  [-zgE, -zdO, ↓zaab, ↓zaaa, go_sem, (by omega : (1 : Int) ≤ n), (by omega : n ≤ 9223372036854775807), (by omega : n.toNat * 8 ≤ 281474976710656), (by omega : 0 ≤ n), (by omega : (0 : Int) ≤ max n 0)]
    | (first | refine AW_nilfr 0 1 rfl ?_ | skip); refine zaac (id := 6) Γ45_ok [] (by kernel_rfl) ?_; simp  [-zgE, -zdO, ↓zaab, ↓zaaa, go_sem]
    | refine zaad (c := .tmp 6) ?_; simp [-zgE, -zdO, ↓zaab, ↓zaaa, go_sem]; try first | (refine ⟨?_, ?_⟩ <;> change AW _ _ _ _ _ _) | (refine ⟨fun c6 => ?_, fun c6 => ?_⟩ <;> (try simp [B_iff, B_not] at c6))
    | refine zaad (c := .tmp 16) ?_; simp [-zgE, -zdO, ↓zaab, ↓zaaa, go_sem]; try first | (refine ⟨?_, ?_⟩ <;> change AW _ _ _ _ _ _) | (refine ⟨fun c16 => ?_, fun c16 => ?_⟩ <;> (try simp [B_iff, B_not] at c16))
    | (refine zaag ?_)
    | (refine zaap ?_; simp [-zgE, -zdO, ↓zaab, ↓zaaa, go_sem])
    | (refine zaao ?_; simp [-zgE, -zdO, ↓zaab, ↓zaaa, go_sem])
    | (refine AW_ret ?_; simp [-zgE, -zdO, ↓zaab, ↓zaaa, go_sem, Try.results194])
    | (intro hx; change AW _ _ _ _ _ _)
    | (refine ⟨?_, ?_⟩ <;> change AW _ _ _ _ _ _)
    | (intro hx; refine ⟨fun hs => ?_, fun hs => ?_⟩)
    | (refine ⟨fun hs => ?_, fun hs => ?_⟩)
    | (refine ⟨?_, fun hs => ?_⟩; change AW _ _ _ _ _ _)
    | (refine ⟨fun hs => ?_, ?_⟩; rotate_left; change AW _ _ _ _ _ _; rotate_left)
    | (exfalso; omega)))
def growC : Con := .gen fun args H => match args with
  | [.nil, .int .i64 n] => (0 ≤ n ∧ n ≤ 1048576, .fr 1 0 [], H)
  | _ => (False, .any, H)
attribute [go_sem] growC
theorem growC_ok : ConOk Try.prog 194 growC := by
  refine ⟨zaal Try.func194 (by decide) rfl, fun args H h => ?_⟩
  revert h
  dsimp only
  split
  · rintro ⟨h0, h1⟩
    exact grow_spec _ H h0 h1
  · intro h
    exact h.elim
noncomputable def Γ46 : FuncId → Con := ext Γ45 194 growC
attribute [go_sem] Γ46
theorem Γ46_ok : ∀ g, ConOk Try.prog g (Γ46 g) := zaaw Γ45_ok growC_ok

theorem flat_succ {xss : List (List Int)} {k : Nat} (h : k < xss.length) : (xss.take (k + 1)).flatten = (xss.take k).flatten ++ nth xss k := by
  rw [List.take_succ_eq_append_getElem h, List.flatten_append, nth_lt h]; simp
theorem msum_flat (xss : List (List Int)) (k : Nat) : msum mL xss k = ((xss.take k).flatten).length := by
  simp [msum, List.length_flatten]; rfl
@[go_sem] theorem makeD_two (x : D) : makeD [x] 2 = [x, x] := by rw [makeD_one]; rfl
@[go_sem] theorem is_two (a b : List Int) {n m : Nat} (h1 : n = a.length) (h2 : m = b.length) : Is cL 2 [.list n (cat cI a), .list m (cat cI b)] = True := by subst h1 h2; exact eq_true ⟨[a, b], rfl, rfl⟩
@[go_sem] theorem de_two (a b : List Int) {n m : Nat} (h1 : n = a.length) (h2 : m = b.length) : de cL [.list n (cat cI a), .list m (cat cI b)] = [a, b] := by
  subst h1 h2
  have := de_cat (f := cL) [a, b]; exact this

theorem concat_pure (xss : List (List Int)) (h0 : xss.flatten.length ≤ 1048576) : Pure Try.prog 143 [li cL xss] (fr 1 cI xss.flatten) := by
  refine Pure.of_walk Try.func143 rfl (by simp [Try.f143]) (by simp [-zdO, go_sem]) fun B hK => ?_
  (repeat' (first
    | refine AW_seq ?_
    | refine zaac (id := 0) Γ46_ok [] (by kernel_rfl) ?_; simp  [-zgE, -zdO, ↓zaab, ↓zaaa, go_sem]
    | refine zaac (id := 1) Γ46_ok [] (by kernel_rfl) ?_; simp  [-zgE, -zdO, ↓zaab, ↓zaaa, go_sem]
    | (refine AW_len 0 rfl fun hm => ?_; have ht := msum_flat xss xss.length; (rw [List.take_length] at ht)); refine zaac (id := 2) Γ46_ok [] (by kernel_rfl) ?_; simp  [-zgE, -zdO, ↓zaab, ↓zaaa, go_sem]
    | refine zaac (id := 3) Γ46_ok [] (by kernel_rfl) ?_; simp  [-zgE, -zdO, ↓zaab, ↓zaaa, go_sem]
    | refine zaac (id := 4) Γ46_ok [] (by kernel_rfl) ?_; simp  [-zgE, -zdO, ↓zaab, ↓zaaa, go_sem, c12, zaau c12, Nat.sub_pos_of_lt c12]
    | (have hs := msum_succ (m := mL) c12; have hmm := msum_mono (m := mL) (xs := xss) (show k + 1 ≤ xss.length from c12); (simp only [mL] at hs)); refine zaac (id := 5) Γ46_ok [] (by kernel_rfl) ?_; simp  [-zgE, -zdO, ↓zaab, ↓zaaa, go_sem, zaan (x := (msum mL xss k : Int) + ((nth xss k).length : Int)) (by omega) (by omega)]
    | refine zaac (id := 6) Γ46_ok [] (by kernel_rfl) ?_; simp  [-zgE, -zdO, ↓zaab, ↓zaaa, go_sem]
    | refine zaac (id := 7) Γ46_ok [] (by kernel_rfl) ?_; simp  [-zgE, -zdO, ↓zaab, ↓zaaa, go_sem]
    | refine zaac (id := 8) Γ46_ok [] (by kernel_rfl) ?_; simp  [-zgE, -zdO, ↓zaab, ↓zaaa, go_sem, wrapS (k := k) (by omega)]
    | (have hmm := msum_mono (m := mL) (xs := xss) hk); refine zaac (id := 9) Γ46_ok [] (by kernel_rfl) ?_; simp  [-zgE, -zdO, ↓zaab, ↓zaaa, go_sem, (by omega : (0 : Int) ≤ (msum mL xss k : Int)), (by omega : (msum mL xss k : Int) ≤ 1048576)]
    | refine zaac (id := 10) Γ46_ok [] (by kernel_rfl) ?_; simp  [-zgE, -zdO, ↓zaab, ↓zaaa, go_sem]
    | refine zaac (id := 11) Γ46_ok [] (by kernel_rfl) ?_; simp  [-zgE, -zdO, ↓zaab, ↓zaaa, go_sem]
    | refine zaac (id := 12) Γ46_ok [] (by kernel_rfl) ?_; simp  [-zgE, -zdO, ↓zaab, ↓zaaa, go_sem, c28, zaau c28, Nat.sub_pos_of_lt c28]
    | (have hs := msum_succ (m := mL) c28; have hmm := msum_mono (m := mL) (xs := xss) (show i + 1 ≤ xss.length from c28); (simp only [mL] at hs)); refine zaac (id := 13) Γ46_ok [] (by kernel_rfl) ?_; simp  [-zgE, -zdO, ↓zaab, ↓zaaa, go_sem, (by omega : msum mL xss i + (nth xss i).length ≤ 9223372036854775807), (by omega : 2 * (msum mL xss i + (nth xss i).length) * 8 ≤ 281474976710656)]
    | refine zaac (id := 14) Γ46_ok [] (by kernel_rfl) ?_; simp  [-zgE, -zdO, ↓zaab, ↓zaaa, go_sem, wrapS (k := i) (by omega)]
    | refine zaac (id := 15) Γ46_ok [] (by kernel_rfl) ?_; simp  [-zgE, -zdO, ↓zaab, ↓zaaa, go_sem]
    | refine zaad (c := .tmp 12) ?_; simp [-zgE, -zdO, ↓zaab, ↓zaaa, go_sem]; try first | (refine ⟨?_, ?_⟩ <;> change AW _ _ _ _ _ _) | (refine ⟨fun c12 => ?_, fun c12 => ?_⟩ <;> (try simp [B_iff, B_not] at c12))
    | refine zaad (c := .tmp 20) ?_; simp [-zgE, -zdO, ↓zaab, ↓zaaa, go_sem]; try first | (refine ⟨?_, ?_⟩ <;> change AW _ _ _ _ _ _) | (refine ⟨fun c20 => ?_, fun c20 => ?_⟩ <;> (try simp [B_iff, B_not] at c20))
    | refine zaad (c := .tmp 28) ?_; simp [-zgE, -zdO, ↓zaab, ↓zaaa, go_sem]; try first | (refine ⟨?_, ?_⟩ <;> change AW _ _ _ _ _ _) | (refine ⟨fun c28 => ?_, fun c28 => ?_⟩ <;> (try simp [B_iff, B_not] at c28))
    | (refine zaag (id := 0) (AW_loop (ι := Nat) (fun k : Nat => ⟨(upd (upd (upd (upd (upd (fun _ => .any) 0 (li cL xss)) 3 (.int .i64 (msum mL xss k))) 9 (li cL xss)) 10 (.int .i64 xss.length)) 11 (.int .i64 k)), fun _ => none⟩) (fun k => k ≤ xss.length) (fun k => xss.length - k) (0) ?_ ?_ ?_); exact Nat.zero_le _; ((repeat' (first | exact zaae (by assumption) | exact zaai | refine zaam ?_ ?_ | refine zaaf ?_)) <;> simp [-zgE, -zdO, ↓zaab, ↓zaaa, go_sem]); rintro k hk)
    | (refine ⟨k + 1, by omega, by first | omega | (simp; done) | (simp; omega), ?_⟩; ((repeat' (first | exact zaae (by assumption) | exact zaai | refine zaam ?_ ?_ | refine zaaf ?_)) <;> simp [-zgE, -zdO, ↓zaab, ↓zaaa, go_sem, msum_succ c12, mL]))
    | (refine zaag (id := 2) (AW_loop (ι := Nat) (fun i : Nat => ⟨(upd (upd (upd (upd (fun _ => .any) 6 (.fr 1 (msum mL xss i) (cat cI (xss.take i).flatten))) 25 (li cL xss)) 26 (.int .i64 xss.length)) 27 (.int .i64 i)), fun _ => none⟩) (fun i => i ≤ xss.length) (fun i => xss.length - i) (0) ?_ ?_ ?_); exact Nat.zero_le _; ((repeat' (first | exact zaae (by assumption) | exact zaai | refine zaam ?_ ?_ | refine zaaf ?_)) <;> simp [-zgE, -zdO, ↓zaab, ↓zaaa, go_sem]); rintro i hi)
    | (refine ⟨i + 1, by omega, by first | omega | (simp; done) | (simp; omega), ?_⟩; ((repeat' (first | exact zaae (by assumption) | exact zaai | refine zaam ?_ ?_ | refine zaaf ?_)) <;> simp [-zgE, -zdO, ↓zaab, ↓zaaa, go_sem, msum_succ c28, mL, flat_succ c28, cat_append]))
    | (refine zaag ?_)
    | (refine zaap ?_; simp [-zgE, -zdO, ↓zaab, ↓zaaa, go_sem])
    | (refine zaao ?_; simp [-zgE, -zdO, ↓zaab, ↓zaaa, go_sem])
    | (refine AW_ret ?_; simp [-zgE, -zdO, ↓zaab, ↓zaaa, go_sem, Try.results143])
    | (intro hx; change AW _ _ _ _ _ _)
    | (refine ⟨?_, ?_⟩ <;> change AW _ _ _ _ _ _)
    | (intro hx; refine ⟨fun hs => ?_, fun hs => ?_⟩)
    | (refine ⟨fun hs => ?_, fun hs => ?_⟩)
    | (refine ⟨?_, fun hs => ?_⟩; change AW _ _ _ _ _ _)
    | (refine ⟨fun hs => ?_, ?_⟩; rotate_left; change AW _ _ _ _ _ _; rotate_left)
    | (exfalso; omega)))
  all_goals (first
    | (obtain rfl : i = xss.length := (by omega); rw [List.take_length]; exact ⟨by rw [ht, List.length_flatten], rfl⟩)
    | skip)
noncomputable def concat_pureC : Con := .pure fun
  | [.list n_xss c_xss] => ((Is cL n_xss c_xss) ∧ ((de cL c_xss).flatten.length ≤ 1048576), fr 1 cI (de cL c_xss).flatten)
  | _ => (False, .any)
attribute [go_sem] concat_pureC
theorem concat_pureC_ok : ConOk Try.prog 143 concat_pureC := by
  refine ⟨zaal Try.func143 (by decide) rfl, fun args h => ?_⟩
  revert h
  dsimp only
  split
  · intro h
    obtain ⟨⟨xss, rfl, rfl⟩, h0⟩ := h
    try simp only [de_cat] at *
    exact ⟨concat_pure xss h0, by simp [go_sem]⟩
  · intro h
    exact h.elim
noncomputable def Γ47 : FuncId → Con := ext Γ46 143 concat_pureC
attribute [go_sem] Γ47
theorem Γ47_ok : ∀ g, ConOk Try.prog g (Γ47 g) := zaaw Γ46_ok concat_pureC_ok

noncomputable def Γ48 : FuncId → Con := Γ47
attribute [go_sem] Γ48
theorem Γ48_ok : ∀ g, ConOk Try.prog g (Γ48 g) := Γ47_ok

end Go.Proofs.Ytkjimmkemnmajaa.Vm

