/-
  Valid graphs, both ways. No conditions.
-/
import Derived.Test.YtoklpofekcclhaaF3
namespace Go.Proofs.Ytoklpofekcclhaa.Vm
open Go
set_option linter.unusedVariables false
set_option linter.unusedSimpArgs false
set_option maxRecDepth 200000

/-- Three small values. -/
def ValsOk (xs : List Int) : Prop := xs.length = 3 ∧ ∀ i, i < xs.length → 0 ≤ nth xs i ∧ nth xs i ≤ 3
/-- Indices, none twice. -/
def Dist (xs : List Int) (n : Int) : Prop := ∀ i, i < xs.length → 0 ≤ nth xs i ∧ nth xs i ≤ n - 1 ∧ ¬ nth xs i ∈ xs.take i
theorem pigeon : ∀ (n : Nat) (xs : List Int), xs.Nodup → (∀ x ∈ xs, 0 ≤ x ∧ x < n) → xs.length ≤ n
  | 0, xs, _, h => by
    cases xs with
    | nil => simp
    | cons x xs => have := h x (by simp); omega
  | n + 1, xs, hn, h => by
    have := pigeon n (xs.erase n) (hn.erase _) fun x hx => by
      have h1 := h x (List.mem_of_mem_erase hx)
      have h2 : x ≠ n := fun e => by subst e; exact (List.Nodup.not_mem_erase hn) hx
      omega
    rw [List.length_erase] at this
    split at this <;> omega
theorem Dist.nodup {xs : List Int} {n : Int} (h : Dist xs n) : xs.Nodup := by
  rw [List.nodup_iff_pairwise_ne, List.pairwise_iff_getElem]
  intro i j hi hj hij e
  have := (h j hj).2.2
  apply this
  rw [mem_nth]
  exact ⟨i, by simp; omega, by rw [nth_take hij, nth_lt hi, nth_lt hj, e]⟩
theorem Dist.len {xs : List Int} {n : Nat} (h : Dist xs n) : xs.length ≤ n :=
  pigeon n xs h.nodup fun x hx => by
    rw [mem_nth] at hx
    obtain ⟨i, hi, rfl⟩ := hx
    have := h i hi
    omega
/-- A valid graph. -/
def GraphOk (a : List Ints2) (b : List (List Int)) : Prop :=
  1 ≤ a.length ∧ a.length ≤ 60 ∧ b.length = a.length ∧ (∀ i, i < a.length → ValsOk (nth a i).2) ∧ ∀ i, i < b.length → 1 ≤ (nth b i).length ∧ Dist (nth b i) a.length

theorem l1Vals_pure (xs : List Int)  : Pure Try.prog 145 [li cI xs] (.bool (B (ValsOk xs))) := by
  refine Pure.of_walk Try.func145 rfl (by simp [Try.f145]) (by simp [-List.drop_one, go_sem]) fun B hK => ?_
  (repeat' (first
    | refine AW_seq ?_
    | (refine AW_len 0 rfl fun hm => ?_); refine AW_region (id := 0) Γ23_ok [] (by kernel_rfl) ?_; simp  [-List.getD_eq_getElem?_getD, -List.drop_one, ↓splitB_true, ↓splitB_false, go_sem]
    | refine AW_region (id := 1) Γ23_ok [] (by kernel_rfl) ?_; simp  [-List.getD_eq_getElem?_getD, -List.drop_one, ↓splitB_true, ↓splitB_false, go_sem]
    | refine AW_region (id := 2) Γ23_ok [] (by kernel_rfl) ?_; simp  [-List.getD_eq_getElem?_getD, -List.drop_one, ↓splitB_true, ↓splitB_false, go_sem]
    | refine AW_region (id := 4) Γ23_ok [15] (by kernel_rfl) ?_; simp  [-List.getD_eq_getElem?_getD, -List.drop_one, ↓splitB_true, ↓splitB_false, go_sem, c7, ne_nil c7, Nat.sub_pos_of_lt c7]; try (refine ⟨fun s4a => ?_, fun s4a => ?_⟩ <;> (try simp [B_iff, B_not] at s4a) <;> try (refine ⟨fun s4b => ?_, fun s4b => ?_⟩ <;> (try simp [B_iff, B_not] at s4b)))
    | refine AW_region (id := 5) Γ23_ok [] (by kernel_rfl) ?_; simp  [-List.getD_eq_getElem?_getD, -List.drop_one, ↓splitB_true, ↓splitB_false, go_sem]
    | refine AW_region (id := 3) Γ23_ok [] (by kernel_rfl) ?_; simp  [-List.getD_eq_getElem?_getD, -List.drop_one, ↓splitB_true, ↓splitB_false, go_sem, wrapS (k := k) (by omega)]
    | refine AW_region (id := 6) Γ23_ok [] (by kernel_rfl) ?_; simp  [-List.getD_eq_getElem?_getD, -List.drop_one, ↓splitB_true, ↓splitB_false, go_sem]
    | refine AW_condA (c := .tmp 7) ?_; simp [-List.getD_eq_getElem?_getD, -List.drop_one, ↓splitB_true, ↓splitB_false, go_sem]; try first | (refine ⟨?_, ?_⟩ <;> change AW _ _ _ _ _ _) | (refine ⟨fun c7 => ?_, fun c7 => ?_⟩ <;> (try simp [B_iff, B_not] at c7))
    | refine AW_condA (c := .tmp 21) ?_; simp [-List.getD_eq_getElem?_getD, -List.drop_one, ↓splitB_true, ↓splitB_false, go_sem]; try first | (refine ⟨?_, ?_⟩ <;> change AW _ _ _ _ _ _) | (refine ⟨fun c21 => ?_, fun c21 => ?_⟩ <;> (try simp [B_iff, B_not] at c21))
    | (refine AW_block (id := 0) (AW_loop (ι := Nat) (fun k : Nat => ⟨(upd (upd (fun _ => .any) 0 (li cI xs)) 3 (.int .i64 k)), fun _ => none⟩) (fun k => k ≤ xs.length ∧ AllTill (fun i => 0 ≤ nth xs i ∧ nth xs i ≤ 3) k) (fun k => xs.length - k) (0) ?_ ?_ ?_); exact ⟨Nat.zero_le _, .zero _⟩; ((repeat' (first | exact sub_noneH (by assumption) | exact sub_none | refine sub_upd ?_ ?_ | refine sub_noneE ?_)) <;> simp [-List.getD_eq_getElem?_getD, -List.drop_one, ↓splitB_true, ↓splitB_false, go_sem]); rintro k ⟨hk, ht⟩)
    | (refine ⟨k + 1, ⟨by omega, ht.succ (by omega)⟩, by first | omega | (simp; done) | (simp; omega), ?_⟩; ((repeat' (first | exact sub_noneH (by assumption) | exact sub_none | refine sub_upd ?_ ?_ | refine sub_noneE ?_)) <;> simp [-List.getD_eq_getElem?_getD, -List.drop_one, ↓splitB_true, ↓splitB_false, go_sem]))
    | (refine AW_block ?_)
    | (refine AW_exit ?_; simp [-List.getD_eq_getElem?_getD, -List.drop_one, ↓splitB_true, ↓splitB_false, go_sem])
    | (refine AW_skip ?_; simp [-List.getD_eq_getElem?_getD, -List.drop_one, ↓splitB_true, ↓splitB_false, go_sem])
    | (refine AW_ret ?_; simp [-List.getD_eq_getElem?_getD, -List.drop_one, ↓splitB_true, ↓splitB_false, go_sem, Try.results145])
    | (intro hx; change AW _ _ _ _ _ _)
    | (refine ⟨?_, ?_⟩ <;> change AW _ _ _ _ _ _)
    | (intro hx; refine ⟨fun hs => ?_, fun hs => ?_⟩)
    | (refine ⟨fun hs => ?_, fun hs => ?_⟩)
    | (refine ⟨?_, fun hs => ?_⟩; change AW _ _ _ _ _ _)
    | (refine ⟨fun hs => ?_, ?_⟩; rotate_left; change AW _ _ _ _ _ _; rotate_left)))
  all_goals (first
    | (rintro ⟨_, h⟩; have := h k c7; omega)
    | (rw [Bool.eq_iff_iff, B_iff, decide_eq_true_eq]; exact ⟨fun h => ⟨by omega, fun i hi => ht i (by omega)⟩, fun h => by have := h.1; omega⟩)
    | skip)
noncomputable def l1Vals_pureC : Con := .pure fun
  | [.list n_xs c_xs] => ((Is cI n_xs c_xs), .bool (B (ValsOk (de cI c_xs))))
  | _ => (False, .any)
attribute [go_sem] l1Vals_pureC
theorem l1Vals_pureC_ok : ConOk Try.prog 145 l1Vals_pureC := by
  refine ⟨callable Try.func145 (by decide) rfl, fun args h => ?_⟩
  revert h
  dsimp only
  split
  · intro h
    obtain ⟨xs, rfl, rfl⟩ := h
    try simp only [de_cat] at *
    exact ⟨l1Vals_pure xs, by simp [go_sem]⟩
  · intro h
    exact h.elim
noncomputable def Γ24 : FuncId → Con := ext Γ23 145 l1Vals_pureC
attribute [go_sem] Γ24
theorem Γ24_ok : ∀ g, ConOk Try.prog g (Γ24 g) := ext_ok Γ23_ok l1Vals_pureC_ok

theorem l4In_pure (xs : List Int) (n : Int)  : Pure Try.prog 94 [li cI xs, .int .i64 n] (.bool (B (n ∈ xs))) := by
  refine Pure.of_walk Try.func94 rfl (by simp [Try.f94]) (by simp [-List.drop_one, go_sem]) fun B hK => ?_
  (repeat' (first
    | refine AW_seq ?_
    | (refine AW_len 0 rfl fun hm => ?_); refine AW_region (id := 0) Γ24_ok [] (by kernel_rfl) ?_; simp  [-List.getD_eq_getElem?_getD, -List.drop_one, ↓splitB_true, ↓splitB_false, go_sem]
    | refine AW_region (id := 1) Γ24_ok [] (by kernel_rfl) ?_; simp  [-List.getD_eq_getElem?_getD, -List.drop_one, ↓splitB_true, ↓splitB_false, go_sem]
    | refine AW_region (id := 2) Γ24_ok [] (by kernel_rfl) ?_; simp  [-List.getD_eq_getElem?_getD, -List.drop_one, ↓splitB_true, ↓splitB_false, go_sem]
    | refine AW_region (id := 4) Γ24_ok [] (by kernel_rfl) ?_; simp  [-List.getD_eq_getElem?_getD, -List.drop_one, ↓splitB_true, ↓splitB_false, go_sem, c9, ne_nil c9, Nat.sub_pos_of_lt c9]
    | refine AW_region (id := 5) Γ24_ok [] (by kernel_rfl) ?_; simp  [-List.getD_eq_getElem?_getD, -List.drop_one, ↓splitB_true, ↓splitB_false, go_sem]
    | refine AW_region (id := 3) Γ24_ok [] (by kernel_rfl) ?_; simp  [-List.getD_eq_getElem?_getD, -List.drop_one, ↓splitB_true, ↓splitB_false, go_sem, wrapS (k := k) (by omega)]
    | refine AW_region (id := 6) Γ24_ok [] (by kernel_rfl) ?_; simp  [-List.getD_eq_getElem?_getD, -List.drop_one, ↓splitB_true, ↓splitB_false, go_sem]
    | refine AW_condA (c := .tmp 9) ?_; simp [-List.getD_eq_getElem?_getD, -List.drop_one, ↓splitB_true, ↓splitB_false, go_sem]; try first | (refine ⟨?_, ?_⟩ <;> change AW _ _ _ _ _ _) | (refine ⟨fun c9 => ?_, fun c9 => ?_⟩ <;> (try simp [B_iff, B_not] at c9))
    | refine AW_condA (c := .tmp 17) ?_; simp [-List.getD_eq_getElem?_getD, -List.drop_one, ↓splitB_true, ↓splitB_false, go_sem]; try first | (refine ⟨?_, ?_⟩ <;> change AW _ _ _ _ _ _) | (refine ⟨fun c17 => ?_, fun c17 => ?_⟩ <;> (try simp [B_iff, B_not] at c17))
    | (refine AW_block (id := 0) (AW_loop (ι := Nat) (fun k : Nat => ⟨(upd (upd (upd (fun _ => .any) 0 (li cI xs)) 1 (.int .i64 n)) 5 (.int .i64 k)), fun _ => none⟩) (fun k => k ≤ xs.length ∧ AllTill (fun i => ¬ nth xs i = n) k) (fun k => xs.length - k) (0) ?_ ?_ ?_); exact ⟨Nat.zero_le _, .zero _⟩; ((repeat' (first | exact sub_noneH (by assumption) | exact sub_none | refine sub_upd ?_ ?_ | refine sub_noneE ?_)) <;> simp [-List.getD_eq_getElem?_getD, -List.drop_one, ↓splitB_true, ↓splitB_false, go_sem]); rintro k ⟨hk, ht⟩)
    | (refine ⟨k + 1, ⟨by omega, ht.succ (by omega)⟩, by first | omega | (simp; done) | (simp; omega), ?_⟩; ((repeat' (first | exact sub_noneH (by assumption) | exact sub_none | refine sub_upd ?_ ?_ | refine sub_noneE ?_)) <;> simp [-List.getD_eq_getElem?_getD, -List.drop_one, ↓splitB_true, ↓splitB_false, go_sem]))
    | (refine AW_block ?_)
    | (refine AW_exit ?_; simp [-List.getD_eq_getElem?_getD, -List.drop_one, ↓splitB_true, ↓splitB_false, go_sem])
    | (refine AW_skip ?_; simp [-List.getD_eq_getElem?_getD, -List.drop_one, ↓splitB_true, ↓splitB_false, go_sem])
    | (refine AW_ret ?_; simp [-List.getD_eq_getElem?_getD, -List.drop_one, ↓splitB_true, ↓splitB_false, go_sem, Try.results94])
    | (intro hx; change AW _ _ _ _ _ _)
    | (refine ⟨?_, ?_⟩ <;> change AW _ _ _ _ _ _)
    | (intro hx; refine ⟨fun hs => ?_, fun hs => ?_⟩)
    | (refine ⟨fun hs => ?_, fun hs => ?_⟩)
    | (refine ⟨?_, fun hs => ?_⟩; change AW _ _ _ _ _ _)
    | (refine ⟨fun hs => ?_, ?_⟩; rotate_left; change AW _ _ _ _ _ _; rotate_left)))
  all_goals (first
    | (rw [mem_nth]; exact ⟨k, c9, by omega⟩)
    | (rw [mem_nth]; rintro ⟨i, h1, h2⟩; exact ht i (by omega) h2)
    | skip)
noncomputable def l4In_pureC : Con := .pure fun
  | [.list n_xs c_xs, .int .i64 n] => ((Is cI n_xs c_xs), .bool (B (n ∈ (de cI c_xs))))
  | _ => (False, .any)
attribute [go_sem] l4In_pureC
theorem l4In_pureC_ok : ConOk Try.prog 94 l4In_pureC := by
  refine ⟨callable Try.func94 (by decide) rfl, fun args h => ?_⟩
  revert h
  dsimp only
  split
  · intro h
    obtain ⟨xs, rfl, rfl⟩ := h
    try simp only [de_cat] at *
    exact ⟨l4In_pure xs _, by simp [go_sem]⟩
  · intro h
    exact h.elim
noncomputable def Γ25 : FuncId → Con := ext Γ24 94 l4In_pureC
attribute [go_sem] Γ25
theorem Γ25_ok : ∀ g, ConOk Try.prog g (Γ25 g) := ext_ok Γ24_ok l4In_pureC_ok

/-- Not a small value. -/
def notSmall (n : Int) : Bool := !(decide (0 ≤ n) && decide (n ≤ 3))
theorem find_small {xs : List Int} : (0 ≤ findI notSmall xs) = ¬ ∀ i, i < xs.length → 0 ≤ nth xs i ∧ nth xs i ≤ 3 := by
  rw [findI_ge, eq_iff_iff]
  constructor
  · rintro ⟨i, h, e⟩ k
    have := k i h
    simp [notSmall] at e
    omega
  · intro h
    apply Classical.byContradiction; intro h2
    apply h; intro i hi
    apply Classical.byContradiction; intro h3
    exact h2 ⟨i, hi, by simp [notSmall]; omega⟩

theorem valsOk1_pure (n : Int)  : Pure Try.prog 189 [.int .i64 n] (.bool (notSmall n)) := by
  refine Pure.of_walk Try.func189 rfl (by simp [Try.f189]) (by simp [-List.drop_one, go_sem]) fun B hK => ?_
  (repeat' (first
    | refine AW_seq ?_
    | refine AW_region (id := 0) Γ25_ok [] (by kernel_rfl) ?_; simp  [-List.getD_eq_getElem?_getD, -List.drop_one, ↓splitB_true, ↓splitB_false, go_sem, notSmall]
    | refine AW_region (id := 1) Γ25_ok [] (by kernel_rfl) ?_; simp  [-List.getD_eq_getElem?_getD, -List.drop_one, ↓splitB_true, ↓splitB_false, go_sem, notSmall]
    | (refine AW_block ?_)
    | (refine AW_exit ?_; simp [-List.getD_eq_getElem?_getD, -List.drop_one, ↓splitB_true, ↓splitB_false, go_sem])
    | (refine AW_skip ?_; simp [-List.getD_eq_getElem?_getD, -List.drop_one, ↓splitB_true, ↓splitB_false, go_sem])
    | (refine AW_ret ?_; simp [-List.getD_eq_getElem?_getD, -List.drop_one, ↓splitB_true, ↓splitB_false, go_sem, Try.results189, notSmall])
    | (intro hx; change AW _ _ _ _ _ _)
    | (refine ⟨?_, ?_⟩ <;> change AW _ _ _ _ _ _)
    | (intro hx; refine ⟨fun hs => ?_, fun hs => ?_⟩)
    | (refine ⟨fun hs => ?_, fun hs => ?_⟩)
    | (refine ⟨?_, fun hs => ?_⟩; change AW _ _ _ _ _ _)
    | (refine ⟨fun hs => ?_, ?_⟩; rotate_left; change AW _ _ _ _ _ _; rotate_left)))
noncomputable def valsOk1_pureC : Con := .pure fun
  | [.int .i64 n] => (True, .bool (notSmall n))
  | _ => (False, .any)
attribute [go_sem] valsOk1_pureC
theorem valsOk1_pureC_ok : ConOk Try.prog 189 valsOk1_pureC := by
  refine ⟨callable Try.func189 (by decide) rfl, fun args h => ?_⟩
  revert h
  dsimp only
  split
  · intro h
    skip
    skip
    exact ⟨valsOk1_pure _, by simp [go_sem]⟩
  · intro h
    exact h.elim
noncomputable def Γ26 : FuncId → Con := ext Γ25 189 valsOk1_pureC
attribute [go_sem] Γ26
theorem Γ26_ok : ∀ g, ConOk Try.prog g (Γ26 g) := ext_ok Γ25_ok valsOk1_pureC_ok

theorem index118_pure (xs : List Int)   : Pure Try.prog 206 [li cI xs, .fn 189 []] (.int .i64 (findI (notSmall) xs)) := by
  refine Pure.of_walk Try.func206 rfl (by simp [Try.f206]) (by simp [-List.drop_one, go_sem]) fun B hK => ?_
  (repeat' (first
    | refine AW_seq ?_
    | (refine AW_len 0 rfl fun hm => ?_); refine AW_region (id := 0) Γ26_ok [] (by kernel_rfl) ?_; simp  [-List.getD_eq_getElem?_getD, -List.drop_one, ↓splitB_true, ↓splitB_false, go_sem]
    | refine AW_region (id := 1) Γ26_ok [] (by kernel_rfl) ?_; simp  [-List.getD_eq_getElem?_getD, -List.drop_one, ↓splitB_true, ↓splitB_false, go_sem]
    | refine AW_region (id := 2) Γ26_ok [] (by kernel_rfl) ?_; simp  [-List.getD_eq_getElem?_getD, -List.drop_one, ↓splitB_true, ↓splitB_false, go_sem]
    | refine AW_region (id := 3) Γ26_ok [] (by kernel_rfl) ?_; simp  [-List.getD_eq_getElem?_getD, -List.drop_one, ↓splitB_true, ↓splitB_false, go_sem]
    | refine AW_region (id := 4) Γ26_ok [] (by kernel_rfl) ?_; simp  [-List.getD_eq_getElem?_getD, -List.drop_one, ↓splitB_true, ↓splitB_false, go_sem, c9, ne_nil c9, Nat.sub_pos_of_lt c9]
    | refine AW_region (id := 5) Γ26_ok [] (by kernel_rfl) ?_; simp  [-List.getD_eq_getElem?_getD, -List.drop_one, ↓splitB_true, ↓splitB_false, go_sem]
    | refine AW_region (id := 6) Γ26_ok [] (by kernel_rfl) ?_; simp  [-List.getD_eq_getElem?_getD, -List.drop_one, ↓splitB_true, ↓splitB_false, go_sem, wrapS (k := k) (by omega)]
    | refine AW_region (id := 7) Γ26_ok [] (by kernel_rfl) ?_; simp  [-List.getD_eq_getElem?_getD, -List.drop_one, ↓splitB_true, ↓splitB_false, go_sem]
    | refine AW_condA (c := .tmp 9) ?_; simp [-List.getD_eq_getElem?_getD, -List.drop_one, ↓splitB_true, ↓splitB_false, go_sem]; try first | (refine ⟨?_, ?_⟩ <;> change AW _ _ _ _ _ _) | (refine ⟨fun c9 => ?_, fun c9 => ?_⟩ <;> (try simp [B_iff, B_not] at c9))
    | refine AW_condA (c := .tmp 16) ?_; simp [-List.getD_eq_getElem?_getD, -List.drop_one, ↓splitB_true, ↓splitB_false, go_sem]; try first | (refine ⟨?_, ?_⟩ <;> change AW _ _ _ _ _ _) | (refine ⟨fun c16 => ?_, fun c16 => ?_⟩ <;> (try simp [B_iff, B_not] at c16))
    | (refine AW_block (id := 0) (AW_loop (ι := Nat) (fun k : Nat => ⟨(upd (upd (upd (upd (upd (fun _ => .any) 0 (li cI xs)) 1 (.fn 189 [])) 6 (li cI xs)) 7 (.int .i64 xs.length)) 8 (.int .i64 k)), fun _ => none⟩) (fun k => k ≤ xs.length ∧ NoneTill (fun i => (notSmall) (nth xs i)) k) (fun k => xs.length - k) (0) ?_ ?_ ?_); exact ⟨Nat.zero_le _, .zero _⟩; ((repeat' (first | exact sub_noneH (by assumption) | exact sub_none | refine sub_upd ?_ ?_ | refine sub_noneE ?_)) <;> simp [-List.getD_eq_getElem?_getD, -List.drop_one, ↓splitB_true, ↓splitB_false, go_sem]); rintro k ⟨hk, ht⟩)
    | (refine ⟨k + 1, ⟨by omega, ht.succ (by simp_all)⟩, by first | omega | (simp; done) | (simp; omega), ?_⟩; ((repeat' (first | exact sub_noneH (by assumption) | exact sub_none | refine sub_upd ?_ ?_ | refine sub_noneE ?_)) <;> simp [-List.getD_eq_getElem?_getD, -List.drop_one, ↓splitB_true, ↓splitB_false, go_sem]))
    | (refine AW_block ?_)
    | (refine AW_exit ?_; simp [-List.getD_eq_getElem?_getD, -List.drop_one, ↓splitB_true, ↓splitB_false, go_sem])
    | (refine AW_skip ?_; simp [-List.getD_eq_getElem?_getD, -List.drop_one, ↓splitB_true, ↓splitB_false, go_sem])
    | (refine AW_ret ?_; simp [-List.getD_eq_getElem?_getD, -List.drop_one, ↓splitB_true, ↓splitB_false, go_sem, Try.results206])
    | (intro hx; change AW _ _ _ _ _ _)
    | (refine ⟨?_, ?_⟩ <;> change AW _ _ _ _ _ _)
    | (intro hx; refine ⟨fun hs => ?_, fun hs => ?_⟩)
    | (refine ⟨fun hs => ?_, fun hs => ?_⟩)
    | (refine ⟨?_, fun hs => ?_⟩; change AW _ _ _ _ _ _)
    | (refine ⟨fun hs => ?_, ?_⟩; rotate_left; change AW _ _ _ _ _ _; rotate_left)))
  all_goals (first
    | (rw [findI_at ht c9 (by simp_all)])
    | (rw [findI_none ht (by omega)])
    | skip)
noncomputable def index118_pureC : Con := .pure fun
  | [.list n_xs c_xs, .fn 189 []] => ((Is cI n_xs c_xs), .int .i64 (findI (notSmall) (de cI c_xs)))
  | _ => (False, .any)
attribute [go_sem] index118_pureC
theorem index118_pureC_ok : ConOk Try.prog 206 index118_pureC := by
  refine ⟨callable Try.func206 (by decide) rfl, fun args h => ?_⟩
  revert h
  dsimp only
  split
  · intro h
    obtain ⟨xs, rfl, rfl⟩ := h
    try simp only [de_cat] at *
    exact ⟨index118_pure xs , by simp [go_sem]⟩
  · intro h
    exact h.elim
noncomputable def Γ27 : FuncId → Con := ext Γ26 206 index118_pureC
attribute [go_sem] Γ27
theorem Γ27_ok : ∀ g, ConOk Try.prog g (Γ27 g) := ext_ok Γ26_ok index118_pureC_ok

theorem containsSmall_pure (xs : List Int)   : Pure Try.prog 188 [li cI xs, .fn 189 []] (.bool (decide (0 ≤ findI notSmall xs))) := by
  refine Pure.of_walk Try.func188 rfl (by simp [Try.f188]) (by simp [-List.drop_one, go_sem]) fun B hK => ?_
  (repeat' (first
    | refine AW_seq ?_
    | refine AW_region (id := 0) Γ27_ok [] (by kernel_rfl) ?_; simp  [-List.getD_eq_getElem?_getD, -List.drop_one, ↓splitB_true, ↓splitB_false, go_sem]
    | refine AW_region (id := 1) Γ27_ok [] (by kernel_rfl) ?_; simp  [-List.getD_eq_getElem?_getD, -List.drop_one, ↓splitB_true, ↓splitB_false, go_sem]
    | (refine AW_block ?_)
    | (refine AW_exit ?_; simp [-List.getD_eq_getElem?_getD, -List.drop_one, ↓splitB_true, ↓splitB_false, go_sem])
    | (refine AW_skip ?_; simp [-List.getD_eq_getElem?_getD, -List.drop_one, ↓splitB_true, ↓splitB_false, go_sem])
    | (refine AW_ret ?_; simp [-List.getD_eq_getElem?_getD, -List.drop_one, ↓splitB_true, ↓splitB_false, go_sem, Try.results188])
    | (intro hx; change AW _ _ _ _ _ _)
    | (refine ⟨?_, ?_⟩ <;> change AW _ _ _ _ _ _)
    | (intro hx; refine ⟨fun hs => ?_, fun hs => ?_⟩)
    | (refine ⟨fun hs => ?_, fun hs => ?_⟩)
    | (refine ⟨?_, fun hs => ?_⟩; change AW _ _ _ _ _ _)
    | (refine ⟨fun hs => ?_, ?_⟩; rotate_left; change AW _ _ _ _ _ _; rotate_left)))
noncomputable def containsSmall_pureC : Con := .pure fun
  | [.list n_xs c_xs, .fn 189 []] => ((Is cI n_xs c_xs), .bool (decide (0 ≤ findI notSmall (de cI c_xs))))
  | _ => (False, .any)
attribute [go_sem] containsSmall_pureC
theorem containsSmall_pureC_ok : ConOk Try.prog 188 containsSmall_pureC := by
  refine ⟨callable Try.func188 (by decide) rfl, fun args h => ?_⟩
  revert h
  dsimp only
  split
  · intro h
    obtain ⟨xs, rfl, rfl⟩ := h
    try simp only [de_cat] at *
    exact ⟨containsSmall_pure xs , by simp [go_sem]⟩
  · intro h
    exact h.elim
noncomputable def Γ28 : FuncId → Con := ext Γ27 188 containsSmall_pureC
attribute [go_sem] Γ28
theorem Γ28_ok : ∀ g, ConOk Try.prog g (Γ28 g) := ext_ok Γ27_ok containsSmall_pureC_ok

theorem valsOk_pure (xs : List Int)  : Pure Try.prog 150 [li cI xs] (.bool (B (ValsOk xs))) := by
  refine Pure.of_walk Try.func150 rfl (by simp [Try.f150]) (by simp [-List.drop_one, go_sem]) fun B hK => ?_
  (repeat' (first
    | refine AW_seq ?_
    | refine AW_region (id := 0) Γ28_ok [] (by kernel_rfl) ?_; simp  [-List.getD_eq_getElem?_getD, -List.drop_one, ↓splitB_true, ↓splitB_false, go_sem]
    | refine AW_region (id := 1) Γ28_ok [6] (by kernel_rfl) ?_; simp  [-List.getD_eq_getElem?_getD, -List.drop_one, ↓splitB_true, ↓splitB_false, go_sem]; try (refine ⟨fun s1a => ?_, fun s1a => ?_⟩ <;> (try simp [B_iff, B_not] at s1a) <;> try (refine ⟨fun s1b => ?_, fun s1b => ?_⟩ <;> (try simp [B_iff, B_not] at s1b)))
    | (refine AW_block ?_)
    | (refine AW_exit ?_; simp [-List.getD_eq_getElem?_getD, -List.drop_one, ↓splitB_true, ↓splitB_false, go_sem])
    | (refine AW_skip ?_; simp [-List.getD_eq_getElem?_getD, -List.drop_one, ↓splitB_true, ↓splitB_false, go_sem])
    | (refine AW_ret ?_; simp [-List.getD_eq_getElem?_getD, -List.drop_one, ↓splitB_true, ↓splitB_false, go_sem, Try.results150])
    | (intro hx; change AW _ _ _ _ _ _)
    | (refine ⟨?_, ?_⟩ <;> change AW _ _ _ _ _ _)
    | (intro hx; refine ⟨fun hs => ?_, fun hs => ?_⟩)
    | (refine ⟨fun hs => ?_, fun hs => ?_⟩)
    | (refine ⟨?_, fun hs => ?_⟩; change AW _ _ _ _ _ _)
    | (refine ⟨fun hs => ?_, ?_⟩; rotate_left; change AW _ _ _ _ _ _; rotate_left)))
  all_goals (first
    | (intro h; have := h.1; omega)
    | (rw [Bool.eq_iff_iff, decide_eq_true_eq, find_small, Bool.not_eq_true', B_not]; exact ⟨fun h k => h k.2, fun h k => h ⟨by omega, k⟩⟩)
    | skip)
noncomputable def valsOk_pureC : Con := .pure fun
  | [.list n_xs c_xs] => ((Is cI n_xs c_xs), .bool (B (ValsOk (de cI c_xs))))
  | _ => (False, .any)
attribute [go_sem] valsOk_pureC
theorem valsOk_pureC_ok : ConOk Try.prog 150 valsOk_pureC := by
  refine ⟨callable Try.func150 (by decide) rfl, fun args h => ?_⟩
  revert h
  dsimp only
  split
  · intro h
    obtain ⟨xs, rfl, rfl⟩ := h
    try simp only [de_cat] at *
    exact ⟨valsOk_pure xs, by simp [go_sem]⟩
  · intro h
    exact h.elim
noncomputable def Γ29 : FuncId → Con := ext Γ28 150 valsOk_pureC
attribute [go_sem] Γ29
theorem Γ29_ok : ∀ g, ConOk Try.prog g (Γ29 g) := ext_ok Γ28_ok valsOk_pureC_ok

/-- Not three small values. -/
noncomputable def badVals (s : Ints2) : Bool := !B (ValsOk s.2)

theorem graphValid1_pure (a : List Int) (b : List Int)  : Pure Try.prog 149 [.st [li cI a, li cI b]] (.bool (badVals (a, b))) := by
  refine Pure.of_walk Try.func149 rfl (by simp [Try.f149]) (by simp [-List.drop_one, go_sem]) fun B hK => ?_
  (repeat' (first
    | refine AW_seq ?_
    | refine AW_region (id := 0) Γ29_ok [] (by kernel_rfl) ?_; simp  [-List.getD_eq_getElem?_getD, -List.drop_one, ↓splitB_true, ↓splitB_false, go_sem, badVals]; try (refine AW_data hK 1 ?_; simp [go_sem])
    | refine AW_region (id := 1) Γ29_ok [] (by kernel_rfl) ?_; simp  [-List.getD_eq_getElem?_getD, -List.drop_one, ↓splitB_true, ↓splitB_false, go_sem, badVals]
    | (refine AW_block ?_)
    | (refine AW_exit ?_; simp [-List.getD_eq_getElem?_getD, -List.drop_one, ↓splitB_true, ↓splitB_false, go_sem])
    | (refine AW_skip ?_; simp [-List.getD_eq_getElem?_getD, -List.drop_one, ↓splitB_true, ↓splitB_false, go_sem])
    | (refine AW_ret ?_; simp [-List.getD_eq_getElem?_getD, -List.drop_one, ↓splitB_true, ↓splitB_false, go_sem, Try.results149, badVals])
    | (intro hx; change AW _ _ _ _ _ _)
    | (refine ⟨?_, ?_⟩ <;> change AW _ _ _ _ _ _)
    | (intro hx; refine ⟨fun hs => ?_, fun hs => ?_⟩)
    | (refine ⟨fun hs => ?_, fun hs => ?_⟩)
    | (refine ⟨?_, fun hs => ?_⟩; change AW _ _ _ _ _ _)
    | (refine ⟨fun hs => ?_, ?_⟩; rotate_left; change AW _ _ _ _ _ _; rotate_left)))
noncomputable def graphValid1_pureC : Con := .pure fun
  | [.st [.list n_a c_a, .list n_b c_b]] => ((Is cI n_a c_a) ∧ (Is cI n_b c_b), .bool (badVals ((de cI c_a), (de cI c_b))))
  | _ => (False, .any)
attribute [go_sem] graphValid1_pureC
theorem graphValid1_pureC_ok : ConOk Try.prog 149 graphValid1_pureC := by
  refine ⟨callable Try.func149 (by decide) rfl, fun args h => ?_⟩
  revert h
  dsimp only
  split
  · intro h
    obtain ⟨⟨a, rfl, rfl⟩, ⟨b, rfl, rfl⟩⟩ := h
    try simp only [de_cat] at *
    exact ⟨graphValid1_pure a b, by simp [go_sem]⟩
  · intro h
    exact h.elim
noncomputable def Γ30 : FuncId → Con := ext Γ29 149 graphValid1_pureC
attribute [go_sem] Γ30
theorem Γ30_ok : ∀ g, ConOk Try.prog g (Γ30 g) := ext_ok Γ29_ok graphValid1_pureC_ok

theorem indexState_pure (xs : List Ints2)   : Pure Try.prog 187 [li cP xs, .fn 149 []] (.int .i64 (findI (badVals) xs)) := by
  refine Pure.of_walk Try.func187 rfl (by simp [Try.f187]) (by simp [-List.drop_one, go_sem]) fun B hK => ?_
  (repeat' (first
    | refine AW_seq ?_
    | (refine AW_len 0 rfl fun hm => ?_); refine AW_region (id := 0) Γ30_ok [] (by kernel_rfl) ?_; simp  [-List.getD_eq_getElem?_getD, -List.drop_one, ↓splitB_true, ↓splitB_false, go_sem]
    | refine AW_region (id := 1) Γ30_ok [] (by kernel_rfl) ?_; simp  [-List.getD_eq_getElem?_getD, -List.drop_one, ↓splitB_true, ↓splitB_false, go_sem]
    | refine AW_region (id := 2) Γ30_ok [] (by kernel_rfl) ?_; simp  [-List.getD_eq_getElem?_getD, -List.drop_one, ↓splitB_true, ↓splitB_false, go_sem]
    | refine AW_region (id := 3) Γ30_ok [] (by kernel_rfl) ?_; simp  [-List.getD_eq_getElem?_getD, -List.drop_one, ↓splitB_true, ↓splitB_false, go_sem]
    | refine AW_region (id := 4) Γ30_ok [] (by kernel_rfl) ?_; simp  [-List.getD_eq_getElem?_getD, -List.drop_one, ↓splitB_true, ↓splitB_false, go_sem, c9, ne_nil c9, Nat.sub_pos_of_lt c9]
    | refine AW_region (id := 5) Γ30_ok [] (by kernel_rfl) ?_; simp  [-List.getD_eq_getElem?_getD, -List.drop_one, ↓splitB_true, ↓splitB_false, go_sem]
    | refine AW_region (id := 6) Γ30_ok [] (by kernel_rfl) ?_; simp  [-List.getD_eq_getElem?_getD, -List.drop_one, ↓splitB_true, ↓splitB_false, go_sem, wrapS (k := k) (by omega)]
    | refine AW_region (id := 7) Γ30_ok [] (by kernel_rfl) ?_; simp  [-List.getD_eq_getElem?_getD, -List.drop_one, ↓splitB_true, ↓splitB_false, go_sem]
    | refine AW_condA (c := .tmp 9) ?_; simp [-List.getD_eq_getElem?_getD, -List.drop_one, ↓splitB_true, ↓splitB_false, go_sem]; try first | (refine ⟨?_, ?_⟩ <;> change AW _ _ _ _ _ _) | (refine ⟨fun c9 => ?_, fun c9 => ?_⟩ <;> (try simp [B_iff, B_not] at c9))
    | refine AW_condA (c := .tmp 16) ?_; simp [-List.getD_eq_getElem?_getD, -List.drop_one, ↓splitB_true, ↓splitB_false, go_sem]; try first | (refine ⟨?_, ?_⟩ <;> change AW _ _ _ _ _ _) | (refine ⟨fun c16 => ?_, fun c16 => ?_⟩ <;> (try simp [B_iff, B_not] at c16))
    | (refine AW_block (id := 0) (AW_loop (ι := Nat) (fun k : Nat => ⟨(upd (upd (upd (upd (upd (fun _ => .any) 0 (li cP xs)) 1 (.fn 149 [])) 6 (li cP xs)) 7 (.int .i64 xs.length)) 8 (.int .i64 k)), fun _ => none⟩) (fun k => k ≤ xs.length ∧ NoneTill (fun i => (badVals) (nth xs i)) k) (fun k => xs.length - k) (0) ?_ ?_ ?_); exact ⟨Nat.zero_le _, .zero _⟩; ((repeat' (first | exact sub_noneH (by assumption) | exact sub_none | refine sub_upd ?_ ?_ | refine sub_noneE ?_)) <;> simp [-List.getD_eq_getElem?_getD, -List.drop_one, ↓splitB_true, ↓splitB_false, go_sem]); rintro k ⟨hk, ht⟩)
    | (refine ⟨k + 1, ⟨by omega, ht.succ (by simp_all)⟩, by first | omega | (simp; done) | (simp; omega), ?_⟩; ((repeat' (first | exact sub_noneH (by assumption) | exact sub_none | refine sub_upd ?_ ?_ | refine sub_noneE ?_)) <;> simp [-List.getD_eq_getElem?_getD, -List.drop_one, ↓splitB_true, ↓splitB_false, go_sem]))
    | (refine AW_block ?_)
    | (refine AW_exit ?_; simp [-List.getD_eq_getElem?_getD, -List.drop_one, ↓splitB_true, ↓splitB_false, go_sem])
    | (refine AW_skip ?_; simp [-List.getD_eq_getElem?_getD, -List.drop_one, ↓splitB_true, ↓splitB_false, go_sem])
    | (refine AW_ret ?_; simp [-List.getD_eq_getElem?_getD, -List.drop_one, ↓splitB_true, ↓splitB_false, go_sem, Try.results187])
    | (intro hx; change AW _ _ _ _ _ _)
    | (refine ⟨?_, ?_⟩ <;> change AW _ _ _ _ _ _)
    | (intro hx; refine ⟨fun hs => ?_, fun hs => ?_⟩)
    | (refine ⟨fun hs => ?_, fun hs => ?_⟩)
    | (refine ⟨?_, fun hs => ?_⟩; change AW _ _ _ _ _ _)
    | (refine ⟨fun hs => ?_, ?_⟩; rotate_left; change AW _ _ _ _ _ _; rotate_left)))
  all_goals (first
    | (rw [findI_at ht c9 (by simp_all)])
    | (rw [findI_none ht (by omega)])
    | skip)
noncomputable def indexState_pureC : Con := .pure fun
  | [.list n_xs c_xs, .fn 149 []] => ((Is cP n_xs c_xs), .int .i64 (findI (badVals) (de cP c_xs)))
  | _ => (False, .any)
attribute [go_sem] indexState_pureC
theorem indexState_pureC_ok : ConOk Try.prog 187 indexState_pureC := by
  refine ⟨callable Try.func187 (by decide) rfl, fun args h => ?_⟩
  revert h
  dsimp only
  split
  · intro h
    obtain ⟨xs, rfl, rfl⟩ := h
    try simp only [de_cat] at *
    exact ⟨indexState_pure xs , by simp [go_sem]⟩
  · intro h
    exact h.elim
noncomputable def Γ31 : FuncId → Con := ext Γ30 187 indexState_pureC
attribute [go_sem] Γ31
theorem Γ31_ok : ∀ g, ConOk Try.prog g (Γ31 g) := ext_ok Γ30_ok indexState_pureC_ok

theorem containsState_pure (xs : List Ints2)   : Pure Try.prog 148 [li cP xs, .fn 149 []] (.bool (decide (0 ≤ findI badVals xs))) := by
  refine Pure.of_walk Try.func148 rfl (by simp [Try.f148]) (by simp [-List.drop_one, go_sem]) fun B hK => ?_
  (repeat' (first
    | refine AW_seq ?_
    | refine AW_region (id := 0) Γ31_ok [] (by kernel_rfl) ?_; simp  [-List.getD_eq_getElem?_getD, -List.drop_one, ↓splitB_true, ↓splitB_false, go_sem]
    | refine AW_region (id := 1) Γ31_ok [] (by kernel_rfl) ?_; simp  [-List.getD_eq_getElem?_getD, -List.drop_one, ↓splitB_true, ↓splitB_false, go_sem]
    | (refine AW_block ?_)
    | (refine AW_exit ?_; simp [-List.getD_eq_getElem?_getD, -List.drop_one, ↓splitB_true, ↓splitB_false, go_sem])
    | (refine AW_skip ?_; simp [-List.getD_eq_getElem?_getD, -List.drop_one, ↓splitB_true, ↓splitB_false, go_sem])
    | (refine AW_ret ?_; simp [-List.getD_eq_getElem?_getD, -List.drop_one, ↓splitB_true, ↓splitB_false, go_sem, Try.results148])
    | (intro hx; change AW _ _ _ _ _ _)
    | (refine ⟨?_, ?_⟩ <;> change AW _ _ _ _ _ _)
    | (intro hx; refine ⟨fun hs => ?_, fun hs => ?_⟩)
    | (refine ⟨fun hs => ?_, fun hs => ?_⟩)
    | (refine ⟨?_, fun hs => ?_⟩; change AW _ _ _ _ _ _)
    | (refine ⟨fun hs => ?_, ?_⟩; rotate_left; change AW _ _ _ _ _ _; rotate_left)))
noncomputable def containsState_pureC : Con := .pure fun
  | [.list n_xs c_xs, .fn 149 []] => ((Is cP n_xs c_xs), .bool (decide (0 ≤ findI badVals (de cP c_xs))))
  | _ => (False, .any)
attribute [go_sem] containsState_pureC
theorem containsState_pureC_ok : ConOk Try.prog 148 containsState_pureC := by
  refine ⟨callable Try.func148 (by decide) rfl, fun args h => ?_⟩
  revert h
  dsimp only
  split
  · intro h
    obtain ⟨xs, rfl, rfl⟩ := h
    try simp only [de_cat] at *
    exact ⟨containsState_pure xs , by simp [go_sem]⟩
  · intro h
    exact h.elim
noncomputable def Γ32 : FuncId → Con := ext Γ31 148 containsState_pureC
attribute [go_sem] Γ32
theorem Γ32_ok : ∀ g, ConOk Try.prog g (Γ32 g) := ext_ok Γ31_ok containsState_pureC_ok

/-- The number is there. -/
def isN (n : Int) (x : Int) : Bool := decide (n = x)
theorem findI_isN {n : Int} {xs : List Int} : (0 ≤ findI (isN n) xs) = (n ∈ xs) := by
  rw [findI_ge, mem_nth]; simp only [isN, decide_eq_true_eq]
  rw [eq_iff_iff]; exact ⟨fun ⟨i, h, e⟩ => ⟨i, h, e.symm⟩, fun ⟨i, h, e⟩ => ⟨i, h, e.symm⟩⟩

theorem index_pure (xs : List Int) (n : Int)  : Pure Try.prog 96 [li cI xs, .int .i64 n] (.int .i64 (findI (isN n) xs)) := by
  refine Pure.of_walk Try.func96 rfl (by simp [Try.f96]) (by simp [-List.drop_one, go_sem]) fun B hK => ?_
  (repeat' (first
    | refine AW_seq ?_
    | (refine AW_len 0 rfl fun hm => ?_); refine AW_region (id := 0) Γ32_ok [] (by kernel_rfl) ?_; simp  [-List.getD_eq_getElem?_getD, -List.drop_one, ↓splitB_true, ↓splitB_false, go_sem]
    | refine AW_region (id := 1) Γ32_ok [] (by kernel_rfl) ?_; simp  [-List.getD_eq_getElem?_getD, -List.drop_one, ↓splitB_true, ↓splitB_false, go_sem]
    | refine AW_region (id := 2) Γ32_ok [] (by kernel_rfl) ?_; simp  [-List.getD_eq_getElem?_getD, -List.drop_one, ↓splitB_true, ↓splitB_false, go_sem]
    | refine AW_region (id := 3) Γ32_ok [] (by kernel_rfl) ?_; simp  [-List.getD_eq_getElem?_getD, -List.drop_one, ↓splitB_true, ↓splitB_false, go_sem]
    | refine AW_region (id := 4) Γ32_ok [] (by kernel_rfl) ?_; simp  [-List.getD_eq_getElem?_getD, -List.drop_one, ↓splitB_true, ↓splitB_false, go_sem, c9, ne_nil c9, Nat.sub_pos_of_lt c9]
    | refine AW_region (id := 5) Γ32_ok [] (by kernel_rfl) ?_; simp  [-List.getD_eq_getElem?_getD, -List.drop_one, ↓splitB_true, ↓splitB_false, go_sem]
    | refine AW_region (id := 6) Γ32_ok [] (by kernel_rfl) ?_; simp  [-List.getD_eq_getElem?_getD, -List.drop_one, ↓splitB_true, ↓splitB_false, go_sem, wrapS (k := k) (by omega)]
    | refine AW_region (id := 7) Γ32_ok [] (by kernel_rfl) ?_; simp  [-List.getD_eq_getElem?_getD, -List.drop_one, ↓splitB_true, ↓splitB_false, go_sem]
    | refine AW_condA (c := .tmp 9) ?_; simp [-List.getD_eq_getElem?_getD, -List.drop_one, ↓splitB_true, ↓splitB_false, go_sem]; try first | (refine ⟨?_, ?_⟩ <;> change AW _ _ _ _ _ _) | (refine ⟨fun c9 => ?_, fun c9 => ?_⟩ <;> (try simp [B_iff, B_not] at c9))
    | refine AW_condA (c := .tmp 16) ?_; simp [-List.getD_eq_getElem?_getD, -List.drop_one, ↓splitB_true, ↓splitB_false, go_sem]; try first | (refine ⟨?_, ?_⟩ <;> change AW _ _ _ _ _ _) | (refine ⟨fun c16 => ?_, fun c16 => ?_⟩ <;> (try simp [B_iff, B_not] at c16))
    | (refine AW_block (id := 0) (AW_loop (ι := Nat) (fun k : Nat => ⟨(upd (upd (upd (upd (upd (fun _ => .any) 0 (li cI xs)) 1 (.int .i64 n)) 6 (li cI xs)) 7 (.int .i64 xs.length)) 8 (.int .i64 k)), fun _ => none⟩) (fun k => k ≤ xs.length ∧ NoneTill (fun i => isN n (nth xs i)) k) (fun k => xs.length - k) (0) ?_ ?_ ?_); exact ⟨Nat.zero_le _, .zero _⟩; ((repeat' (first | exact sub_noneH (by assumption) | exact sub_none | refine sub_upd ?_ ?_ | refine sub_noneE ?_)) <;> simp [-List.getD_eq_getElem?_getD, -List.drop_one, ↓splitB_true, ↓splitB_false, go_sem]); rintro k ⟨hk, ht⟩)
    | (refine ⟨k + 1, ⟨by omega, ht.succ (by simp_all [isN])⟩, by first | omega | (simp; done) | (simp; omega), ?_⟩; ((repeat' (first | exact sub_noneH (by assumption) | exact sub_none | refine sub_upd ?_ ?_ | refine sub_noneE ?_)) <;> simp [-List.getD_eq_getElem?_getD, -List.drop_one, ↓splitB_true, ↓splitB_false, go_sem]))
    | (refine AW_block ?_)
    | (refine AW_exit ?_; simp [-List.getD_eq_getElem?_getD, -List.drop_one, ↓splitB_true, ↓splitB_false, go_sem])
    | (refine AW_skip ?_; simp [-List.getD_eq_getElem?_getD, -List.drop_one, ↓splitB_true, ↓splitB_false, go_sem])
    | (refine AW_ret ?_; simp [-List.getD_eq_getElem?_getD, -List.drop_one, ↓splitB_true, ↓splitB_false, go_sem, Try.results96])
    | (intro hx; change AW _ _ _ _ _ _)
    | (refine ⟨?_, ?_⟩ <;> change AW _ _ _ _ _ _)
    | (intro hx; refine ⟨fun hs => ?_, fun hs => ?_⟩)
    | (refine ⟨fun hs => ?_, fun hs => ?_⟩)
    | (refine ⟨?_, fun hs => ?_⟩; change AW _ _ _ _ _ _)
    | (refine ⟨fun hs => ?_, ?_⟩; rotate_left; change AW _ _ _ _ _ _; rotate_left)))
  all_goals (first
    | (rw [findI_at ht c9 (by simp_all [isN])])
    | (rw [findI_none ht (by omega)])
    | skip)
noncomputable def index_pureC : Con := .pure fun
  | [.list n_xs c_xs, .int .i64 n] => ((Is cI n_xs c_xs), .int .i64 (findI (isN n) (de cI c_xs)))
  | _ => (False, .any)
attribute [go_sem] index_pureC
theorem index_pureC_ok : ConOk Try.prog 96 index_pureC := by
  refine ⟨callable Try.func96 (by decide) rfl, fun args h => ?_⟩
  revert h
  dsimp only
  split
  · intro h
    obtain ⟨xs, rfl, rfl⟩ := h
    try simp only [de_cat] at *
    exact ⟨index_pure xs _, by simp [go_sem]⟩
  · intro h
    exact h.elim
noncomputable def Γ33 : FuncId → Con := ext Γ32 96 index_pureC
attribute [go_sem] Γ33
theorem Γ33_ok : ∀ g, ConOk Try.prog g (Γ33 g) := ext_ok Γ32_ok index_pureC_ok

theorem contains_pure (xs : List Int) (n : Int)  : Pure Try.prog 98 [li cI xs, .int .i64 n] (.bool (B (n ∈ xs))) := by
  refine Pure.of_walk Try.func98 rfl (by simp [Try.f98]) (by simp [-List.drop_one, go_sem]) fun B hK => ?_
  (repeat' (first
    | refine AW_seq ?_
    | refine AW_region (id := 0) Γ33_ok [] (by kernel_rfl) ?_; simp  [-List.getD_eq_getElem?_getD, -List.drop_one, ↓splitB_true, ↓splitB_false, go_sem, findI_isN]
    | refine AW_region (id := 1) Γ33_ok [] (by kernel_rfl) ?_; simp  [-List.getD_eq_getElem?_getD, -List.drop_one, ↓splitB_true, ↓splitB_false, go_sem, findI_isN]
    | (refine AW_block ?_)
    | (refine AW_exit ?_; simp [-List.getD_eq_getElem?_getD, -List.drop_one, ↓splitB_true, ↓splitB_false, go_sem])
    | (refine AW_skip ?_; simp [-List.getD_eq_getElem?_getD, -List.drop_one, ↓splitB_true, ↓splitB_false, go_sem])
    | (refine AW_ret ?_; simp [-List.getD_eq_getElem?_getD, -List.drop_one, ↓splitB_true, ↓splitB_false, go_sem, Try.results98, findI_isN])
    | (intro hx; change AW _ _ _ _ _ _)
    | (refine ⟨?_, ?_⟩ <;> change AW _ _ _ _ _ _)
    | (intro hx; refine ⟨fun hs => ?_, fun hs => ?_⟩)
    | (refine ⟨fun hs => ?_, fun hs => ?_⟩)
    | (refine ⟨?_, fun hs => ?_⟩; change AW _ _ _ _ _ _)
    | (refine ⟨fun hs => ?_, ?_⟩; rotate_left; change AW _ _ _ _ _ _; rotate_left)))
  all_goals (rw [Bool.eq_iff_iff, B_iff, decide_eq_true_eq])
noncomputable def contains_pureC : Con := .pure fun
  | [.list n_xs c_xs, .int .i64 n] => ((Is cI n_xs c_xs), .bool (B (n ∈ (de cI c_xs))))
  | _ => (False, .any)
attribute [go_sem] contains_pureC
theorem contains_pureC_ok : ConOk Try.prog 98 contains_pureC := by
  refine ⟨callable Try.func98 (by decide) rfl, fun args h => ?_⟩
  revert h
  dsimp only
  split
  · intro h
    obtain ⟨xs, rfl, rfl⟩ := h
    try simp only [de_cat] at *
    exact ⟨contains_pure xs _, by simp [go_sem]⟩
  · intro h
    exact h.elim
noncomputable def Γ34 : FuncId → Con := ext Γ33 98 contains_pureC
attribute [go_sem] Γ34
theorem Γ34_ok : ∀ g, ConOk Try.prog g (Γ34 g) := ext_ok Γ33_ok contains_pureC_ok

theorem distinct_pure (xs : List Int) (n : Int) (h0 : 0 ≤ n) (h1 : n ≤ 9223372036854775807) : Pure Try.prog 153 [li cI xs, .int .i64 n] (.bool (B (Dist xs n))) := by
  refine Pure.of_walk Try.func153 rfl (by simp [Try.f153]) (by simp [-List.drop_one, go_sem]) fun B hK => ?_
  (repeat' (first
    | refine AW_seq ?_
    | (refine AW_len 0 rfl fun hm => ?_); refine AW_region (id := 0) Γ34_ok [] (by kernel_rfl) ?_; simp  [-List.getD_eq_getElem?_getD, -List.drop_one, ↓splitB_true, ↓splitB_false, go_sem]
    | refine AW_region (id := 1) Γ34_ok [] (by kernel_rfl) ?_; simp  [-List.getD_eq_getElem?_getD, -List.drop_one, ↓splitB_true, ↓splitB_false, go_sem]
    | refine AW_region (id := 2) Γ34_ok [] (by kernel_rfl) ?_; simp  [-List.getD_eq_getElem?_getD, -List.drop_one, ↓splitB_true, ↓splitB_false, go_sem]
    | refine AW_region (id := 3) Γ34_ok [] (by kernel_rfl) ?_; simp  [-List.getD_eq_getElem?_getD, -List.drop_one, ↓splitB_true, ↓splitB_false, go_sem, c10, ne_nil c10, Nat.sub_pos_of_lt c10]
    | refine AW_region (id := 4) Γ34_ok [19] (by kernel_rfl) ?_; simp  [-List.getD_eq_getElem?_getD, -List.drop_one, ↓splitB_true, ↓splitB_false, go_sem, c10, ne_nil c10, Nat.sub_pos_of_lt c10, wrap_in (x := n - 1) (by omega) (by omega), Nat.le_of_lt c10]; try (refine ⟨fun s4a => ?_, fun s4a => ?_⟩ <;> (try simp [B_iff, B_not] at s4a) <;> try (refine ⟨fun s4b => ?_, fun s4b => ?_⟩ <;> (try simp [B_iff, B_not] at s4b)))
    | refine AW_region (id := 5) Γ34_ok [] (by kernel_rfl) ?_; simp  [-List.getD_eq_getElem?_getD, -List.drop_one, ↓splitB_true, ↓splitB_false, go_sem]
    | refine AW_region (id := 6) Γ34_ok [] (by kernel_rfl) ?_; simp  [-List.getD_eq_getElem?_getD, -List.drop_one, ↓splitB_true, ↓splitB_false, go_sem, wrapS (k := k) (by omega)]
    | refine AW_region (id := 7) Γ34_ok [] (by kernel_rfl) ?_; simp  [-List.getD_eq_getElem?_getD, -List.drop_one, ↓splitB_true, ↓splitB_false, go_sem]
    | refine AW_condA (c := .tmp 10) ?_; simp [-List.getD_eq_getElem?_getD, -List.drop_one, ↓splitB_true, ↓splitB_false, go_sem]; try first | (refine ⟨?_, ?_⟩ <;> change AW _ _ _ _ _ _) | (refine ⟨fun c10 => ?_, fun c10 => ?_⟩ <;> (try simp [B_iff, B_not] at c10))
    | refine AW_condA (c := .tmp 25) ?_; simp [-List.getD_eq_getElem?_getD, -List.drop_one, ↓splitB_true, ↓splitB_false, go_sem]; try first | (refine ⟨?_, ?_⟩ <;> change AW _ _ _ _ _ _) | (refine ⟨fun c25 => ?_, fun c25 => ?_⟩ <;> (try simp [B_iff, B_not] at c25))
    | (refine AW_block (id := 0) (AW_loop (ι := Nat) (fun k : Nat => ⟨(upd (upd (upd (upd (upd (fun _ => .any) 0 (li cI xs)) 1 (.int .i64 n)) 7 (li cI xs)) 8 (.int .i64 xs.length)) 9 (.int .i64 k)), fun _ => none⟩) (fun k => k ≤ xs.length ∧ AllTill (fun i => 0 ≤ nth xs i ∧ nth xs i ≤ n - 1 ∧ ¬ nth xs i ∈ xs.take i) k) (fun k => xs.length - k) (0) ?_ ?_ ?_); exact ⟨Nat.zero_le _, .zero _⟩; ((repeat' (first | exact sub_noneH (by assumption) | exact sub_none | refine sub_upd ?_ ?_ | refine sub_noneE ?_)) <;> simp [-List.getD_eq_getElem?_getD, -List.drop_one, ↓splitB_true, ↓splitB_false, go_sem]); rintro k ⟨hk, ht⟩)
    | (refine ⟨k + 1, ⟨by omega, ht.succ ⟨by omega, by omega, c25⟩⟩, by first | omega | (simp; done) | (simp; omega), ?_⟩; ((repeat' (first | exact sub_noneH (by assumption) | exact sub_none | refine sub_upd ?_ ?_ | refine sub_noneE ?_)) <;> simp [-List.getD_eq_getElem?_getD, -List.drop_one, ↓splitB_true, ↓splitB_false, go_sem]))
    | (refine AW_block ?_)
    | (refine AW_exit ?_; simp [-List.getD_eq_getElem?_getD, -List.drop_one, ↓splitB_true, ↓splitB_false, go_sem])
    | (refine AW_skip ?_; simp [-List.getD_eq_getElem?_getD, -List.drop_one, ↓splitB_true, ↓splitB_false, go_sem])
    | (refine AW_ret ?_; simp [-List.getD_eq_getElem?_getD, -List.drop_one, ↓splitB_true, ↓splitB_false, go_sem, Try.results153])
    | (intro hx; change AW _ _ _ _ _ _)
    | (refine ⟨?_, ?_⟩ <;> change AW _ _ _ _ _ _)
    | (intro hx; refine ⟨fun hs => ?_, fun hs => ?_⟩)
    | (refine ⟨fun hs => ?_, fun hs => ?_⟩)
    | (refine ⟨?_, fun hs => ?_⟩; change AW _ _ _ _ _ _)
    | (refine ⟨fun hs => ?_, ?_⟩; rotate_left; change AW _ _ _ _ _ _; rotate_left)))
  all_goals (first
    | (intro h; obtain ⟨h1, h2, h3⟩ := h k c10; omega)
    | (intro h; exact (h k c10).2.2 c25)
    | exact fun i hi => ht i (by omega)
    | skip)
noncomputable def distinct_pureC : Con := .pure fun
  | [.list n_xs c_xs, .int .i64 n] => ((Is cI n_xs c_xs) ∧ (0 ≤ n) ∧ (n ≤ 9223372036854775807), .bool (B (Dist (de cI c_xs) n)))
  | _ => (False, .any)
attribute [go_sem] distinct_pureC
theorem distinct_pureC_ok : ConOk Try.prog 153 distinct_pureC := by
  refine ⟨callable Try.func153 (by decide) rfl, fun args h => ?_⟩
  revert h
  dsimp only
  split
  · intro h
    obtain ⟨⟨xs, rfl, rfl⟩, h0, h1⟩ := h
    try simp only [de_cat] at *
    exact ⟨distinct_pure xs _ h0 h1, by simp [go_sem]⟩
  · intro h
    exact h.elim
noncomputable def Γ35 : FuncId → Con := ext Γ34 153 distinct_pureC
attribute [go_sem] Γ35
theorem Γ35_ok : ∀ g, ConOk Try.prog g (Γ35 g) := ext_ok Γ34_ok distinct_pureC_ok

/-- Not a list of successors. -/
noncomputable def badNext (n : Int) (xs : List Int) : Bool := decide (xs.length = 0) || !B (Dist xs n)

theorem graphValid2_pure (xs : List Int) (n : Int) (h0 : 0 ≤ n) (h1 : n ≤ 9223372036854775807) : Pure Try.prog 152 [li cI xs, .pd [.int .i64 n]] (.bool (badNext n xs)) := by
  refine Pure.of_walk Try.func152 rfl (by simp [Try.f152]) (by simp [-List.drop_one, go_sem]) fun B hK => ?_
  (repeat' (first
    | refine AW_seq ?_
    | refine AW_region (id := 0) Γ35_ok [] (by kernel_rfl) ?_; simp  [-List.getD_eq_getElem?_getD, -List.drop_one, ↓splitB_true, ↓splitB_false, go_sem, badNext]
    | refine AW_region (id := 1) Γ35_ok [7] (by kernel_rfl) ?_; simp  [-List.getD_eq_getElem?_getD, -List.drop_one, ↓splitB_true, ↓splitB_false, go_sem, h0, h1, badNext]; try (refine ⟨fun s1a => ?_, fun s1a => ?_⟩ <;> (try simp [B_iff, B_not] at s1a) <;> try (refine ⟨fun s1b => ?_, fun s1b => ?_⟩ <;> (try simp [B_iff, B_not] at s1b)))
    | (refine AW_block ?_)
    | (refine AW_exit ?_; simp [-List.getD_eq_getElem?_getD, -List.drop_one, ↓splitB_true, ↓splitB_false, go_sem])
    | (refine AW_skip ?_; simp [-List.getD_eq_getElem?_getD, -List.drop_one, ↓splitB_true, ↓splitB_false, go_sem])
    | (refine AW_ret ?_; simp [-List.getD_eq_getElem?_getD, -List.drop_one, ↓splitB_true, ↓splitB_false, go_sem, Try.results152, badNext])
    | (intro hx; change AW _ _ _ _ _ _)
    | (refine ⟨?_, ?_⟩ <;> change AW _ _ _ _ _ _)
    | (intro hx; refine ⟨fun hs => ?_, fun hs => ?_⟩)
    | (refine ⟨fun hs => ?_, fun hs => ?_⟩)
    | (refine ⟨?_, fun hs => ?_⟩; change AW _ _ _ _ _ _)
    | (refine ⟨fun hs => ?_, ?_⟩; rotate_left; change AW _ _ _ _ _ _; rotate_left)))
  all_goals (first
    | exact .inl s1a
    | (intro h; exact absurd h s1a)
    | skip)
noncomputable def graphValid2_pureC : Con := .pure fun
  | [.list n_xs c_xs, .pd [.int .i64 n]] => ((Is cI n_xs c_xs) ∧ (0 ≤ n) ∧ (n ≤ 9223372036854775807), .bool (badNext n (de cI c_xs)))
  | _ => (False, .any)
attribute [go_sem] graphValid2_pureC
theorem graphValid2_pureC_ok : ConOk Try.prog 152 graphValid2_pureC := by
  refine ⟨callable Try.func152 (by decide) rfl, fun args h => ?_⟩
  revert h
  dsimp only
  split
  · intro h
    obtain ⟨⟨xs, rfl, rfl⟩, h0, h1⟩ := h
    try simp only [de_cat] at *
    exact ⟨graphValid2_pure xs _ h0 h1, by simp [go_sem]⟩
  · intro h
    exact h.elim
noncomputable def Γ36 : FuncId → Con := ext Γ35 152 graphValid2_pureC
attribute [go_sem] Γ36
theorem Γ36_ok : ∀ g, ConOk Try.prog g (Γ36 g) := ext_ok Γ35_ok graphValid2_pureC_ok

theorem indexNext_pure (xs : List (List Int)) (n : Int) (h0 : 0 ≤ n) (h1 : n ≤ 9223372036854775807) : Pure Try.prog 190 [li cL xs, .fn 152 [.pd [.int .i64 n]]] (.int .i64 (findI (badNext n) xs)) := by
  refine Pure.of_walk Try.func190 rfl (by simp [Try.f190]) (by simp [-List.drop_one, go_sem]) fun B hK => ?_
  (repeat' (first
    | refine AW_seq ?_
    | (refine AW_len 0 rfl fun hm => ?_); refine AW_region (id := 0) Γ36_ok [] (by kernel_rfl) ?_; simp  [-List.getD_eq_getElem?_getD, -List.drop_one, ↓splitB_true, ↓splitB_false, go_sem]
    | refine AW_region (id := 1) Γ36_ok [] (by kernel_rfl) ?_; simp  [-List.getD_eq_getElem?_getD, -List.drop_one, ↓splitB_true, ↓splitB_false, go_sem]
    | refine AW_region (id := 2) Γ36_ok [] (by kernel_rfl) ?_; simp  [-List.getD_eq_getElem?_getD, -List.drop_one, ↓splitB_true, ↓splitB_false, go_sem]
    | refine AW_region (id := 3) Γ36_ok [] (by kernel_rfl) ?_; simp  [-List.getD_eq_getElem?_getD, -List.drop_one, ↓splitB_true, ↓splitB_false, go_sem]
    | refine AW_region (id := 4) Γ36_ok [] (by kernel_rfl) ?_; simp  [-List.getD_eq_getElem?_getD, -List.drop_one, ↓splitB_true, ↓splitB_false, go_sem, c9, ne_nil c9, Nat.sub_pos_of_lt c9, h0, h1]
    | refine AW_region (id := 5) Γ36_ok [] (by kernel_rfl) ?_; simp  [-List.getD_eq_getElem?_getD, -List.drop_one, ↓splitB_true, ↓splitB_false, go_sem]
    | refine AW_region (id := 6) Γ36_ok [] (by kernel_rfl) ?_; simp  [-List.getD_eq_getElem?_getD, -List.drop_one, ↓splitB_true, ↓splitB_false, go_sem, wrapS (k := k) (by omega)]
    | refine AW_region (id := 7) Γ36_ok [] (by kernel_rfl) ?_; simp  [-List.getD_eq_getElem?_getD, -List.drop_one, ↓splitB_true, ↓splitB_false, go_sem]
    | refine AW_condA (c := .tmp 9) ?_; simp [-List.getD_eq_getElem?_getD, -List.drop_one, ↓splitB_true, ↓splitB_false, go_sem]; try first | (refine ⟨?_, ?_⟩ <;> change AW _ _ _ _ _ _) | (refine ⟨fun c9 => ?_, fun c9 => ?_⟩ <;> (try simp [B_iff, B_not] at c9))
    | refine AW_condA (c := .tmp 16) ?_; simp [-List.getD_eq_getElem?_getD, -List.drop_one, ↓splitB_true, ↓splitB_false, go_sem]; try first | (refine ⟨?_, ?_⟩ <;> change AW _ _ _ _ _ _) | (refine ⟨fun c16 => ?_, fun c16 => ?_⟩ <;> (try simp [B_iff, B_not] at c16))
    | (refine AW_block (id := 0) (AW_loop (ι := Nat) (fun k : Nat => ⟨(upd (upd (upd (upd (upd (fun _ => .any) 0 (li cL xs)) 1 (.fn 152 [.pd [.int .i64 n]])) 6 (li cL xs)) 7 (.int .i64 xs.length)) 8 (.int .i64 k)), fun _ => none⟩) (fun k => k ≤ xs.length ∧ NoneTill (fun i => (badNext n) (nth xs i)) k) (fun k => xs.length - k) (0) ?_ ?_ ?_); exact ⟨Nat.zero_le _, .zero _⟩; ((repeat' (first | exact sub_noneH (by assumption) | exact sub_none | refine sub_upd ?_ ?_ | refine sub_noneE ?_)) <;> simp [-List.getD_eq_getElem?_getD, -List.drop_one, ↓splitB_true, ↓splitB_false, go_sem]); rintro k ⟨hk, ht⟩)
    | (refine ⟨k + 1, ⟨by omega, ht.succ (by simp_all)⟩, by first | omega | (simp; done) | (simp; omega), ?_⟩; ((repeat' (first | exact sub_noneH (by assumption) | exact sub_none | refine sub_upd ?_ ?_ | refine sub_noneE ?_)) <;> simp [-List.getD_eq_getElem?_getD, -List.drop_one, ↓splitB_true, ↓splitB_false, go_sem]))
    | (refine AW_block ?_)
    | (refine AW_exit ?_; simp [-List.getD_eq_getElem?_getD, -List.drop_one, ↓splitB_true, ↓splitB_false, go_sem])
    | (refine AW_skip ?_; simp [-List.getD_eq_getElem?_getD, -List.drop_one, ↓splitB_true, ↓splitB_false, go_sem])
    | (refine AW_ret ?_; simp [-List.getD_eq_getElem?_getD, -List.drop_one, ↓splitB_true, ↓splitB_false, go_sem, Try.results190])
    | (intro hx; change AW _ _ _ _ _ _)
    | (refine ⟨?_, ?_⟩ <;> change AW _ _ _ _ _ _)
    | (intro hx; refine ⟨fun hs => ?_, fun hs => ?_⟩)
    | (refine ⟨fun hs => ?_, fun hs => ?_⟩)
    | (refine ⟨?_, fun hs => ?_⟩; change AW _ _ _ _ _ _)
    | (refine ⟨fun hs => ?_, ?_⟩; rotate_left; change AW _ _ _ _ _ _; rotate_left)))
  all_goals (first
    | (rw [findI_at ht c9 (by simp_all)])
    | (rw [findI_none ht (by omega)])
    | skip)
noncomputable def indexNext_pureC : Con := .pure fun
  | [.list n_xs c_xs, .fn 152 [.pd [.int .i64 n]]] => ((Is cL n_xs c_xs) ∧ (0 ≤ n) ∧ (n ≤ 9223372036854775807), .int .i64 (findI (badNext n) (de cL c_xs)))
  | _ => (False, .any)
attribute [go_sem] indexNext_pureC
theorem indexNext_pureC_ok : ConOk Try.prog 190 indexNext_pureC := by
  refine ⟨callable Try.func190 (by decide) rfl, fun args h => ?_⟩
  revert h
  dsimp only
  split
  · intro h
    obtain ⟨⟨xs, rfl, rfl⟩, h0, h1⟩ := h
    try simp only [de_cat] at *
    exact ⟨indexNext_pure xs _ h0 h1, by simp [go_sem]⟩
  · intro h
    exact h.elim
noncomputable def Γ37 : FuncId → Con := ext Γ36 190 indexNext_pureC
attribute [go_sem] Γ37
theorem Γ37_ok : ∀ g, ConOk Try.prog g (Γ37 g) := ext_ok Γ36_ok indexNext_pureC_ok

theorem containsNext_pure (xs : List (List Int)) (n : Int) (h0 : 0 ≤ n) (h1 : n ≤ 9223372036854775807) : Pure Try.prog 151 [li cL xs, .fn 152 [.pd [.int .i64 n]]] (.bool (decide (0 ≤ findI (badNext n) xs))) := by
  refine Pure.of_walk Try.func151 rfl (by simp [Try.f151]) (by simp [-List.drop_one, go_sem]) fun B hK => ?_
  (repeat' (first
    | refine AW_seq ?_
    | refine AW_region (id := 0) Γ37_ok [] (by kernel_rfl) ?_; simp  [-List.getD_eq_getElem?_getD, -List.drop_one, ↓splitB_true, ↓splitB_false, go_sem]
    | refine AW_region (id := 1) Γ37_ok [] (by kernel_rfl) ?_; simp  [-List.getD_eq_getElem?_getD, -List.drop_one, ↓splitB_true, ↓splitB_false, go_sem, h0, h1]
    | (refine AW_block ?_)
    | (refine AW_exit ?_; simp [-List.getD_eq_getElem?_getD, -List.drop_one, ↓splitB_true, ↓splitB_false, go_sem])
    | (refine AW_skip ?_; simp [-List.getD_eq_getElem?_getD, -List.drop_one, ↓splitB_true, ↓splitB_false, go_sem])
    | (refine AW_ret ?_; simp [-List.getD_eq_getElem?_getD, -List.drop_one, ↓splitB_true, ↓splitB_false, go_sem, Try.results151])
    | (intro hx; change AW _ _ _ _ _ _)
    | (refine ⟨?_, ?_⟩ <;> change AW _ _ _ _ _ _)
    | (intro hx; refine ⟨fun hs => ?_, fun hs => ?_⟩)
    | (refine ⟨fun hs => ?_, fun hs => ?_⟩)
    | (refine ⟨?_, fun hs => ?_⟩; change AW _ _ _ _ _ _)
    | (refine ⟨fun hs => ?_, ?_⟩; rotate_left; change AW _ _ _ _ _ _; rotate_left)))
noncomputable def containsNext_pureC : Con := .pure fun
  | [.list n_xs c_xs, .fn 152 [.pd [.int .i64 n]]] => ((Is cL n_xs c_xs) ∧ (0 ≤ n) ∧ (n ≤ 9223372036854775807), .bool (decide (0 ≤ findI (badNext n) (de cL c_xs))))
  | _ => (False, .any)
attribute [go_sem] containsNext_pureC
theorem containsNext_pureC_ok : ConOk Try.prog 151 containsNext_pureC := by
  refine ⟨callable Try.func151 (by decide) rfl, fun args h => ?_⟩
  revert h
  dsimp only
  split
  · intro h
    obtain ⟨⟨xs, rfl, rfl⟩, h0, h1⟩ := h
    try simp only [de_cat] at *
    exact ⟨containsNext_pure xs _ h0 h1, by simp [go_sem]⟩
  · intro h
    exact h.elim
noncomputable def Γ38 : FuncId → Con := ext Γ37 151 containsNext_pureC
attribute [go_sem] Γ38
theorem Γ38_ok : ∀ g, ConOk Try.prog g (Γ38 g) := ext_ok Γ37_ok containsNext_pureC_ok

theorem find_bad {a : List Ints2} : (0 ≤ findI badVals a) = ¬ ∀ i, i < a.length → ValsOk (nth a i).2 := by
  rw [findI_ge, eq_iff_iff]
  constructor
  · rintro ⟨i, h, e⟩ k
    simp [badVals, B_not] at e
    exact e (k i h)
  · intro h
    apply Classical.byContradiction; intro h2
    apply h; intro i hi
    apply Classical.byContradiction; intro h3
    exact h2 ⟨i, hi, by simp [badVals, B_not]; exact h3⟩
theorem find_next {b : List (List Int)} {n : Int} : (0 ≤ findI (badNext n) b) = ¬ ∀ i, i < b.length → 1 ≤ (nth b i).length ∧ Dist (nth b i) n := by
  rw [findI_ge, eq_iff_iff]
  constructor
  · rintro ⟨i, h, e⟩ k
    obtain ⟨k1, k2⟩ := k i h
    simp only [badNext, Bool.or_eq_true, decide_eq_true_eq, Bool.not_eq_true', B_not] at e
    rcases e with e | e
    · omega
    · exact e k2
  · intro h
    apply Classical.byContradiction; intro h2
    apply h; intro i hi
    apply Classical.byContradiction; intro h3
    refine h2 ⟨i, hi, ?_⟩
    simp only [badNext, Bool.or_eq_true, decide_eq_true_eq, Bool.not_eq_true', B_not]
    rcases Nat.eq_zero_or_pos (nth b i).length with h4 | h4
    · exact .inl h4
    · exact .inr fun h5 => h3 ⟨h4, h5⟩

theorem implGraphValid_pure (a : List Ints2) (b : List (List Int))  : Pure Try.prog 85 [.st [li cP a, li cL b]] (.bool (B (GraphOk a b))) := by
  refine Pure.of_walk Try.func85 rfl (by simp [Try.f85]) (by simp [-List.drop_one, go_sem]) fun B hK => ?_
  (repeat' (first
    | refine AW_seq ?_
    | refine AW_region (id := 0) Γ38_ok [] (by kernel_rfl) ?_; simp  [-List.getD_eq_getElem?_getD, -List.drop_one, ↓splitB_true, ↓splitB_false, go_sem]; try (refine AW_data hK 1 ?_; simp [go_sem])
    | (refine AW_lenP 1 0 ⟨rfl, rfl⟩ fun hm => ?_); refine AW_region (id := 1) Γ38_ok [] (by kernel_rfl) ?_; simp  [-List.getD_eq_getElem?_getD, -List.drop_one, ↓splitB_true, ↓splitB_false, go_sem]; try (refine AW_data hK 3 ?_; simp [go_sem])
    | refine AW_region (id := 2) Γ38_ok [9, 16, 22] (by kernel_rfl) ?_; simp  [-List.getD_eq_getElem?_getD, -List.drop_one, ↓splitB_true, ↓splitB_false, go_sem, (by omega : (a.length : Int) ≤ 9223372036854775807)]; try (refine ⟨fun s2a => ?_, fun s2a => ?_⟩ <;> (try simp [B_iff, B_not] at s2a) <;> try (refine ⟨fun s2b => ?_, fun s2b => ?_⟩ <;> (try simp [B_iff, B_not] at s2b) <;> try (refine ⟨fun s2c => ?_, fun s2c => ?_⟩ <;> (try simp [B_iff, B_not] at s2c) <;> try (refine ⟨fun s2d => ?_, fun s2d => ?_⟩ <;> (try simp [B_iff, B_not] at s2d)))))
    | (refine AW_block ?_)
    | (refine AW_exit ?_; simp [-List.getD_eq_getElem?_getD, -List.drop_one, ↓splitB_true, ↓splitB_false, go_sem])
    | (refine AW_skip ?_; simp [-List.getD_eq_getElem?_getD, -List.drop_one, ↓splitB_true, ↓splitB_false, go_sem])
    | (refine AW_ret ?_; simp [-List.getD_eq_getElem?_getD, -List.drop_one, ↓splitB_true, ↓splitB_false, go_sem, Try.results85])
    | (intro hx; change AW _ _ _ _ _ _)
    | (refine ⟨?_, ?_⟩ <;> change AW _ _ _ _ _ _)
    | (intro hx; refine ⟨fun hs => ?_, fun hs => ?_⟩)
    | (refine ⟨fun hs => ?_, fun hs => ?_⟩)
    | (refine ⟨?_, fun hs => ?_⟩; change AW _ _ _ _ _ _)
    | (refine ⟨fun hs => ?_, ?_⟩; rotate_left; change AW _ _ _ _ _ _; rotate_left)))
  all_goals (first
    | (rintro ⟨g1, g2, g3, g4, g5⟩; omega)
    | (rintro ⟨g1, g2, g3, g4, g5⟩; have k : 0 ≤ findI badVals a := (by omega); rw [find_bad] at k; exact k g4)
    | (rw [Bool.eq_iff_iff, decide_eq_true_eq, find_next, Bool.not_eq_true', B_not]; have hv : ∀ i, i < a.length → ValsOk (nth a i).2 := (Classical.byContradiction fun k => by rw [← find_bad] at k; omega); exact ⟨fun h k => h k.2.2.2.2, fun h k => h ⟨by omega, by omega, by omega, hv, k⟩⟩)
    | skip)
noncomputable def implGraphValid_pureC : Con := .pure fun
  | [.st [.list n_a c_a, .list n_b c_b]] => ((Is cP n_a c_a) ∧ (Is cL n_b c_b), .bool (B (GraphOk (de cP c_a) (de cL c_b))))
  | _ => (False, .any)
attribute [go_sem] implGraphValid_pureC
theorem implGraphValid_pureC_ok : ConOk Try.prog 85 implGraphValid_pureC := by
  refine ⟨callable Try.func85 (by decide) rfl, fun args h => ?_⟩
  revert h
  dsimp only
  split
  · intro h
    obtain ⟨⟨a, rfl, rfl⟩, ⟨b, rfl, rfl⟩⟩ := h
    try simp only [de_cat] at *
    exact ⟨implGraphValid_pure a b, by simp [go_sem]⟩
  · intro h
    exact h.elim
noncomputable def Γ39 : FuncId → Con := ext Γ38 85 implGraphValid_pureC
attribute [go_sem] Γ39
theorem Γ39_ok : ∀ g, ConOk Try.prog g (Γ39 g) := ext_ok Γ38_ok implGraphValid_pureC_ok

/-- What the reference asks of a state's successors, up to k. -/
def NextTill (xs : List Int) (n k : Nat) : Prop := AllTill (fun i => 0 ≤ nth xs i ∧ nth xs i < n ∧ ¬ nth xs i ∈ xs.take i) k
theorem NextTill.dist {xs : List Int} {n k : Nat} (h : NextTill xs n k) (hk : xs.length ≤ k) : Dist xs n := fun i hi => by obtain ⟨h1, h2, h3⟩ := h i (by omega); exact ⟨h1, by omega, h3⟩
theorem Dist.at {xs : List Int} {n : Nat} (h : Dist xs n) {k : Nat} (hk : k < xs.length) : 0 ≤ nth xs k ∧ nth xs k < n ∧ ¬ nth xs k ∈ xs.take k := by obtain ⟨h1, h2, h3⟩ := h k hk; exact ⟨h1, by omega, h3⟩
/-- What it asks of a state. -/
def StateOk (a : List Ints2) (b : List (List Int)) (i : Nat) : Prop := 1 ≤ (nth b i).length ∧ ValsOk (nth a i).2 ∧ Dist (nth b i) a.length
set_option maxHeartbeats 2000000 in

theorem specGraphValid_pure (a : List Ints2) (b : List (List Int))  : Pure Try.prog 81 [.st [li cP a, li cL b]] (.bool (B (GraphOk a b))) := by
  refine Pure.of_walk Try.func81 rfl (by simp [Try.f81]) (by simp [-List.drop_one, go_sem]) fun B hK => ?_
  (repeat' (first
    | refine AW_seq ?_
    | refine AW_region (id := 0) Γ39_ok [] (by kernel_rfl) ?_; simp  [-List.getD_eq_getElem?_getD, -List.drop_one, ↓splitB_true, ↓splitB_false, go_sem]; try (refine AW_data hK 1 ?_; simp [go_sem])
    | refine AW_region (id := 1) Γ39_ok [9, 15] (by kernel_rfl) ?_; simp  [-List.getD_eq_getElem?_getD, -List.drop_one, ↓splitB_true, ↓splitB_false, go_sem]; try (refine ⟨fun s1a => ?_, fun s1a => ?_⟩ <;> (try simp [B_iff, B_not] at s1a) <;> try (refine ⟨fun s1b => ?_, fun s1b => ?_⟩ <;> (try simp [B_iff, B_not] at s1b) <;> try (refine ⟨fun s1c => ?_, fun s1c => ?_⟩ <;> (try simp [B_iff, B_not] at s1c))))
    | refine AW_region (id := 2) Γ39_ok [] (by kernel_rfl) ?_; simp  [-List.getD_eq_getElem?_getD, -List.drop_one, ↓splitB_true, ↓splitB_false, go_sem]
    | refine AW_region (id := 3) Γ39_ok [] (by kernel_rfl) ?_; simp  [-List.getD_eq_getElem?_getD, -List.drop_one, ↓splitB_true, ↓splitB_false, go_sem]
    | refine AW_region (id := 4) Γ39_ok [] (by kernel_rfl) ?_; simp  [-List.getD_eq_getElem?_getD, -List.drop_one, ↓splitB_true, ↓splitB_false, go_sem]
    | (have ci : i < a.length := (by omega)); refine AW_region_draw (id := 6) Γ39_ok mixed [38, 50] [1] (by kernel_rfl) (by kernel_rfl) (by simp [-List.getD_eq_getElem?_getD, -List.drop_one, ↓splitB_true, ↓splitB_false, go_sem, c28, ne_nil c28, Nat.sub_pos_of_lt c28, ci, ne_nil ci, Nat.sub_pos_of_lt ci]) ?_; simp  [-List.getD_eq_getElem?_getD, -List.drop_one, ↓splitB_true, ↓splitB_false, go_sem, c28, ne_nil c28, Nat.sub_pos_of_lt c28, ci, ne_nil ci, Nat.sub_pos_of_lt ci]; try (refine ⟨fun s6a => ?_, fun s6a => ?_⟩ <;> (try simp [B_iff, B_not] at s6a) <;> try (refine ⟨fun s6b => ?_, fun s6b => ?_⟩ <;> (try simp [B_iff, B_not] at s6b) <;> try (refine ⟨fun s6c => ?_, fun s6c => ?_⟩ <;> (try simp [B_iff, B_not] at s6c))))
    | refine AW_region (id := 7) Γ39_ok [] (by kernel_rfl) ?_; simp  [-List.getD_eq_getElem?_getD, -List.drop_one, ↓splitB_true, ↓splitB_false, go_sem]
    | refine AW_region (id := 8) Γ39_ok [] (by kernel_rfl) ?_; simp  [-List.getD_eq_getElem?_getD, -List.drop_one, ↓splitB_true, ↓splitB_false, go_sem]
    | refine AW_region (id := 9) Γ39_ok [] (by kernel_rfl) ?_; simp  [-List.getD_eq_getElem?_getD, -List.drop_one, ↓splitB_true, ↓splitB_false, go_sem, c28, ne_nil c28, Nat.sub_pos_of_lt c28]
    | refine AW_region_draw (id := 11) Γ39_ok mixed [79, 93] [1, 3, 4] (by kernel_rfl) (by kernel_rfl) (by simp [-List.getD_eq_getElem?_getD, -List.drop_one, ↓splitB_true, ↓splitB_false, go_sem, c28, ne_nil c28, Nat.sub_pos_of_lt c28, c67, ne_nil c67, Nat.sub_pos_of_lt c67, Nat.le_of_lt c67]) ?_; simp  [-List.getD_eq_getElem?_getD, -List.drop_one, ↓splitB_true, ↓splitB_false, go_sem, c28, ne_nil c28, Nat.sub_pos_of_lt c28, c67, ne_nil c67, Nat.sub_pos_of_lt c67, Nat.le_of_lt c67]; try (refine ⟨fun s11a => ?_, fun s11a => ?_⟩ <;> (try simp [B_iff, B_not] at s11a) <;> try (refine ⟨fun s11b => ?_, fun s11b => ?_⟩ <;> (try simp [B_iff, B_not] at s11b) <;> try (refine ⟨fun s11c => ?_, fun s11c => ?_⟩ <;> (try simp [B_iff, B_not] at s11c))))
    | refine AW_region (id := 12) Γ39_ok [] (by kernel_rfl) ?_; simp  [-List.getD_eq_getElem?_getD, -List.drop_one, ↓splitB_true, ↓splitB_false, go_sem]
    | refine AW_region (id := 10) Γ39_ok [] (by kernel_rfl) ?_; simp  [-List.getD_eq_getElem?_getD, -List.drop_one, ↓splitB_true, ↓splitB_false, go_sem, wrapS (k := k) (by omega)]
    | refine AW_region (id := 5) Γ39_ok [] (by kernel_rfl) ?_; simp  [-List.getD_eq_getElem?_getD, -List.drop_one, ↓splitB_true, ↓splitB_false, go_sem, wrapS (k := i) (by omega)]
    | refine AW_region (id := 13) Γ39_ok [] (by kernel_rfl) ?_; simp  [-List.getD_eq_getElem?_getD, -List.drop_one, ↓splitB_true, ↓splitB_false, go_sem]
    | refine AW_condA (c := .tmp 23) ?_; simp [-List.getD_eq_getElem?_getD, -List.drop_one, ↓splitB_true, ↓splitB_false, go_sem]; try first | (refine ⟨?_, ?_⟩ <;> change AW _ _ _ _ _ _) | (refine ⟨fun c23 => ?_, fun c23 => ?_⟩ <;> (try simp [B_iff, B_not] at c23))
    | refine AW_condA (c := .tmp 28) ?_; simp [-List.getD_eq_getElem?_getD, -List.drop_one, ↓splitB_true, ↓splitB_false, go_sem]; try first | (refine ⟨?_, ?_⟩ <;> change AW _ _ _ _ _ _) | (refine ⟨fun c28 => ?_, fun c28 => ?_⟩ <;> (try simp [B_iff, B_not] at c28))
    | refine AW_condA (c := .tmp 59) ?_; simp [-List.getD_eq_getElem?_getD, -List.drop_one, ↓splitB_true, ↓splitB_false, go_sem]; try first | (refine ⟨?_, ?_⟩ <;> change AW _ _ _ _ _ _) | (refine ⟨fun c59 => ?_, fun c59 => ?_⟩ <;> (try simp [B_iff, B_not] at c59))
    | refine AW_condA (c := .tmp 67) ?_; simp [-List.getD_eq_getElem?_getD, -List.drop_one, ↓splitB_true, ↓splitB_false, go_sem]; try first | (refine ⟨?_, ?_⟩ <;> change AW _ _ _ _ _ _) | (refine ⟨fun c67 => ?_, fun c67 => ?_⟩ <;> (try simp [B_iff, B_not] at c67))
    | refine AW_condA (c := .tmp 110) ?_; simp [-List.getD_eq_getElem?_getD, -List.drop_one, ↓splitB_true, ↓splitB_false, go_sem]; try first | (refine ⟨?_, ?_⟩ <;> change AW _ _ _ _ _ _) | (refine ⟨fun c110 => ?_, fun c110 => ?_⟩ <;> (try simp [B_iff, B_not] at c110))
    | (refine AW_block (id := 0) (AW_loop (ι := Nat) (fun i : Nat => ⟨(upd (upd (fun _ => .any) 1 (.pd [li cP a, li cL b])) 3 (.int .i64 i)), fun _ => none⟩) (fun i => i ≤ b.length ∧ AllTill (StateOk a b) i) (fun i => b.length - i) (0) ?_ ?_ ?_); exact ⟨Nat.zero_le _, .zero _⟩; ((repeat' (first | exact sub_noneH (by assumption) | exact sub_none | refine sub_upd ?_ ?_ | refine sub_noneE ?_)) <;> simp [-List.getD_eq_getElem?_getD, -List.drop_one, ↓splitB_true, ↓splitB_false, go_sem]); rintro i ⟨hi, hu⟩)
    | (refine ⟨i + 1, ⟨by omega, hu.succ ⟨by omega, c59, ht.dist (by omega)⟩⟩, by first | omega | (simp; done) | (simp; omega), ?_⟩; ((repeat' (first | exact sub_noneH (by assumption) | exact sub_none | refine sub_upd ?_ ?_ | refine sub_noneE ?_)) <;> simp [-List.getD_eq_getElem?_getD, -List.drop_one, ↓splitB_true, ↓splitB_false, go_sem]))
    | (refine AW_block (id := 2) (AW_loop (ι := Nat) (fun k : Nat => ⟨(upd (upd (upd (fun _ => .any) 1 (.pd [li cP a, li cL b])) 3 (.int .i64 i)) 4 (.int .i64 k)), fun _ => none⟩) (fun k => k ≤ (nth b i).length ∧ NextTill (nth b i) a.length k) (fun k => (nth b i).length - k) (0) ?_ ?_ ?_); exact ⟨Nat.zero_le _, .zero _⟩; ((repeat' (first | exact sub_noneH (by assumption) | exact sub_none | refine sub_upd ?_ ?_ | refine sub_noneE ?_)) <;> simp [-List.getD_eq_getElem?_getD, -List.drop_one, ↓splitB_true, ↓splitB_false, go_sem]); rintro k ⟨hk, ht⟩)
    | (refine ⟨k + 1, ⟨by omega, ht.succ ⟨by omega, by omega, c110⟩⟩, by first | omega | (simp; done) | (simp; omega), ?_⟩; ((repeat' (first | exact sub_noneH (by assumption) | exact sub_none | refine sub_upd ?_ ?_ | refine sub_noneE ?_)) <;> simp [-List.getD_eq_getElem?_getD, -List.drop_one, ↓splitB_true, ↓splitB_false, go_sem]))
    | (refine AW_block ?_)
    | (refine AW_exit ?_; simp [-List.getD_eq_getElem?_getD, -List.drop_one, ↓splitB_true, ↓splitB_false, go_sem])
    | (refine AW_skip ?_; simp [-List.getD_eq_getElem?_getD, -List.drop_one, ↓splitB_true, ↓splitB_false, go_sem])
    | (refine AW_ret ?_; simp [-List.getD_eq_getElem?_getD, -List.drop_one, ↓splitB_true, ↓splitB_false, go_sem, Try.results81])
    | (intro hx; change AW _ _ _ _ _ _)
    | (refine ⟨?_, ?_⟩ <;> change AW _ _ _ _ _ _)
    | (intro hx; refine ⟨fun hs => ?_, fun hs => ?_⟩)
    | (refine ⟨fun hs => ?_, fun hs => ?_⟩)
    | (refine ⟨?_, fun hs => ?_⟩; change AW _ _ _ _ _ _)
    | (refine ⟨fun hs => ?_, ?_⟩; rotate_left; change AW _ _ _ _ _ _; rotate_left)))
  all_goals (first
    | (rintro ⟨g1, g2, g3, g4, g5⟩; omega)
    | (rintro ⟨g1, g2, g3, g4, g5⟩; obtain ⟨q1, q2⟩ := g5 i c28; have q3 := q2.len; omega)
    | (rintro ⟨g1, g2, g3, g4, g5⟩; exact c59 (g4 i ci))
    | (rintro ⟨g1, g2, g3, g4, g5⟩; obtain ⟨q1, q2⟩ := g5 i c28; obtain ⟨r1, r2, r3⟩ := q2.at c67; omega)
    | (rintro ⟨g1, g2, g3, g4, g5⟩; obtain ⟨q1, q2⟩ := g5 i c28; obtain ⟨r1, r2, r3⟩ := q2.at c67; exact r3 c110)
    | exact ⟨by omega, by omega, by omega, fun j hj => (hu j (by omega)).2.1, fun j hj => ⟨(hu j (by omega)).1, (hu j (by omega)).2.2⟩⟩
    | skip)
noncomputable def specGraphValid_pureC : Con := .pure fun
  | [.st [.list n_a c_a, .list n_b c_b]] => ((Is cP n_a c_a) ∧ (Is cL n_b c_b), .bool (B (GraphOk (de cP c_a) (de cL c_b))))
  | _ => (False, .any)
attribute [go_sem] specGraphValid_pureC
theorem specGraphValid_pureC_ok : ConOk Try.prog 81 specGraphValid_pureC := by
  refine ⟨callable Try.func81 (by decide) rfl, fun args h => ?_⟩
  revert h
  dsimp only
  split
  · intro h
    obtain ⟨⟨a, rfl, rfl⟩, ⟨b, rfl, rfl⟩⟩ := h
    try simp only [de_cat] at *
    exact ⟨specGraphValid_pure a b, by simp [go_sem]⟩
  · intro h
    exact h.elim
noncomputable def Γ40 : FuncId → Con := ext Γ39 81 specGraphValid_pureC
attribute [go_sem] Γ40
theorem Γ40_ok : ∀ g, ConOk Try.prog g (Γ40 g) := ext_ok Γ39_ok specGraphValid_pureC_ok

end Go.Proofs.Ytoklpofekcclhaa.Vm

