/-
  Valid graphs, both ways. No conditions.
-/
import Derived.Test.YtkjimmkemnmajaaF3
namespace Go.Proofs.Ytkjimmkemnmajaa.Vm
open Go
open List renaming getD_eq_getElem?_getD → zgE, drop_one → zdO
set_option linter.unusedVariables false
set_option linter.unusedSimpArgs false
set_option maxRecDepth 200000

def ValsOk (xs : List Int) : Prop := xs.length = 3 ∧ ∀ i, i < xs.length → 0 ≤ nth xs i ∧ nth xs i ≤ 3
def Dist (xs : List Int) (n : Int) : Prop := ∀ i, i < xs.length → 0 ≤ nth xs i ∧ nth xs i ≤ n - 1 ∧ ¬ nth xs i ∈ xs.take i
theorem pigeon : ∀ (n : Nat) (xs : List Int), xs.Nodup → (∀ x ∈ xs, 0 ≤ x ∧ x < n) → xs.length ≤ n
  | 0, xs, _, h => by
    cases xs with
    | nil => simp
    | cons x xs => have := h x (by simp); omega
  | n + 1, xs, hn, h => by
    have := pigeon n (xs.erase n) (hn.erase _) fun x hx => by
      have h1 := h x (List.mem_of_mem_erase hx)
      have h2 : x ≠ n := fun e => by subst e; exact (List.Nodup.not_mem_erase hn) hx
      omega
    rw [List.length_erase] at this
    split at this <;> omega
theorem Dist.nodup {xs : List Int} {n : Int} (h : Dist xs n) : xs.Nodup := by
  rw [List.nodup_iff_pairwise_ne, List.pairwise_iff_getElem]
  intro i j hi hj hij e
  have := (h j hj).2.2
  apply this
  rw [mem_nth]
  exact ⟨i, by simp; omega, by rw [nth_take hij, nth_lt hi, nth_lt hj, e]⟩
theorem Dist.len {xs : List Int} {n : Nat} (h : Dist xs n) : xs.length ≤ n :=
  pigeon n xs h.nodup fun x hx => by
    rw [mem_nth] at hx
    obtain ⟨i, hi, rfl⟩ := hx
    have := h i hi
    omega
def GraphOk (a : List Ints2) (b : List (List Int)) : Prop :=
  1 ≤ a.length ∧ a.length ≤ 60 ∧ b.length = a.length ∧ (∀ i, i < a.length → ValsOk (nth a i).2) ∧ ∀ i, i < b.length → 1 ≤ (nth b i).length ∧ Dist (nth b i) a.length

noncomputable def Γ24 : FuncId → Con := Γ23
attribute [go_sem] Γ24
theorem Γ24_ok : ∀ g, ConOk Try.prog g (Γ24 g) := Γ23_ok

noncomputable def Γ25 : FuncId → Con := Γ24
attribute [go_sem] Γ25
theorem Γ25_ok : ∀ g, ConOk Try.prog g (Γ25 g) := Γ24_ok
noncomputable def Γ26 : FuncId → Con := Γ25
attribute [go_sem] Γ26
theorem Γ26_ok : ∀ g, ConOk Try.prog g (Γ26 g) := Γ25_ok

noncomputable def Γ27 : FuncId → Con := Γ26
attribute [go_sem] Γ27
theorem Γ27_ok : ∀ g, ConOk Try.prog g (Γ27 g) := Γ26_ok

noncomputable def Γ28 : FuncId → Con := Γ27
attribute [go_sem] Γ28
theorem Γ28_ok : ∀ g, ConOk Try.prog g (Γ28 g) := Γ27_ok

noncomputable def Γ29 : FuncId → Con := Γ28
attribute [go_sem] Γ29
theorem Γ29_ok : ∀ g, ConOk Try.prog g (Γ29 g) := Γ28_ok

noncomputable def Γ30 : FuncId → Con := Γ29
attribute [go_sem] Γ30
theorem Γ30_ok : ∀ g, ConOk Try.prog g (Γ30 g) := Γ29_ok

noncomputable def Γ31 : FuncId → Con := Γ30
attribute [go_sem] Γ31
theorem Γ31_ok : ∀ g, ConOk Try.prog g (Γ31 g) := Γ30_ok

noncomputable def Γ32 : FuncId → Con := Γ31
attribute [go_sem] Γ32
theorem Γ32_ok : ∀ g, ConOk Try.prog g (Γ32 g) := Γ31_ok

def isN (n : Int) (x : Int) : Bool := decide (n = x)
theorem findI_isN {n : Int} {xs : List Int} : (0 ≤ findI (isN n) xs) = (n ∈ xs) := by
  rw [findI_ge, mem_nth]; simp only [isN, decide_eq_true_eq]
  rw [eq_iff_iff]; exact ⟨fun ⟨i, h, e⟩ => ⟨i, h, e.symm⟩, fun ⟨i, h, e⟩ => ⟨i, h, e.symm⟩⟩

theorem index_pure (xs : List Int) (n : Int)  : Pure Try.prog 101 [li cI xs, .int .i64 n] (.int .i64 (findI (isN n) xs)) := by
  refine Pure.of_walk Try.func101 rfl (by simp [Try.f101]) (by simp [-zdO, go_sem]) fun B hK => ?_
  (repeat' (first
    | refine AW_seq ?_
    | (refine AW_len 0 rfl fun hm => ?_); refine zaac (id := 0) Γ32_ok [] (by kernel_rfl) ?_; simp  [-zgE, -zdO, ↓zaab, ↓zaaa, go_sem]
    | refine zaac (id := 1) Γ32_ok [] (by kernel_rfl) ?_; simp  [-zgE, -zdO, ↓zaab, ↓zaaa, go_sem]
    | refine zaac (id := 2) Γ32_ok [] (by kernel_rfl) ?_; simp  [-zgE, -zdO, ↓zaab, ↓zaaa, go_sem]
    | refine zaac (id := 3) Γ32_ok [] (by kernel_rfl) ?_; simp  [-zgE, -zdO, ↓zaab, ↓zaaa, go_sem]
    | refine zaac (id := 4) Γ32_ok [] (by kernel_rfl) ?_; simp  [-zgE, -zdO, ↓zaab, ↓zaaa, go_sem, c9, zaau c9, Nat.sub_pos_of_lt c9]
    | refine zaac (id := 5) Γ32_ok [] (by kernel_rfl) ?_; simp  [-zgE, -zdO, ↓zaab, ↓zaaa, go_sem]
    | refine zaac (id := 6) Γ32_ok [] (by kernel_rfl) ?_; simp  [-zgE, -zdO, ↓zaab, ↓zaaa, go_sem, wrapS (k := k) (by omega)]
    | refine zaac (id := 7) Γ32_ok [] (by kernel_rfl) ?_; simp  [-zgE, -zdO, ↓zaab, ↓zaaa, go_sem]
    | refine zaad (c := .tmp 9) ?_; simp [-zgE, -zdO, ↓zaab, ↓zaaa, go_sem]; try first | (refine ⟨?_, ?_⟩ <;> change AW _ _ _ _ _ _) | (refine ⟨fun c9 => ?_, fun c9 => ?_⟩ <;> (try simp [B_iff, B_not] at c9))
    | refine zaad (c := .tmp 16) ?_; simp [-zgE, -zdO, ↓zaab, ↓zaaa, go_sem]; try first | (refine ⟨?_, ?_⟩ <;> change AW _ _ _ _ _ _) | (refine ⟨fun c16 => ?_, fun c16 => ?_⟩ <;> (try simp [B_iff, B_not] at c16))
    | (refine zaag (id := 0) (AW_loop (ι := Nat) (fun k : Nat => ⟨(upd (upd (upd (upd (upd (fun _ => .any) 0 (li cI xs)) 1 (.int .i64 n)) 6 (li cI xs)) 7 (.int .i64 xs.length)) 8 (.int .i64 k)), fun _ => none⟩) (fun k => k ≤ xs.length ∧ NoneTill (fun i => isN n (nth xs i)) k) (fun k => xs.length - k) (0) ?_ ?_ ?_); exact ⟨Nat.zero_le _, .zero _⟩; ((repeat' (first | exact zaae (by assumption) | exact zaai | refine zaam ?_ ?_ | refine zaaf ?_)) <;> simp [-zgE, -zdO, ↓zaab, ↓zaaa, go_sem]); rintro k ⟨hk, ht⟩)
    | (refine ⟨k + 1, ⟨by omega, ht.succ (by simp_all [isN])⟩, by first | omega | (simp; done) | (simp; omega), ?_⟩; ((repeat' (first | exact zaae (by assumption) | exact zaai | refine zaam ?_ ?_ | refine zaaf ?_)) <;> simp [-zgE, -zdO, ↓zaab, ↓zaaa, go_sem]))
    | (refine zaag ?_)
    | (refine zaap ?_; simp [-zgE, -zdO, ↓zaab, ↓zaaa, go_sem])
    | (refine zaao ?_; simp [-zgE, -zdO, ↓zaab, ↓zaaa, go_sem])
    | (refine AW_ret ?_; simp [-zgE, -zdO, ↓zaab, ↓zaaa, go_sem, Try.results101])
    | (intro hx; change AW _ _ _ _ _ _)
    | (refine ⟨?_, ?_⟩ <;> change AW _ _ _ _ _ _)
    | (intro hx; refine ⟨fun hs => ?_, fun hs => ?_⟩)
    | (refine ⟨fun hs => ?_, fun hs => ?_⟩)
    | (refine ⟨?_, fun hs => ?_⟩; change AW _ _ _ _ _ _)
    | (refine ⟨fun hs => ?_, ?_⟩; rotate_left; change AW _ _ _ _ _ _; rotate_left)))
  all_goals (first
    | (rw [findI_at ht c9 (by simp_all [isN])])
    | (rw [findI_none ht (by omega)])
    | skip)
noncomputable def index_pureC : Con := .pure fun
  | [.list n_xs c_xs, .int .i64 n] => ((Is cI n_xs c_xs), .int .i64 (findI (isN n) (de cI c_xs)))
  | _ => (False, .any)
attribute [go_sem] index_pureC
theorem index_pureC_ok : ConOk Try.prog 101 index_pureC := by
  refine ⟨zaal Try.func101 (by decide) rfl, fun args h => ?_⟩
  revert h
  dsimp only
  split
  · intro h
    obtain ⟨xs, rfl, rfl⟩ := h
    try simp only [de_cat] at *
    exact ⟨index_pure xs _, by simp [go_sem]⟩
  · intro h
    exact h.elim
noncomputable def Γ33 : FuncId → Con := ext Γ32 101 index_pureC
attribute [go_sem] Γ33
theorem Γ33_ok : ∀ g, ConOk Try.prog g (Γ33 g) := zaaw Γ32_ok index_pureC_ok

theorem contains_pure (xs : List Int) (n : Int)  : Pure Try.prog 103 [li cI xs, .int .i64 n] (.bool (B (n ∈ xs))) := by
  refine Pure.of_walk Try.func103 rfl (by simp [Try.f103]) (by simp [-zdO, go_sem]) fun B hK => ?_
  (repeat' (first
    | refine AW_seq ?_
    | refine zaac (id := 0) Γ33_ok [] (by kernel_rfl) ?_; simp  [-zgE, -zdO, ↓zaab, ↓zaaa, go_sem, findI_isN]
    | refine zaac (id := 1) Γ33_ok [] (by kernel_rfl) ?_; simp  [-zgE, -zdO, ↓zaab, ↓zaaa, go_sem, findI_isN]
    | (refine zaag ?_)
    | (refine zaap ?_; simp [-zgE, -zdO, ↓zaab, ↓zaaa, go_sem])
    | (refine zaao ?_; simp [-zgE, -zdO, ↓zaab, ↓zaaa, go_sem])
    | (refine AW_ret ?_; simp [-zgE, -zdO, ↓zaab, ↓zaaa, go_sem, Try.results103, findI_isN])
    | (intro hx; change AW _ _ _ _ _ _)
    | (refine ⟨?_, ?_⟩ <;> change AW _ _ _ _ _ _)
    | (intro hx; refine ⟨fun hs => ?_, fun hs => ?_⟩)
    | (refine ⟨fun hs => ?_, fun hs => ?_⟩)
    | (refine ⟨?_, fun hs => ?_⟩; change AW _ _ _ _ _ _)
    | (refine ⟨fun hs => ?_, ?_⟩; rotate_left; change AW _ _ _ _ _ _; rotate_left)))
  all_goals (rw [Bool.eq_iff_iff, B_iff, decide_eq_true_eq])
noncomputable def contains_pureC : Con := .pure fun
  | [.list n_xs c_xs, .int .i64 n] => ((Is cI n_xs c_xs), .bool (B (n ∈ (de cI c_xs))))
  | _ => (False, .any)
attribute [go_sem] contains_pureC
theorem contains_pureC_ok : ConOk Try.prog 103 contains_pureC := by
  refine ⟨zaal Try.func103 (by decide) rfl, fun args h => ?_⟩
  revert h
  dsimp only
  split
  · intro h
    obtain ⟨xs, rfl, rfl⟩ := h
    try simp only [de_cat] at *
    exact ⟨contains_pure xs _, by simp [go_sem]⟩
  · intro h
    exact h.elim
noncomputable def Γ34 : FuncId → Con := ext Γ33 103 contains_pureC
attribute [go_sem] Γ34
theorem Γ34_ok : ∀ g, ConOk Try.prog g (Γ34 g) := zaaw Γ33_ok contains_pureC_ok

noncomputable def Γ35 : FuncId → Con := Γ34
attribute [go_sem] Γ35
theorem Γ35_ok : ∀ g, ConOk Try.prog g (Γ35 g) := Γ34_ok
noncomputable def Γ36 : FuncId → Con := Γ35
attribute [go_sem] Γ36
theorem Γ36_ok : ∀ g, ConOk Try.prog g (Γ36 g) := Γ35_ok

noncomputable def Γ37 : FuncId → Con := Γ36
attribute [go_sem] Γ37
theorem Γ37_ok : ∀ g, ConOk Try.prog g (Γ37 g) := Γ36_ok

noncomputable def Γ38 : FuncId → Con := Γ37
attribute [go_sem] Γ38
theorem Γ38_ok : ∀ g, ConOk Try.prog g (Γ38 g) := Γ37_ok

noncomputable def Γ39 : FuncId → Con := Γ38
attribute [go_sem] Γ39
theorem Γ39_ok : ∀ g, ConOk Try.prog g (Γ39 g) := Γ38_ok

def NextTill (xs : List Int) (n k : Nat) : Prop := AllTill (fun i => 0 ≤ nth xs i ∧ nth xs i < n ∧ ¬ nth xs i ∈ xs.take i) k
theorem NextTill.dist {xs : List Int} {n k : Nat} (h : NextTill xs n k) (hk : xs.length ≤ k) : Dist xs n := fun i hi => by obtain ⟨h1, h2, h3⟩ := h i (by omega); exact ⟨h1, by omega, h3⟩
theorem Dist.at {xs : List Int} {n : Nat} (h : Dist xs n) {k : Nat} (hk : k < xs.length) : 0 ≤ nth xs k ∧ nth xs k < n ∧ ¬ nth xs k ∈ xs.take k := by obtain ⟨h1, h2, h3⟩ := h k hk; exact ⟨h1, by omega, h3⟩
noncomputable def Γ40 : FuncId → Con := Γ39
attribute [go_sem] Γ40
theorem Γ40_ok : ∀ g, ConOk Try.prog g (Γ40 g) := Γ39_ok
end Go.Proofs.Ytkjimmkemnmajaa.Vm

