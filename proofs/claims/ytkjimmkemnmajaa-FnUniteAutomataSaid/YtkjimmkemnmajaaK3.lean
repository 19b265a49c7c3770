import Derived.Test.YtkjimmkemnmajaaN9
/-
  Lassos behind the automata's functions; the small functions of Accepts. No conditions.
-/
namespace Go.Proofs.Ytkjimmkemnmajaa.Vm
open Go
open List renaming getD_eq_getElem?_getD → zgE, drop_one → zdO, replicate → zrP
set_option linter.unusedVariables false
set_option linter.unusedSimpArgs false
set_option maxRecDepth 200000

noncomputable def Γk1 : FuncId → Con := Γn13
attribute [go_sem] Γk1
theorem Γk1_ok : ∀ g, ConOk Try.prog g (Γk1 g) := Γn13_ok

noncomputable def Γk2 : FuncId → Con := Γk1
attribute [go_sem] Γk2
theorem Γk2_ok : ∀ g, ConOk Try.prog g (Γk2 g) := Γk1_ok

noncomputable def Γk3 : FuncId → Con := Γk2
attribute [go_sem] Γk3
theorem Γk3_ok : ∀ g, ConOk Try.prog g (Γk3 g) := Γk2_ok

def LetOk (xs : List Int) : Prop := ∀ i, i < xs.length → 0 ≤ nth xs i ∧ nth xs i ≤ 7
def LasOk (a b : List Int) : Prop := LetOk a ∧ LetOk b ∧ a.length ≤ 80 ∧ 1 ≤ b.length ∧ b.length ≤ 80
noncomputable def Γk4 : FuncId → Con := Γk3
attribute [go_sem] Γk4
theorem Γk4_ok : ∀ g, ConOk Try.prog g (Γk4 g) := Γk3_ok

def noLet (n : Int) : Bool := !(decide (0 ≤ n) && decide (n ≤ 7))
theorem find_let {xs : List Int} : (0 ≤ findI noLet xs) = ¬ LetOk xs := by
  rw [findI_ge, eq_iff_iff]
  constructor
  · rintro ⟨i, h, e⟩ k
    have := k i h
    simp [noLet] at e
    omega
  · intro h
    apply Classical.byContradiction; intro h2
    apply h; intro i hi
    apply Classical.byContradiction; intro h3
    exact h2 ⟨i, hi, by simp [noLet]; omega⟩

theorem letters1_pure (n : Int)  : Pure Try.prog 226 [.int .i64 n] (.bool (noLet n)) := by
  refine Pure.of_walk Try.func226 rfl (by simp [Try.f226]) (by simp [-zdO, go_sem]) fun B hK => ?_
  (repeat' (first
    | refine AW_seq ?_
    | refine zaac (id := 0) Γk4_ok [] (by kernel_rfl) ?_; simp  [-zgE, -zdO, ↓zaab, ↓zaaa, go_sem, noLet]
    | refine zaac (id := 1) Γk4_ok [] (by kernel_rfl) ?_; simp  [-zgE, -zdO, ↓zaab, ↓zaaa, go_sem, noLet]
    | (refine zaag ?_)
    | (refine zaap ?_; simp [-zgE, -zdO, ↓zaab, ↓zaaa, go_sem])
    | (refine zaao ?_; simp [-zgE, -zdO, ↓zaab, ↓zaaa, go_sem])
    | (refine AW_ret ?_; simp [-zgE, -zdO, ↓zaab, ↓zaaa, go_sem, Try.results226, noLet])
    | (intro hx; change AW _ _ _ _ _ _)
    | (refine ⟨?_, ?_⟩ <;> change AW _ _ _ _ _ _)
    | (intro hx; refine ⟨fun hs => ?_, fun hs => ?_⟩)
    | (refine ⟨fun hs => ?_, fun hs => ?_⟩)
    | (refine ⟨?_, fun hs => ?_⟩; change AW _ _ _ _ _ _)
    | (refine ⟨fun hs => ?_, ?_⟩; rotate_left; change AW _ _ _ _ _ _; rotate_left)))
noncomputable def letters1_pureC : Con := .pure fun
  | [.int .i64 n] => (True, .bool (noLet n))
  | _ => (False, .any)
attribute [go_sem] letters1_pureC
theorem letters1_pureC_ok : ConOk Try.prog 226 letters1_pureC := by
  refine ⟨zaal Try.func226 (by decide) rfl, fun args h => ?_⟩
  revert h
  dsimp only
  split
  · intro h
    skip
    skip
    exact ⟨letters1_pure _, by simp [go_sem]⟩
  · intro h
    exact h.elim
noncomputable def Γk5 : FuncId → Con := ext Γk4 226 letters1_pureC
attribute [go_sem] Γk5
theorem Γk5_ok : ∀ g, ConOk Try.prog g (Γk5 g) := zaaw Γk4_ok letters1_pureC_ok

theorem indexLet_pure (xs : List Int)   : Pure Try.prog 235 [li cI xs, .fn 226 []] (.int .i64 (findI (noLet) xs)) := by
  refine Pure.of_walk Try.func235 rfl (by simp [Try.f235]) (by simp [-zdO, go_sem]) fun B hK => ?_
  (repeat' (first
    | refine AW_seq ?_
    | (refine AW_len 0 rfl fun hm => ?_); refine zaac (id := 0) Γk5_ok [] (by kernel_rfl) ?_; simp  [-zgE, -zdO, ↓zaab, ↓zaaa, go_sem]
    | refine zaac (id := 1) Γk5_ok [] (by kernel_rfl) ?_; simp  [-zgE, -zdO, ↓zaab, ↓zaaa, go_sem]
    | refine zaac (id := 2) Γk5_ok [] (by kernel_rfl) ?_; simp  [-zgE, -zdO, ↓zaab, ↓zaaa, go_sem]
    | refine zaac (id := 3) Γk5_ok [] (by kernel_rfl) ?_; simp  [-zgE, -zdO, ↓zaab, ↓zaaa, go_sem]
    | refine zaac (id := 4) Γk5_ok [] (by kernel_rfl) ?_; simp  [-zgE, -zdO, ↓zaab, ↓zaaa, go_sem, c9, zaau c9, Nat.sub_pos_of_lt c9]
    | refine zaac (id := 5) Γk5_ok [] (by kernel_rfl) ?_; simp  [-zgE, -zdO, ↓zaab, ↓zaaa, go_sem]
    | refine zaac (id := 6) Γk5_ok [] (by kernel_rfl) ?_; simp  [-zgE, -zdO, ↓zaab, ↓zaaa, go_sem, wrapS (k := k) (by omega)]
    | refine zaac (id := 7) Γk5_ok [] (by kernel_rfl) ?_; simp  [-zgE, -zdO, ↓zaab, ↓zaaa, go_sem]
    | refine zaad (c := .tmp 9) ?_; simp [-zgE, -zdO, ↓zaab, ↓zaaa, go_sem]; try first | (refine ⟨?_, ?_⟩ <;> change AW _ _ _ _ _ _) | (refine ⟨fun c9 => ?_, fun c9 => ?_⟩ <;> (try simp [B_iff, B_not] at c9))
    | refine zaad (c := .tmp 16) ?_; simp [-zgE, -zdO, ↓zaab, ↓zaaa, go_sem]; try first | (refine ⟨?_, ?_⟩ <;> change AW _ _ _ _ _ _) | (refine ⟨fun c16 => ?_, fun c16 => ?_⟩ <;> (try simp [B_iff, B_not] at c16))
    | (refine zaag (id := 0) (AW_loop (ι := Nat) (fun k : Nat => ⟨(upd (upd (upd (upd (upd (fun _ => .any) 0 (li cI xs)) 1 (.fn 226 [])) 6 (li cI xs)) 7 (.int .i64 xs.length)) 8 (.int .i64 k)), fun _ => none⟩) (fun k => k ≤ xs.length ∧ NoneTill (fun i => (noLet) (nth xs i)) k) (fun k => xs.length - k) (0) ?_ ?_ ?_); exact ⟨Nat.zero_le _, .zero _⟩; ((repeat' (first | exact zaae (by assumption) | exact zaai | refine zaam ?_ ?_ | refine zaaf ?_)) <;> simp [-zgE, -zdO, ↓zaab, ↓zaaa, go_sem]); rintro k ⟨hk, ht⟩)
    | (refine ⟨k + 1, ⟨by omega, ht.succ (by simp_all)⟩, by first | omega | (simp; done) | (simp; omega), ?_⟩; ((repeat' (first | exact zaae (by assumption) | exact zaai | refine zaam ?_ ?_ | refine zaaf ?_)) <;> simp [-zgE, -zdO, ↓zaab, ↓zaaa, go_sem]))
    | (refine zaag ?_)
    | (refine zaap ?_; simp [-zgE, -zdO, ↓zaab, ↓zaaa, go_sem])
    | (refine zaao ?_; simp [-zgE, -zdO, ↓zaab, ↓zaaa, go_sem])
    | (refine AW_ret ?_; simp [-zgE, -zdO, ↓zaab, ↓zaaa, go_sem, Try.results235])
    | (intro hx; change AW _ _ _ _ _ _)
    | (refine ⟨?_, ?_⟩ <;> change AW _ _ _ _ _ _)
    | (intro hx; refine ⟨fun hs => ?_, fun hs => ?_⟩)
    | (refine ⟨fun hs => ?_, fun hs => ?_⟩)
    | (refine ⟨?_, fun hs => ?_⟩; change AW _ _ _ _ _ _)
    | (refine ⟨fun hs => ?_, ?_⟩; rotate_left; change AW _ _ _ _ _ _; rotate_left)))
  all_goals (first
    | (rw [findI_at ht c9 (by simp_all)])
    | (rw [findI_none ht (by omega)])
    | skip)
noncomputable def indexLet_pureC : Con := .pure fun
  | [.list n_xs c_xs, .fn 226 []] => ((Is cI n_xs c_xs), .int .i64 (findI (noLet) (de cI c_xs)))
  | _ => (False, .any)
attribute [go_sem] indexLet_pureC
theorem indexLet_pureC_ok : ConOk Try.prog 235 indexLet_pureC := by
  refine ⟨zaal Try.func235 (by decide) rfl, fun args h => ?_⟩
  revert h
  dsimp only
  split
  · intro h
    obtain ⟨xs, rfl, rfl⟩ := h
    try simp only [de_cat] at *
    exact ⟨indexLet_pure xs , by simp [go_sem]⟩
  · intro h
    exact h.elim
noncomputable def Γk6 : FuncId → Con := ext Γk5 235 indexLet_pureC
attribute [go_sem] Γk6
theorem Γk6_ok : ∀ g, ConOk Try.prog g (Γk6 g) := zaaw Γk5_ok indexLet_pureC_ok

theorem containsLet_pure (xs : List Int)   : Pure Try.prog 201 [li cI xs, .fn 226 []] (.bool (decide (0 ≤ findI noLet xs))) := by
  refine Pure.of_walk Try.func201 rfl (by simp [Try.f201]) (by simp [-zdO, go_sem]) fun B hK => ?_
  (repeat' (first
    | refine AW_seq ?_
    | refine zaac (id := 0) Γk6_ok [] (by kernel_rfl) ?_; simp  [-zgE, -zdO, ↓zaab, ↓zaaa, go_sem]
    | refine zaac (id := 1) Γk6_ok [] (by kernel_rfl) ?_; simp  [-zgE, -zdO, ↓zaab, ↓zaaa, go_sem]
    | (refine zaag ?_)
    | (refine zaap ?_; simp [-zgE, -zdO, ↓zaab, ↓zaaa, go_sem])
    | (refine zaao ?_; simp [-zgE, -zdO, ↓zaab, ↓zaaa, go_sem])
    | (refine AW_ret ?_; simp [-zgE, -zdO, ↓zaab, ↓zaaa, go_sem, Try.results201])
    | (intro hx; change AW _ _ _ _ _ _)
    | (refine ⟨?_, ?_⟩ <;> change AW _ _ _ _ _ _)
    | (intro hx; refine ⟨fun hs => ?_, fun hs => ?_⟩)
    | (refine ⟨fun hs => ?_, fun hs => ?_⟩)
    | (refine ⟨?_, fun hs => ?_⟩; change AW _ _ _ _ _ _)
    | (refine ⟨fun hs => ?_, ?_⟩; rotate_left; change AW _ _ _ _ _ _; rotate_left)))
noncomputable def containsLet_pureC : Con := .pure fun
  | [.list n_xs c_xs, .fn 226 []] => ((Is cI n_xs c_xs), .bool (decide (0 ≤ findI noLet (de cI c_xs))))
  | _ => (False, .any)
attribute [go_sem] containsLet_pureC
theorem containsLet_pureC_ok : ConOk Try.prog 201 containsLet_pureC := by
  refine ⟨zaal Try.func201 (by decide) rfl, fun args h => ?_⟩
  revert h
  dsimp only
  split
  · intro h
    obtain ⟨xs, rfl, rfl⟩ := h
    try simp only [de_cat] at *
    exact ⟨containsLet_pure xs , by simp [go_sem]⟩
  · intro h
    exact h.elim
noncomputable def Γk7 : FuncId → Con := ext Γk6 201 containsLet_pureC
attribute [go_sem] Γk7
theorem Γk7_ok : ∀ g, ConOk Try.prog g (Γk7 g) := zaaw Γk6_ok containsLet_pureC_ok

theorem letters_pure (xs : List Int)  : Pure Try.prog 188 [li cI xs] (.bool (B (LetOk xs))) := by
  refine Pure.of_walk Try.func188 rfl (by simp [Try.f188]) (by simp [-zdO, go_sem]) fun B hK => ?_
  (repeat' (first
    | refine AW_seq ?_
    | refine zaac (id := 0) Γk7_ok [] (by kernel_rfl) ?_; simp  [-zgE, -zdO, ↓zaab, ↓zaaa, go_sem]
    | refine zaac (id := 1) Γk7_ok [] (by kernel_rfl) ?_; simp  [-zgE, -zdO, ↓zaab, ↓zaaa, go_sem]
    | (refine zaag ?_)
    | (refine zaap ?_; simp [-zgE, -zdO, ↓zaab, ↓zaaa, go_sem])
    | (refine zaao ?_; simp [-zgE, -zdO, ↓zaab, ↓zaaa, go_sem])
    | (refine AW_ret ?_; simp [-zgE, -zdO, ↓zaab, ↓zaaa, go_sem, Try.results188])
    | (intro hx; change AW _ _ _ _ _ _)
    | (refine ⟨?_, ?_⟩ <;> change AW _ _ _ _ _ _)
    | (intro hx; refine ⟨fun hs => ?_, fun hs => ?_⟩)
    | (refine ⟨fun hs => ?_, fun hs => ?_⟩)
    | (refine ⟨?_, fun hs => ?_⟩; change AW _ _ _ _ _ _)
    | (refine ⟨fun hs => ?_, ?_⟩; rotate_left; change AW _ _ _ _ _ _; rotate_left)))
  all_goals (first
    | (rw [Bool.eq_iff_iff, decide_eq_true_eq, find_let, Bool.not_eq_true', B_not])
    | (rw [Bool.eq_iff_iff, B_iff, Bool.not_eq_true', decide_eq_false_iff_not, find_let, Classical.not_not])
    | skip)
  all_goals trace_state
noncomputable def letters_pureC : Con := .pure fun
  | [.list n_xs c_xs] => ((Is cI n_xs c_xs), .bool (B (LetOk (de cI c_xs))))
  | _ => (False, .any)
attribute [go_sem] letters_pureC
theorem letters_pureC_ok : ConOk Try.prog 188 letters_pureC := by
  refine ⟨zaal Try.func188 (by decide) rfl, fun args h => ?_⟩
  revert h
  dsimp only
  split
  · intro h
    obtain ⟨xs, rfl, rfl⟩ := h
    try simp only [de_cat] at *
    exact ⟨letters_pure xs, by simp [go_sem]⟩
  · intro h
    exact h.elim
noncomputable def Γk8 : FuncId → Con := ext Γk7 188 letters_pureC
attribute [go_sem] Γk8
theorem Γk8_ok : ∀ g, ConOk Try.prog g (Γk8 g) := zaaw Γk7_ok letters_pureC_ok

noncomputable def Γk9 : FuncId → Con := Γk8
attribute [go_sem] Γk9
theorem Γk9_ok : ∀ g, ConOk Try.prog g (Γk9 g) := Γk8_ok

theorem implLassoValid_pure (a : List Int) (b : List Int)  : Pure Try.prog 137 [.st [li cI a, li cI b]] (.bool (B (LasOk a b))) := by
  refine Pure.of_walk Try.func137 rfl (by simp [Try.f137]) (by simp [-zdO, go_sem]) fun B hK => ?_
  (repeat' (first
    | refine AW_seq ?_
    | refine zaac (id := 0) Γk9_ok [] (by kernel_rfl) ?_; simp  [-zgE, -zdO, ↓zaab, ↓zaaa, go_sem]; try (refine AW_data hK 1 ?_; simp [go_sem])
    | refine zaac (id := 1) Γk9_ok [6, 11, 17] (by kernel_rfl) ?_; simp  [-zgE, -zdO, ↓zaab, ↓zaaa, go_sem]; try (refine ⟨fun s1a => ?_, fun s1a => ?_⟩ <;> (try simp [B_iff, B_not] at s1a) <;> try (refine ⟨fun s1b => ?_, fun s1b => ?_⟩ <;> (try simp [B_iff, B_not] at s1b) <;> try (refine ⟨fun s1c => ?_, fun s1c => ?_⟩ <;> (try simp [B_iff, B_not] at s1c) <;> try (refine ⟨fun s1d => ?_, fun s1d => ?_⟩ <;> (try simp [B_iff, B_not] at s1d)))))
    | (refine zaag ?_)
    | (refine zaap ?_; simp [-zgE, -zdO, ↓zaab, ↓zaaa, go_sem])
    | (refine zaao ?_; simp [-zgE, -zdO, ↓zaab, ↓zaaa, go_sem])
    | (refine AW_ret ?_; simp [-zgE, -zdO, ↓zaab, ↓zaaa, go_sem, Try.results137])
    | (intro hx; change AW _ _ _ _ _ _)
    | (refine ⟨?_, ?_⟩ <;> change AW _ _ _ _ _ _)
    | (intro hx; refine ⟨fun hs => ?_, fun hs => ?_⟩)
    | (refine ⟨fun hs => ?_, fun hs => ?_⟩)
    | (refine ⟨?_, fun hs => ?_⟩; change AW _ _ _ _ _ _)
    | (refine ⟨fun hs => ?_, ?_⟩; rotate_left; change AW _ _ _ _ _ _; rotate_left)))
  all_goals (first
    | (rintro ⟨g1, g2, g3, g4, g5⟩; omega)
    | (rintro ⟨g1, g2, g3, g4, g5⟩; simp_all; done)
    | (rw [Bool.eq_iff_iff, B_iff, Bool.and_eq_true, decide_eq_true_eq, decide_eq_true_eq]; exact ⟨fun h => ⟨s1a, s1b, by omega, by omega, by omega⟩, fun h => by have := h.2.2.2; omega⟩)
    | skip)
noncomputable def implLassoValid_pureC : Con := .pure fun
  | [.st [.list n_a c_a, .list n_b c_b]] => ((Is cI n_a c_a) ∧ (Is cI n_b c_b), .bool (B (LasOk (de cI c_a) (de cI c_b))))
  | _ => (False, .any)
attribute [go_sem] implLassoValid_pureC
theorem implLassoValid_pureC_ok : ConOk Try.prog 137 implLassoValid_pureC := by
  refine ⟨zaal Try.func137 (by decide) rfl, fun args h => ?_⟩
  revert h
  dsimp only
  split
  · intro h
    obtain ⟨⟨a, rfl, rfl⟩, ⟨b, rfl, rfl⟩⟩ := h
    try simp only [de_cat] at *
    exact ⟨implLassoValid_pure a b, by simp [go_sem]⟩
  · intro h
    exact h.elim
noncomputable def Γk10 : FuncId → Con := ext Γk9 137 implLassoValid_pureC
attribute [go_sem] Γk10
theorem Γk10_ok : ∀ g, ConOk Try.prog g (Γk10 g) := zaaw Γk9_ok implLassoValid_pureC_ok

noncomputable def Γk11 : FuncId → Con := Γk10
attribute [go_sem] Γk11
theorem Γk11_ok : ∀ g, ConOk Try.prog g (Γk11 g) := Γk10_ok

noncomputable def Γk12 : FuncId → Con := Γk11
attribute [go_sem] Γk12
theorem Γk12_ok : ∀ g, ConOk Try.prog g (Γk12 g) := Γk11_ok
def nxI (a b : List Int) (i : Nat) : Nat := if i + 1 = a.length + b.length then a.length else i + 1
theorem nxI_lt {a b : List Int} {i : Nat} (h : 0 < b.length) (hi : i < a.length + b.length) : nxI a b i < a.length + b.length := by
  unfold nxI; split <;> omega
noncomputable def Γk13 : FuncId → Con := Γk12
attribute [go_sem] Γk13
theorem Γk13_ok : ∀ g, ConOk Try.prog g (Γk13 g) := Γk12_ok

theorem implNext_pure (a : List Int) (b : List Int) (i : Int) (hL : LasOk a b) (h0 : 0 ≤ i) (h1 : i < (a.length : Int) + b.length) : Pure Try.prog 191 [.st [li cI a, li cI b], .int .i64 i] (.int .i64 ((nxI a b i.toNat : Nat) : Int)) := by
  refine Pure.of_walk Try.func191 rfl (by simp [Try.f191]) (by simp [-zdO, go_sem]) fun B hK => ?_
  obtain ⟨l1, l2, l3, l4, l5⟩ := id hL
  all_goals (repeat' (first
    | refine AW_seq ?_
    | refine zaac (id := 0) Γk13_ok [] (by kernel_rfl) ?_; simp  [-zgE, -zdO, ↓zaab, ↓zaaa, go_sem]; try (refine AW_data hK 2 ?_; simp [go_sem])
    | refine zaac (id := 1) Γk13_ok [] (by kernel_rfl) ?_; simp  [-zgE, -zdO, ↓zaab, ↓zaaa, go_sem, zaan (x := i + 1) (by omega) (by omega), zaan (x := (a.length : Int) + (b.length : Int)) (by omega) (by omega)]
    | refine zaac (id := 2) Γk13_ok [] (by kernel_rfl) ?_; simp  [-zgE, -zdO, ↓zaab, ↓zaaa, go_sem]
    | refine zaac (id := 3) Γk13_ok [] (by kernel_rfl) ?_; simp  [-zgE, -zdO, ↓zaab, ↓zaaa, go_sem, zaan (x := i + 1) (by omega) (by omega)]
    | refine zaad (c := .tmp 14) ?_; simp [-zgE, -zdO, ↓zaab, ↓zaaa, go_sem]; try first | (refine ⟨?_, ?_⟩ <;> change AW _ _ _ _ _ _) | (refine ⟨fun c14 => ?_, fun c14 => ?_⟩ <;> (try simp [B_iff, B_not] at c14))
    | (refine zaag ?_)
    | (refine zaap ?_; simp [-zgE, -zdO, ↓zaab, ↓zaaa, go_sem])
    | (refine zaao ?_; simp [-zgE, -zdO, ↓zaab, ↓zaaa, go_sem])
    | (refine AW_ret ?_; simp [-zgE, -zdO, ↓zaab, ↓zaaa, go_sem, Try.results191])
    | (intro hx; change AW _ _ _ _ _ _)
    | (refine ⟨?_, ?_⟩ <;> change AW _ _ _ _ _ _)
    | (intro hx; refine ⟨fun hs => ?_, fun hs => ?_⟩)
    | (refine ⟨fun hs => ?_, fun hs => ?_⟩)
    | (refine ⟨?_, fun hs => ?_⟩; change AW _ _ _ _ _ _)
    | (refine ⟨fun hs => ?_, ?_⟩; rotate_left; change AW _ _ _ _ _ _; rotate_left)))
  all_goals (first
    | (unfold nxI; rw [if_pos (by omega)])
    | (unfold nxI; rw [if_neg (by omega)]; omega)
    | skip)
noncomputable def implNext_pureC : Con := .pure fun
  | [.st [.list n_a c_a, .list n_b c_b], .int .i64 i] => ((Is cI n_a c_a) ∧ (Is cI n_b c_b) ∧ (LasOk (de cI c_a) (de cI c_b)) ∧ (0 ≤ i) ∧ (i < ((de cI c_a).length : Int) + (de cI c_b).length), .int .i64 ((nxI (de cI c_a) (de cI c_b) i.toNat : Nat) : Int))
  | _ => (False, .any)
attribute [go_sem] implNext_pureC
theorem implNext_pureC_ok : ConOk Try.prog 191 implNext_pureC := by
  refine ⟨zaal Try.func191 (by decide) rfl, fun args h => ?_⟩
  revert h
  dsimp only
  split
  · intro h
    obtain ⟨⟨a, rfl, rfl⟩, ⟨b, rfl, rfl⟩, hL, h0, h1⟩ := h
    try simp only [de_cat] at *
    exact ⟨implNext_pure a b _ hL h0 h1, by simp [go_sem]⟩
  · intro h
    exact h.elim
noncomputable def Γk14 : FuncId → Con := ext Γk13 191 implNext_pureC
attribute [go_sem] Γk14
theorem Γk14_ok : ∀ g, ConOk Try.prog g (Γk14 g) := zaaw Γk13_ok implNext_pureC_ok

theorem all_pure (a : List Int) (b : List Int) (hL : LasOk a b) : Pure Try.prog 189 [.st [li cI a, li cI b]] (fr 1 cI (a ++ b)) := by
  refine Pure.of_walk Try.func189 rfl (by simp [Try.f189]) (by simp [-zdO, go_sem]) fun B hK => ?_
  obtain ⟨l1, l2, l3, l4, l5⟩ := id hL; have hf : [a, b].flatten = a ++ b := (by simp)
  all_goals (repeat' (first
    | refine AW_seq ?_
    | refine zaac (id := 0) Γk14_ok [] (by kernel_rfl) ?_; simp  [-zgE, -zdO, ↓zaab, ↓zaaa, go_sem]; try (refine AW_data hK 1 ?_; simp [go_sem])
    | refine zaac (id := 1) Γk14_ok [] (by kernel_rfl) ?_; simp  [-zgE, -zdO, ↓zaab, ↓zaaa, go_sem, hf, makeD_two, (show a.length + b.length ≤ 1048576 by omega)]
    | (refine zaag ?_)
    | (refine zaap ?_; simp [-zgE, -zdO, ↓zaab, ↓zaaa, go_sem])
    | (refine zaao ?_; simp [-zgE, -zdO, ↓zaab, ↓zaaa, go_sem])
    | (refine AW_ret ?_; simp [-zgE, -zdO, ↓zaab, ↓zaaa, go_sem, Try.results189])
    | (intro hx; change AW _ _ _ _ _ _)
    | (refine ⟨?_, ?_⟩ <;> change AW _ _ _ _ _ _)
    | (intro hx; refine ⟨fun hs => ?_, fun hs => ?_⟩)
    | (refine ⟨fun hs => ?_, fun hs => ?_⟩)
    | (refine ⟨?_, fun hs => ?_⟩; change AW _ _ _ _ _ _)
    | (refine ⟨fun hs => ?_, ?_⟩; rotate_left; change AW _ _ _ _ _ _; rotate_left)))
noncomputable def all_pureC : Con := .pure fun
  | [.st [.list n_a c_a, .list n_b c_b]] => ((Is cI n_a c_a) ∧ (Is cI n_b c_b) ∧ (LasOk (de cI c_a) (de cI c_b)), fr 1 cI ((de cI c_a) ++ (de cI c_b)))
  | _ => (False, .any)
attribute [go_sem] all_pureC
theorem all_pureC_ok : ConOk Try.prog 189 all_pureC := by
  refine ⟨zaal Try.func189 (by decide) rfl, fun args h => ?_⟩
  revert h
  dsimp only
  split
  · intro h
    obtain ⟨⟨a, rfl, rfl⟩, ⟨b, rfl, rfl⟩, hL⟩ := h
    try simp only [de_cat] at *
    exact ⟨all_pure a b hL, by simp [go_sem]⟩
  · intro h
    exact h.elim
noncomputable def Γk15 : FuncId → Con := ext Γk14 189 all_pureC
attribute [go_sem] Γk15
theorem Γk15_ok : ∀ g, ConOk Try.prog g (Γk15 g) := zaaw Γk14_ok all_pureC_ok

def tk (x : Int) (e : Tr4) : Bool := decide (bitsD .and .i64 x e.2.1 = e.2.2.1)
noncomputable def Γk16 : FuncId → Con := Γk15
attribute [go_sem] Γk16
theorem Γk16_ok : ∀ g, ConOk Try.prog g (Γk16 g) := Γk15_ok

theorem takes_pure (p : Int) (q : Int) (r : Int) (s : Int) (x : Int)  : Pure Try.prog 190 [.st [.int .i64 p, .int .i64 q, .int .i64 r, .int .i64 s], .int .i64 x] (.bool (tk x (p, q, r, s))) := by
  refine Pure.of_walk Try.func190 rfl (by simp [Try.f190]) (by simp [-zdO, go_sem]) fun B hK => ?_
  (repeat' (first
    | refine AW_seq ?_
    | refine zaac (id := 0) Γk16_ok [] (by kernel_rfl) ?_; simp  [-zgE, -zdO, ↓zaab, ↓zaaa, go_sem, tk]; try (refine AW_data hK 2 ?_; simp [go_sem])
    | refine zaac (id := 1) Γk16_ok [] (by kernel_rfl) ?_; simp  [-zgE, -zdO, ↓zaab, ↓zaaa, go_sem, tk]
    | (refine zaag ?_)
    | (refine zaap ?_; simp [-zgE, -zdO, ↓zaab, ↓zaaa, go_sem])
    | (refine zaao ?_; simp [-zgE, -zdO, ↓zaab, ↓zaaa, go_sem])
    | (refine AW_ret ?_; simp [-zgE, -zdO, ↓zaab, ↓zaaa, go_sem, Try.results190, tk])
    | (intro hx; change AW _ _ _ _ _ _)
    | (refine ⟨?_, ?_⟩ <;> change AW _ _ _ _ _ _)
    | (intro hx; refine ⟨fun hs => ?_, fun hs => ?_⟩)
    | (refine ⟨fun hs => ?_, fun hs => ?_⟩)
    | (refine ⟨?_, fun hs => ?_⟩; change AW _ _ _ _ _ _)
    | (refine ⟨fun hs => ?_, ?_⟩; rotate_left; change AW _ _ _ _ _ _; rotate_left)))
noncomputable def takes_pureC : Con := .pure fun
  | [.st [.int .i64 p, .int .i64 q, .int .i64 r, .int .i64 s], .int .i64 x] => (True, .bool (tk x (p, q, r, s)))
  | _ => (False, .any)
attribute [go_sem] takes_pureC
theorem takes_pureC_ok : ConOk Try.prog 190 takes_pureC := by
  refine ⟨zaal Try.func190 (by decide) rfl, fun args h => ?_⟩
  revert h
  dsimp only
  split
  · intro h
    skip
    skip
    exact ⟨takes_pure _ _ _ _ _, by simp [go_sem]⟩
  · intro h
    exact h.elim
noncomputable def Γk17 : FuncId → Con := ext Γk16 190 takes_pureC
attribute [go_sem] Γk17
theorem Γk17_ok : ∀ g, ConOk Try.prog g (Γk17 g) := zaaw Γk16_ok takes_pureC_ok


def aStep (n : Nat) (x : Int) (P Q : Nat) (r : List (List Int)) (e : Tr4) : List (List Int) := if tk x e = true then addE r ((P : Int) + e.1) ((Q : Int) + e.2.2.2) else r
def aIn (n : Nat) (es : List Tr4) (x : Int) (P Q : Nat) (r : List (List Int)) (k : Nat) : List (List Int) := (es.take k).foldl (aStep n x P Q) r
theorem aIn_zero (n : Nat) (es : List Tr4) (x : Int) (P Q : Nat) (r : List (List Int)) : aIn n es x P Q r 0 = r := by simp [aIn]
theorem aIn_succ {n : Nat} {es : List Tr4} {x : Int} {P Q : Nat} {r : List (List Int)} {k : Nat} (h : k < es.length) : aIn n es x P Q r (k + 1) = aStep n x P Q (aIn n es x P Q r k) (nth es k) := by
  unfold aIn; rw [List.take_succ_eq_append_getElem h, ← nth_lt h, List.foldl_append]; rfl
def aRow (n : Nat) (es : List Tr4) (a b : List Int) : Nat → List (List Int)
  | 0 => zrP ((a.length + b.length) * n) []
  | i + 1 => aIn n es (nth (a ++ b) i) (i * n) (nxI a b i * n) (aRow n es a b i) es.length
structure AR (N M : Nat) (r : List (List Int)) : Prop where
  len : r.length = N
  rng : ∀ i, i < N → ∀ y, y ∈ nth r i → 0 ≤ y ∧ y < N
  row : ∀ i, i < N → (nth r i).length ≤ M
theorem AR.start (N : Nat) : AR N 0 (zrP N []) := by
  have h : ∀ i, i < N → nth (zrP N ([] : List Int)) i = [] := fun i hi => by rw [nth_lt (by simpa using hi)]; simp
  exact ⟨by simp, fun i hi y hy => (by rw [h i hi] at hy; cases hy), fun i hi => (by rw [h i hi]; simp)⟩
theorem AR.step {N M n : Nat} {r : List (List Int)} (h : AR N M r) {x : Int} {P Q : Nat} {e : Tr4} (h1 : 0 ≤ e.1) (h2 : (P : Int) + e.1 < N) (h3 : 0 ≤ e.2.2.2) (h4 : (Q : Int) + e.2.2.2 < N) : AR N (M + 1) (aStep n x P Q r e) := by
  unfold aStep
  split
  · have hf : ((P : Int) + e.1).toNat < r.length := by rw [h.len]; omega
    refine ⟨by rw [addE_len, h.len], fun i hi y hy => ?_, fun i hi => ?_⟩
    · rw [mem_addE hf] at hy
      rcases hy with q | ⟨_, rfl⟩
      · exact h.rng i hi y q
      · omega
    · rw [nth_addE hf]
      have := h.row i hi
      split
      · simp; omega
      · omega
  · exact ⟨h.len, h.rng, fun i hi => by have := h.row i hi; omega⟩
theorem AR.aIn {N M n : Nat} {r : List (List Int)} (h : AR N M r) {es : List Tr4} (hr : InRng n es) {x : Int} {P Q : Nat} (hP : P + n ≤ N) (hQ : Q + n ≤ N) : ∀ k, k ≤ es.length → AR N (M + k) (aIn n es x P Q r k)
  | 0, _ => by rw [aIn_zero]; exact h
  | k + 1, hk => by
    rw [aIn_succ (by omega)]
    obtain ⟨⟨g1, g2⟩, g3, g4⟩ := hr k (by omega)
    exact (h.aIn hr hP hQ k (by omega)).step g1 (by omega) g3 (by omega)
theorem place_le {i m n : Nat} (h : i < m) : i * n + n ≤ m * n := by rw [← Nat.succ_mul]; exact Nat.mul_le_mul_right n h
theorem aRow_ok {n : Nat} {es : List Tr4} (hr : InRng n es) {a b : List Int} (hb : 0 < b.length) : ∀ i, i ≤ a.length + b.length → AR ((a.length + b.length) * n) (i * es.length) (aRow n es a b i)
  | 0, _ => by simp only [aRow, Nat.zero_mul]; exact AR.start _
  | i + 1, hi => by
    have ih := aRow_ok hr (a := a) (b := b) hb i (by omega)
    have := ih.aIn hr (x := nth (a ++ b) i) (place_le (n := n) (show i < a.length + b.length by omega)) (place_le (n := n) (nxI_lt (a := a) (b := b) hb (show i < a.length + b.length by omega))) es.length (Nat.le_refl _)
    rw [Nat.succ_mul]
    exact this
def aAll (n : Nat) (es : List Tr4) (a b : List Int) : List (List Int) := aRow n es a b (a.length + b.length)
theorem aAll_ok {n : Nat} {es : List Tr4} (hr : InRng n es) {a b : List Int} (hL : LasOk a b) (hn : n ≤ 64) (he : es.length ≤ 2048) : NextOk (aAll n es a b) ∧ NextS (aAll n es a b) ∧ (aAll n es a b).length = (a.length + b.length) * n ∧ (a.length + b.length) * n ≤ 10240 := by
  obtain ⟨l1, l2, l3, l4, l5⟩ := hL
  have h := aRow_ok hr (a := a) (b := b) (by omega) (a.length + b.length) (Nat.le_refl _)
  have hm : (a.length + b.length) * n ≤ 160 * 64 := Nat.mul_le_mul (by omega) hn
  have hs : (a.length + b.length) * es.length ≤ 160 * 2048 := Nat.mul_le_mul (by omega) he
  refine ⟨fun j hj k hk => ?_, fun j hj => ?_, h.len, by omega⟩
  · unfold aAll at hj hk ⊢
    rw [h.len] at hj ⊢
    exact h.rng j hj _ (nth_mem hk)
  · unfold aAll at hj ⊢
    rw [h.len] at hj
    have := h.row j hj
    omega
def Acp (n : Nat) (acc : List Bool) (ss : List Int) (nx : List (List Int)) : Prop := ∃ x : Nat, x < nx.length ∧ RchS nx ss (x : Int) ∧ Cyc nx (x : Int) ∧ nth acc (x % n) = true
theorem tmod_nat (k n : Nat) : ((k : Int)).tmod (n : Int) = ((k % n : Nat) : Int) := by
  rw [Int.tmod_eq_emod_of_nonneg (by omega)]; exact (Int.natCast_emod k n).symm
theorem oN_addG {xs : List (List Int)} {f t : Int} (hf : f.toNat < xs.length) (junk : List D) : (cat oN xs ++ junk).set f.toNat (.fr 1 ((nth xs f.toNat).length + 1) (cat cI (nth xs f.toNat ++ [t]))) = cat oN (addE xs f t) ++ junk := by
  have := oN_set (xs := xs) (i := f.toNat) (junk := junk) (y := nth xs f.toNat ++ [t]) hf
  rw [addE, ← this, oNd_cons (by simp)]
  simp

theorem AutOk.starts {a : List Int} {n : Nat} {c : List Tr4} (h : AutOk a n c) {N : Nat} (hN : n ≤ N) : Starts N a := by
  have h1 := h.2.2.1
  have hge := sorted_ge (a := a) (k := a.length) (fun i hi => (h1 i hi).1)
  have hlt : ∀ i j, i < j → j < a.length → nth a i < nth a j := by
    intro i j hij
    induction j with
    | zero => omega
    | succ j ih =>
      intro hj
      have h2 := (h1 (j + 1) hj).1
      simp only [ahead] at h2
      by_cases e : i = j
      · subst e; exact h2
      · have := ih (by omega) (by omega); omega
  refine ⟨fun x hx => ?_, ?_⟩
  · obtain ⟨i, hi, rfl⟩ := mem_idx hx
    have := hge i hi
    have := (h1 i hi).2
    omega
  · rw [List.nodup_iff_pairwise_ne, List.pairwise_iff_getElem]
    intro i j hi hj hij e
    have := hlt i j hij hj
    rw [nth_lt hi, nth_lt hj] at this
    omega
def gdA (n : Nat) (acc : List Bool) (ss : List Int) (nx : List (List Int)) (i : Nat) : Prop := RchS nx ss (i : Int) ∧ Cyc nx (i : Int) ∧ nth acc (i % n) = true
theorem acp_none {n : Nat} {acc : List Bool} {ss : List Int} {nx : List (List Int)} (h : ∀ i, i < nx.length → ¬ gdA n acc ss nx i) : ¬ Acp n acc ss nx := fun ⟨x, x1, x2⟩ => h x x1 x2
set_option maxHeartbeats 8000000 in

theorem accepts_pure (a : List Int) (b : List Bool) (c : List Tr4) (s : List Int) (l : List Int) (hA : AutOk a b.length c) (hL : LasOk s l) : Pure Try.prog 138 [.st [li cI a, li cB b, li cT c], .st [li cI s, li cI l]] (.bool (B (Acp b.length b a (aAll b.length c s l)))) := by
  refine Pure.of_walk Try.func138 rfl (by simp [Try.f138]) (by simp [-zdO, go_sem]) fun B hK => ?_
  obtain ⟨n1, n2, n3, n4⟩ := hA.sizes; have hr := hA.rng; obtain ⟨l1, l2, l3, l4, l5⟩ := id hL; obtain ⟨hx, hs, hlen, hle⟩ := aAll_ok hr hL n2 n4; have hsr := fun i (hi : i < a.length) => hA.2.2.1 i hi
  all_goals (repeat' (first
    | refine AW_seq ?_
    | refine zaac (id := 0) Γk17_ok [] (by kernel_rfl) ?_; simp  [-zgE, -zdO, ↓zaab, ↓zaaa, go_sem]; try ((refine AW_data hK 2 ?_); (refine AW_data hK 3 ?_); simp [go_sem])
    | refine zaat (id := 1) Γk17_ok mixed [] [] (by kernel_rfl) (by kernel_rfl) (by simp [-zgE, -zdO, ↓zaab, ↓zaaa, go_sem, hL]) ?_; simp  [-zgE, -zdO, ↓zaab, ↓zaaa, go_sem, hL]; try ((refine AW_data hK 5 ?_); (simp [go_sem]); (obtain ⟨w, hw⟩ : ∃ w, s ++ l = w := ⟨_, rfl⟩); (have hwl : w.length = s.length + l.length := (by rw [← hw]; simp)); (try rw [hw]); (have e0 : (s.length : Int) + (l.length : Int) = (w.length : Int) := (by omega)); (have e1 : s.length + l.length = w.length := hwl.symm); (try rw [e1]); (rw [e1] at hlen hle); (obtain ⟨Qn, hQn⟩ : ∃ Qn, w.length * b.length = Qn := ⟨_, rfl⟩); (rw [hQn] at hlen hle); (have hmul : (w.length : Int) * (b.length : Int) = (Qn : Int) := (by rw [← hQn]; exact (Int.natCast_mul ..).symm)); (have hbQ : b.length ≤ Qn := (by have := place_le (n := b.length) (show 0 < w.length by omega); omega)))
    | refine zaac (id := 2) Γk17_ok [] (by kernel_rfl) ?_; simp  [-zgE, -zdO, ↓zaab, ↓zaaa, go_sem, hmul, zaan (x := (Qn : Int)) (by omega) (by omega), make_oN, (by omega : 24 * (Qn : Int) ≤ 281474976710656), (by omega : (Qn : Int) ≤ 281474976710656), (by omega : (Qn : Int) ≤ 9223372036854775807), (by omega : (0 : Int) ≤ (Qn : Int))]; try ((refine AW_mat 7 rfl fun b7 c7 j7 q7 hc7 hj7 => ?_); (clear q7); (refine AW_gen (fun H1 => H1 b7 = some (cat oN (aRow b.length c s l 0) ++ zrP j7 D.any)) (by simp [upd, aRow, e1, hQn]) fun H1 w7 => ?_))
    | refine zaac (id := 3) Γk17_ok [] (by kernel_rfl) ?_; simp  [-zgE, -zdO, ↓zaab, ↓zaaa, go_sem]
    | refine zaac (id := 4) Γk17_ok [] (by kernel_rfl) ?_; simp  [-zgE, -zdO, ↓zaab, ↓zaaa, go_sem]
    | refine zaac (id := 5) Γk17_ok [] (by kernel_rfl) ?_; simp  [-zgE, -zdO, ↓zaab, ↓zaaa, go_sem, c28, zaau c28, Nat.sub_pos_of_lt c28]
    | refine zaac (id := 6) Γk17_ok [] (by kernel_rfl) ?_; simp  [-zgE, -zdO, ↓zaab, ↓zaaa, go_sem]; try ((have hqw : q.1 < w.length := (by omega)); (have hP' := place_le (n := b.length) hqw); (have hzl : nxI s l q.1 < w.length := (by rw [hwl]; exact nxI_lt (by omega) (by omega))); (have hZ' := place_le (n := b.length) hzl); (have hAR0 := aRow_ok hr (a := s) (b := l) (by omega) q.1 (by omega)); (rw [← hwl] at hAR0); (have hcm : q.1 * c.length ≤ 160 * 2048 := Nat.mul_le_mul (by omega) n4); (have hqn : nxI s l ((q.1 : Int)).toNat = nxI s l q.1 := (by rw [Int.toNat_natCast])); (have hPi : (q.1 : Int) * (b.length : Int) = ((q.1 * b.length : Nat) : Int) := (Int.natCast_mul ..).symm); (have hZi : ((nxI s l q.1 : Nat) : Int) * (b.length : Int) = ((nxI s l q.1 * b.length : Nat) : Int) := (Int.natCast_mul ..).symm); (rw [hQn] at hP' hZ' hAR0); (have hin := fun k hk => hAR0.aIn hr (x := nth w q.1) hP' hZ' k hk); (have hsucc : aRow b.length c s l (q.1 + 1) = aIn b.length c (nth w q.1) (q.1 * b.length) (nxI s l q.1 * b.length) (aRow b.length c s l q.1) c.length := (by rw [← hw]; rfl)); (obtain ⟨P, hP⟩ : ∃ P, q.1 * b.length = P := ⟨_, rfl⟩); (obtain ⟨Z, hZ⟩ : ∃ Z, nxI s l q.1 * b.length = Z := ⟨_, rfl⟩); (rw [hP] at hP' hPi hsucc); (rw [hZ] at hZ' hZi hsucc); (simp only [hP, hZ] at hin); (obtain ⟨z, hz⟩ : ∃ z, nxI s l q.1 = z := ⟨_, rfl⟩); (rw [hz] at hZi hzl hqn); (obtain ⟨x, hxw⟩ : ∃ x, nth w q.1 = x := ⟨_, rfl⟩); (try rw [hxw]); (rw [hxw] at hsucc); (simp only [hxw] at hin))
    | refine zaac (id := 7) Γk17_ok [] (by kernel_rfl) ?_; simp  [-zgE, -zdO, ↓zaab, ↓zaaa, go_sem]
    | refine zaac (id := 8) Γk17_ok [] (by kernel_rfl) ?_; simp  [-zgE, -zdO, ↓zaab, ↓zaaa, go_sem, c36, zaau c36, Nat.sub_pos_of_lt c36]; try ((refine AW_data hK 11 ?_); (simp [go_sem]))
    | refine zaac (id := 9) Γk17_ok [] (by kernel_rfl) ?_; simp  [-zgE, -zdO, ↓zaab, ↓zaaa, go_sem]; try ((cases htk : tk x (nth c y.1)); rotate_left; (obtain ⟨f, hf⟩ : ∃ f, (P : Int) + (nth c y.1).1 = f := ⟨_, rfl⟩); (obtain ⟨t, ht⟩ : ∃ t, (Z : Int) + (nth c y.1).2.2.2 = t := ⟨_, rfl⟩); (obtain ⟨⟨p0, p1⟩, p2, p3⟩ := hr y.1 c36); (have f0 : 0 ≤ f := (by omega)); (have f1 : f < (Qn : Int) := (by omega)); (have t0 : 0 ≤ t := (by omega)); (have t1 : t < (Qn : Int) := (by omega)); (have hft : f.toNat < Qn := (by omega)); (have hAR := hin y.1 (by omega)); (have hnl := hAR.len); (have hrow := hAR.row f.toNat hft); (have hnext : (aIn b.length c x P Z (aRow b.length c s l q.1) (y.1 + 1)) = addE (aIn b.length c x P Z (aRow b.length c s l q.1) y.1) f t := (by rw [aIn_succ c36, aStep, if_pos htk, hf, ht])); (have hadd := oN_addG (xs := (aIn b.length c x P Z (aRow b.length c s l q.1) y.1)) (f := f) (t := t) (by omega) (zrP j7 D.any)); (rw [← hnext] at hadd); (have hgt := oN_get (xs := (aIn b.length c x P Z (aRow b.length c s l q.1) y.1)) (i := f.toNat) (by omega) (zrP j7 D.any)); (have hcl := oN_clen (xs := (aIn b.length c x P Z (aRow b.length c s l q.1) y.1)) (junk := zrP j7 D.any)); (rw [List.length_replicate, hnl] at hcl); (by_cases he : (nth (aIn b.length c x P Z (aRow b.length c s l q.1) y.1) f.toNat) = []); (rw [he, oNd_nil] at hgt); (rw [he] at hadd); (obtain ⟨cells, hce⟩ : ∃ cells, (cat oN (aIn b.length c x P Z (aRow b.length c s l q.1) y.1) ++ zrP j7 D.any) = cells := ⟨_, rfl⟩); (rw [hce] at hgt hcl e2 hadd); (have hadd1 : cells.set f.toNat (.fr 1 1 [.int .i64 t]) = cat oN (aIn b.length c x P Z (aRow b.length c s l q.1) (y.1 + 1)) ++ zrP j7 D.any := hadd); rotate_left; (have hcell := oN_cell (by omega) he (zrP j7 D.any)); (refine AW_matCell b7 f.toNat e2 hcell fun rb rcp rj q8 hrc hrj => ?_); (dsimp only at q8); (have rn : ¬ rb = b7 := (by rintro rfl; rw [e2] at q8; cases q8)); (clear q8); (have hset2 : ∀ z, ((cat oN (aIn b.length c x P Z (aRow b.length c s l q.1) y.1) ++ zrP j7 D.any).set f.toNat (D.sl rb 1 0 (nth (aIn b.length c x P Z (aRow b.length c s l q.1) y.1) f.toNat).length rcp)).set f.toNat z = (cat oN (aIn b.length c x P Z (aRow b.length c s l q.1) y.1) ++ zrP j7 D.any).set f.toNat z := fun z => List.set_set ..); (have hgi2 : ((cat oN (aIn b.length c x P Z (aRow b.length c s l q.1) y.1) ++ zrP j7 D.any).set f.toNat (D.sl rb 1 0 (nth (aIn b.length c x P Z (aRow b.length c s l q.1) y.1) f.toNat).length rcp))[f.toNat]? = some (D.sl rb 1 0 (nth (aIn b.length c x P Z (aRow b.length c s l q.1) y.1) f.toNat).length rcp) := List.getElem?_set_self (by rw [oN_clen]; omega)); (have hgt2 : ((cat oN (aIn b.length c x P Z (aRow b.length c s l q.1) y.1) ++ zrP j7 D.any).set f.toNat (D.sl rb 1 0 (nth (aIn b.length c x P Z (aRow b.length c s l q.1) y.1) f.toNat).length rcp)).getD f.toNat D.any = (D.sl rb 1 0 (nth (aIn b.length c x P Z (aRow b.length c s l q.1) y.1) f.toNat).length rcp) := (by rw [List.getD_eq_getElem?_getD, hgi2]; rfl)); (have hadd2 := hadd); (rw [← hset2] at hadd2); (have hcl2 : ((cat oN (aIn b.length c x P Z (aRow b.length c s l q.1) y.1) ++ zrP j7 D.any).set f.toNat (D.sl rb 1 0 (nth (aIn b.length c x P Z (aRow b.length c s l q.1) y.1) f.toNat).length rcp)).length = Qn + j7 := (by rw [List.length_set]; exact hcl)); (obtain ⟨cells, hce⟩ : ∃ cells, (cat oN (aIn b.length c x P Z (aRow b.length c s l q.1) y.1) ++ zrP j7 D.any).set f.toNat (D.sl rb 1 0 (nth (aIn b.length c x P Z (aRow b.length c s l q.1) y.1) f.toNat).length rcp) = cells := ⟨_, rfl⟩); (refine AW_gen (fun H4 => H4 b7 = some cells ∧ H4 rb = some (cat cI (nth (aIn b.length c x P Z (aRow b.length c s l q.1) y.1) f.toNat) ++ zrP rj D.any)) ⟨by simp [upd, rn, Ne.symm rn, ← hce], by simp [upd, rn, Ne.symm rn]⟩ fun H4 ⟨g4, hrb⟩ => ?_); (rw [hce] at hgt2 hadd2 hcl2 hgi2))
    | refine zaas (id := 10) Γk17_ok mixed [(b7, cells)] [] [7, 8, 6, 11] (by kernel_rfl) (by kernel_rfl) (by simp [-zgE, -zdO, ↓zaab, ↓zaaa, go_sem, stSeg_1, g4, hrb, rn, Ne.symm rn, hgt2, hcl2, snoc_cI, hadd2, hPi, hZi, hf, ht, hL, hz, zaan (x := (P : Int)) (by omega) (by omega), zaan (x := f) (by omega) (by omega), zaan (x := (Z : Int)) (by omega) (by omega), zaan (x := t) (by omega) (by omega), (show (0 : Int) ≤ (q.1 : Int) by omega), (show (q.1 : Int) < (s.length : Int) + (l.length : Int) by omega), hqn, (show f.toNat < Qn + j7 by omega), (show f.toNat + 1 ≤ Qn + j7 by omega), f0, f1, hft, (show rcp ≤ (nth (aIn b.length c x P Z (aRow b.length c s l q.1) y.1) f.toNat).length + rj by omega), (show (nth (aIn b.length c x P Z (aRow b.length c s l q.1) y.1) f.toNat).length + 1 ≤ 9223372036854775807 by omega), (show (nth (aIn b.length c x P Z (aRow b.length c s l q.1) y.1) f.toNat).length ≤ 9223372036854775806 by omega), (show 2 * ((nth (aIn b.length c x P Z (aRow b.length c s l q.1) y.1) f.toNat).length + 1) * 8 ≤ 281474976710656 by omega), cat_take_app1]) (by simp [-zgE, -zdO, ↓zaab, ↓zaaa, go_sem, stSeg_1, g4, hrb, rn, Ne.symm rn, hgt2, hcl2, snoc_cI, hadd2, hPi, hZi, hf, ht, hL, hz, zaan (x := (P : Int)) (by omega) (by omega), zaan (x := f) (by omega) (by omega), zaan (x := (Z : Int)) (by omega) (by omega), zaan (x := t) (by omega) (by omega), (show (0 : Int) ≤ (q.1 : Int) by omega), (show (q.1 : Int) < (s.length : Int) + (l.length : Int) by omega), hqn, (show f.toNat < Qn + j7 by omega), (show f.toNat + 1 ≤ Qn + j7 by omega), f0, f1, hft, (show rcp ≤ (nth (aIn b.length c x P Z (aRow b.length c s l q.1) y.1) f.toNat).length + rj by omega), (show (nth (aIn b.length c x P Z (aRow b.length c s l q.1) y.1) f.toNat).length + 1 ≤ 9223372036854775807 by omega), (show (nth (aIn b.length c x P Z (aRow b.length c s l q.1) y.1) f.toNat).length ≤ 9223372036854775806 by omega), (show 2 * ((nth (aIn b.length c x P Z (aRow b.length c s l q.1) y.1) f.toNat).length + 1) * 8 ≤ 281474976710656 by omega), cat_take_app1]) ?_; simp  [-zgE, -zdO, ↓zaab, ↓zaaa, go_sem, stSeg_1, g4, hrb, rn, Ne.symm rn, hgt2, hcl2, snoc_cI, hadd2, hPi, hZi, hf, ht, hL, hz, zaan (x := (P : Int)) (by omega) (by omega), zaan (x := f) (by omega) (by omega), zaan (x := (Z : Int)) (by omega) (by omega), zaan (x := t) (by omega) (by omega), (show (0 : Int) ≤ (q.1 : Int) by omega), (show (q.1 : Int) < (s.length : Int) + (l.length : Int) by omega), hqn, (show f.toNat < Qn + j7 by omega), (show f.toNat + 1 ≤ Qn + j7 by omega), f0, f1, hft, (show rcp ≤ (nth (aIn b.length c x P Z (aRow b.length c s l q.1) y.1) f.toNat).length + rj by omega), (show (nth (aIn b.length c x P Z (aRow b.length c s l q.1) y.1) f.toNat).length + 1 ≤ 9223372036854775807 by omega), (show (nth (aIn b.length c x P Z (aRow b.length c s l q.1) y.1) f.toNat).length ≤ 9223372036854775806 by omega), (show 2 * ((nth (aIn b.length c x P Z (aRow b.length c s l q.1) y.1) f.toNat).length + 1) * 8 ≤ 281474976710656 by omega), cat_take_app1]; try ((refine AW_gen (fun H1 => H1 b7 = some (cat oN (aIn b.length c x P Z (aRow b.length c s l q.1) (y.1 + 1)) ++ zrP j7 D.any)) (by first | (simp [upd, stSeg_1, rn, Ne.symm rn, hadd2]; done) | (simp [upd, stSeg_1, hadd1]; done)) fun H9 t3 => ?_); (have fl : True ∧ True := ⟨trivial, trivial⟩))
    | refine zaas (id := 10) Γk17_ok mixed [(b7, cells)] [] [7, 8, 6, 11] (by kernel_rfl) (by kernel_rfl) (by simp [-zgE, -zdO, ↓zaab, ↓zaaa, go_sem, stSeg_1, e2, hgt, hcl, hadd1, hPi, hZi, hf, ht, hL, hz, zaan (x := (P : Int)) (by omega) (by omega), zaan (x := f) (by omega) (by omega), zaan (x := (Z : Int)) (by omega) (by omega), zaan (x := t) (by omega) (by omega), (show (0 : Int) ≤ (q.1 : Int) by omega), (show (q.1 : Int) < (s.length : Int) + (l.length : Int) by omega), hqn, (show f.toNat < Qn + j7 by omega), (show f.toNat + 1 ≤ Qn + j7 by omega), f0, f1, hft, (show makeD [D.int .i64 0] 1 = [D.int .i64 0] from rfl)]) (by simp [-zgE, -zdO, ↓zaab, ↓zaaa, go_sem, stSeg_1, e2, hgt, hcl, hadd1, hPi, hZi, hf, ht, hL, hz, zaan (x := (P : Int)) (by omega) (by omega), zaan (x := f) (by omega) (by omega), zaan (x := (Z : Int)) (by omega) (by omega), zaan (x := t) (by omega) (by omega), (show (0 : Int) ≤ (q.1 : Int) by omega), (show (q.1 : Int) < (s.length : Int) + (l.length : Int) by omega), hqn, (show f.toNat < Qn + j7 by omega), (show f.toNat + 1 ≤ Qn + j7 by omega), f0, f1, hft, (show makeD [D.int .i64 0] 1 = [D.int .i64 0] from rfl)]) ?_; simp  [-zgE, -zdO, ↓zaab, ↓zaaa, go_sem, stSeg_1, e2, hgt, hcl, hadd1, hPi, hZi, hf, ht, hL, hz, zaan (x := (P : Int)) (by omega) (by omega), zaan (x := f) (by omega) (by omega), zaan (x := (Z : Int)) (by omega) (by omega), zaan (x := t) (by omega) (by omega), (show (0 : Int) ≤ (q.1 : Int) by omega), (show (q.1 : Int) < (s.length : Int) + (l.length : Int) by omega), hqn, (show f.toNat < Qn + j7 by omega), (show f.toNat + 1 ≤ Qn + j7 by omega), f0, f1, hft, (show makeD [D.int .i64 0] 1 = [D.int .i64 0] from rfl)]; try ((refine AW_gen (fun H1 => H1 b7 = some (cat oN (aIn b.length c x P Z (aRow b.length c s l q.1) (y.1 + 1)) ++ zrP j7 D.any)) (by first | (simp [upd, stSeg_1, rn, Ne.symm rn, hadd2]; done) | (simp [upd, stSeg_1, hadd1]; done)) fun H9 t3 => ?_); (have fl : True ∧ True := ⟨trivial, trivial⟩))
    | (first | (rename True ∧ True => k_; skip) | ((have hsame : (aIn b.length c x P Z (aRow b.length c s l q.1) (y.1 + 1)) = (aIn b.length c x P Z (aRow b.length c s l q.1) y.1) := (by rw [aIn_succ (by omega), aStep, if_neg (by rw [htk]; simp)])); (refine AW_gen (fun H1 => H1 b7 = some (cat oN (aIn b.length c x P Z (aRow b.length c s l q.1) (y.1 + 1)) ++ zrP j7 D.any)) (by dsimp only; rw [hsame]; exact e2) fun H9 t3 => ?_))); refine zaac (id := 11) Γk17_ok [] (by kernel_rfl) ?_; simp  [-zgE, -zdO, ↓zaab, ↓zaaa, go_sem, wrapS (k := y.1) (by omega)]
    | refine zaac (id := 12) Γk17_ok [] (by kernel_rfl) ?_; simp  [-zgE, -zdO, ↓zaab, ↓zaaa, go_sem, wrapS (k := q.1) (by omega)]
    | ((obtain ⟨kx, Hx⟩ := q); (dsimp only at *); (obtain rfl : kx = w.length := by omega); (have hal : aRow b.length c s l w.length = aAll b.length c s l := (by rw [hwl]; rfl)); (rw [hal] at g2); (obtain ⟨nx, hnx⟩ : ∃ nx, aAll b.length c s l = nx := ⟨_, rfl⟩); (rw [hnx] at g2 hx hs hlen ⊢); (refine AW_unmat 7 (b := b7) (all := cat oN nx ++ zrP j7 D.any) rfl g2 (by omega) (by rw [oN_clen]; simp; omega) (by rw [oN_clen]; simp; omega) ?_); (rw [Nat.mul_one, zaav (f := oN) nx (zrP j7 D.any) (n := Qn) hlen.symm]); (refine AW_data hK 7 ?_); (have hst := hA.starts hbQ); (have hcyl := cycL_len nx); (have hrcl := rchL_len nx a); (have hSN : ∀ z, z ∈ a → Nd nx z := (fun z hz => ⟨(hst.1 z hz).1, by rw [hlen]; exact (hst.1 z hz).2⟩))); refine zaac (id := 13) Γk17_ok [] (by kernel_rfl) ?_; simp  [-zgE, -zdO, ↓zaab, ↓zaaa, go_sem, hx, hs, hlen, (show Qn ≤ 1048576 by omega), (show nx.length ≤ 1048576 by omega)]; try ((refine AW_data hK 12 ?_); (simp [go_sem]))
    | refine zaac (id := 14) Γk17_ok [] (by kernel_rfl) ?_; simp  [-zgE, -zdO, ↓zaab, ↓zaaa, go_sem, hx, hs, hlen, (show Qn ≤ 1048576 by omega), (show nx.length ≤ 1048576 by omega), (show (∀ x, x ∈ a → Nd nx x) = True from eq_true hSN), hSN, hrcl, (show a.length ≤ 1048576 by omega)]; try ((refine AW_data hK 76 ?_); (simp [go_sem, hrcl]))
    | refine zaac (id := 15) Γk17_ok [] (by kernel_rfl) ?_; simp  [-zgE, -zdO, ↓zaab, ↓zaaa, go_sem]
    | ((have hkn : k < nx.length := (by omega)); (have hmo := Nat.mod_lt k (show 0 < b.length by omega)); (have hr1 : (nth (rchL nx a) k = true) = RchS nx a (k : Int) := (by rw [nth_rchL hkn, B_iff])); (have hr2 : (nth (cycL nx) k = true) = Cyc nx (k : Int) := (by rw [nth_cycL hkn, B_iff])); (have hcn : ¬ cycL nx = [] := (by intro e; rw [e] at hcyl; simp at hcyl; omega)); (have hrn : ¬ rchL nx a = [] := (by intro e; rw [e] at hrcl; simp at hrcl; omega)); (have hbn : ¬ b = [] := (by rintro rfl; simp at n1)); (obtain ⟨km, hkm⟩ : ∃ km : Nat, k % b.length = km := ⟨_, rfl⟩); (have htm : (k : Int).tmod (b.length : Int) = (km : Int) := (by rw [tmod_nat, hkm])); (rw [hkm] at hmo)); refine zaac (id := 16) Γk17_ok [] (by kernel_rfl) ?_; simp  [-zgE, -zdO, ↓zaab, ↓zaaa, go_sem, hrcl, hlen, c79, hrn, Nat.sub_pos_of_lt c79]
    | refine zaat (id := 17) Γk17_ok mixed [84, 90] [] (by kernel_rfl) (by kernel_rfl) (by simp [-zgE, -zdO, ↓zaab, ↓zaaa, go_sem, hcyl, hrcl, hlen, c79, hcn, hbn, Nat.sub_pos_of_lt c79, htm, hmo, Nat.sub_pos_of_lt hmo, (show ¬ (b.length : Int) = 0 by omega)]) ?_; simp  [-zgE, -zdO, ↓zaab, ↓zaaa, go_sem, hcyl, hrcl, hlen, c79, hcn, hbn, Nat.sub_pos_of_lt c79, htm, hmo, Nat.sub_pos_of_lt hmo, (show ¬ (b.length : Int) = 0 by omega)]; try (refine ⟨fun s17a => ?_, fun s17a => ?_⟩ <;> (try simp [B_iff, B_not] at s17a) <;> try (refine ⟨fun s17b => ?_, fun s17b => ?_⟩ <;> (try simp [B_iff, B_not] at s17b) <;> try (refine ⟨fun s17c => ?_, fun s17c => ?_⟩ <;> (try simp [B_iff, B_not] at s17c))))
    | refine zaac (id := 18) Γk17_ok [] (by kernel_rfl) ?_; simp  [-zgE, -zdO, ↓zaab, ↓zaaa, go_sem]
    | refine zaac (id := 19) Γk17_ok [] (by kernel_rfl) ?_; simp  [-zgE, -zdO, ↓zaab, ↓zaaa, go_sem, wrapS (k := k) (by omega)]
    | refine zaac (id := 20) Γk17_ok [] (by kernel_rfl) ?_; simp  [-zgE, -zdO, ↓zaab, ↓zaaa, go_sem]
    | refine zaad (c := .tmp 28) ?_; simp [-zgE, -zdO, ↓zaab, ↓zaaa, go_sem]; try first | (refine ⟨?_, ?_⟩ <;> change AW _ _ _ _ _ _) | (refine ⟨fun c28 => ?_, fun c28 => ?_⟩ <;> (try simp [B_iff, B_not] at c28))
    | refine zaad (c := .tmp 36) ?_; simp [-zgE, -zdO, ↓zaab, ↓zaaa, go_sem]; try first | (refine ⟨?_, ?_⟩ <;> change AW _ _ _ _ _ _) | (refine ⟨fun c36 => ?_, fun c36 => ?_⟩ <;> (try simp [B_iff, B_not] at c36))
    | refine zaad (c := .tmp 41) ?_; simp [-zgE, -zdO, ↓zaab, ↓zaaa, go_sem]; try first | (refine ⟨?_, ?_⟩ <;> change AW _ _ _ _ _ _) | (refine ⟨fun c41 => ?_, fun c41 => ?_⟩ <;> (try simp [B_iff, B_not] at c41))
    | refine zaad (c := .tmp 79) ?_; simp [-zgE, -zdO, ↓zaab, ↓zaaa, go_sem]; try first | (refine ⟨?_, ?_⟩ <;> change AW _ _ _ _ _ _) | (refine ⟨fun c79 => ?_, fun c79 => ?_⟩ <;> (try simp [B_iff, B_not] at c79))
    | refine zaad (c := .tmp 98) ?_; simp [-zgE, -zdO, ↓zaab, ↓zaaa, go_sem]; try first | (refine ⟨?_, ?_⟩ <;> change AW _ _ _ _ _ _) | (refine ⟨fun c98 => ?_, fun c98 => ?_⟩ <;> (try simp [B_iff, B_not] at c98))
    | (refine zaag (id := 0) (AW_loop (ι := Nat × Hp) (fun q : Nat × Hp => ⟨(upd (upd (upd (upd (upd (upd (upd (upd (fun _ => .any) 2 (.pd [li cI a, li cB b, li cT c])) 3 (.pd [li cI s, li cI l])) 5 (li cI w)) 6 (.int .i64 b.length)) 7 (.sl b7 1 0 Qn c7)) 25 (li cI w)) 26 (.int .i64 w.length)) 27 (.int .i64 q.1)), q.2⟩) (fun q => q.1 ≤ w.length ∧ q.2 b7 = some (cat oN (aRow b.length c s l q.1) ++ zrP j7 D.any)) (fun q => w.length - q.1) ((0, H1)) ?_ ?_ ?_); exact ⟨Nat.zero_le _, w7⟩; ((repeat' (first | exact zaae (by assumption) | exact zaai | exact ⟨fun _ => Or.inl rfl, fun _ _ h => nomatch h⟩ | refine zaam ?_ ?_ | refine zaaf ?_)) <;> simp [-zgE, -zdO, ↓zaab, ↓zaaa, go_sem]); rintro q ⟨g1, g2⟩)
    | (refine ⟨(q.1 + 1, y.2), ⟨by dsimp only; omega, by dsimp only; (have e9 : y.1 = c.length := by omega); rw [hsucc, ← e9]; exact e2⟩, by first | omega | (simp; done) | (simp; omega), ?_⟩; ((repeat' (first | exact zaae (by assumption) | exact zaai | exact ⟨fun _ => Or.inl rfl, fun _ _ h => nomatch h⟩ | refine zaam ?_ ?_ | refine zaaf ?_)) <;> simp [-zgE, -zdO, ↓zaab, ↓zaaa, go_sem]))
    | (refine zaag (id := 2) (AW_loop (ι := Nat × Hp) (fun y : Nat × Hp => ⟨(upd (upd (upd (upd (upd (upd (upd (upd (upd (upd (upd (upd (upd (fun _ => .any) 2 (.pd [li cI a, li cB b, li cT c])) 3 (.pd [li cI s, li cI l])) 5 (li cI w)) 6 (.int .i64 b.length)) 7 (.sl b7 1 0 Qn c7)) 8 (.int .i64 q.1)) 9 (.int .i64 x)) 25 (li cI w)) 26 (.int .i64 w.length)) 27 (.int .i64 q.1)) 33 (li cT c)) 34 (.int .i64 c.length)) 35 (.int .i64 y.1)), y.2⟩) (fun y => y.1 ≤ c.length ∧ y.2 b7 = some (cat oN (aIn b.length c x P Z (aRow b.length c s l q.1) y.1) ++ zrP j7 D.any)) (fun y => c.length - y.1) ((0, q.2)) ?_ ?_ ?_); exact ⟨Nat.zero_le _, by dsimp only; rw [aIn_zero]; exact g2⟩; ((repeat' (first | exact zaae (by assumption) | exact zaai | exact ⟨fun _ => Or.inl rfl, fun _ _ h => nomatch h⟩ | refine zaam ?_ ?_ | refine zaaf ?_)) <;> simp [-zgE, -zdO, ↓zaab, ↓zaaa, go_sem]); rintro y ⟨e1, e2⟩)
    | (refine ⟨(y.1 + 1, H9), ⟨by dsimp only; omega, t3⟩, by first | omega | (simp; done) | (simp; omega), ?_⟩; ((repeat' (first | exact zaae (by assumption) | exact zaai | exact ⟨fun _ => Or.inl rfl, fun _ _ h => nomatch h⟩ | refine zaam ?_ ?_ | refine zaaf ?_)) <;> simp [-zgE, -zdO, ↓zaab, ↓zaaa, go_sem, ]))
    | (refine zaag (id := 4) (AW_loop (ι := Nat) (fun k : Nat => ⟨(upd (upd (upd (upd (upd (upd (fun _ => .any) 2 (.pd [li cI a, li cB b, li cT c])) 6 (.int .i64 b.length)) 12 (li cB (cycL nx))) 76 (li cB (rchL nx a))) 77 (.int .i64 Qn)) 78 (.int .i64 k)), fun _ => none⟩) (fun k => k ≤ Qn ∧ AllTill (fun i => ¬ gdA b.length b a nx i) k) (fun k => Qn - k) (0) ?_ ?_ ?_); exact ⟨Nat.zero_le _, .zero _⟩; ((repeat' (first | exact zaae (by assumption) | exact zaai | exact ⟨fun _ => Or.inl rfl, fun _ _ h => nomatch h⟩ | refine zaam ?_ ?_ | refine zaaf ?_)) <;> simp [-zgE, -zdO, ↓zaab, ↓zaaa, go_sem, li, hcyl, hrcl, hlen]); rintro k ⟨hk, hat⟩)
    | (refine ⟨k + 1, ⟨by omega, hat.succ (fun hg => by have h1 := hg.1; have h2 := hg.2.1; have h3 := hg.2.2; rw [← hr1] at h1; rw [← hr2] at h2; simp_all)⟩, by first | omega | (simp; done) | (simp; omega), ?_⟩; ((repeat' (first | exact zaae (by assumption) | exact zaai | exact ⟨fun _ => Or.inl rfl, fun _ _ h => nomatch h⟩ | refine zaam ?_ ?_ | refine zaaf ?_)) <;> simp [-zgE, -zdO, ↓zaab, ↓zaaa, go_sem, li, hcyl, hrcl, hlen]))
    | (refine zaag ?_)
    | (refine zaap ?_; simp [-zgE, -zdO, ↓zaab, ↓zaaa, go_sem])
    | (refine zaao ?_; simp [-zgE, -zdO, ↓zaab, ↓zaaa, go_sem])
    | (refine AW_ret ?_; simp [-zgE, -zdO, ↓zaab, ↓zaaa, go_sem, Try.results138])
    | (intro hx; change AW _ _ _ _ _ _)
    | (refine ⟨?_, ?_⟩ <;> change AW _ _ _ _ _ _)
    | (intro hx; refine ⟨fun hs => ?_, fun hs => ?_⟩)
    | (refine ⟨fun hs => ?_, fun hs => ?_⟩)
    | (refine ⟨?_, fun hs => ?_⟩; change AW _ _ _ _ _ _)
    | (refine ⟨fun hs => ?_, ?_⟩; rotate_left; change AW _ _ _ _ _ _; rotate_left)))
  all_goals (first
    | (exact B_yes ⟨k, hkn, hr1 ▸ s17a, hr2 ▸ s17b, by rw [hkm]; exact c98⟩)
    | (exact ⟨k, hkn, hr1 ▸ s17a, hr2 ▸ s17b, by rw [hkm]; exact c98⟩)
    | (refine B_yes ⟨k, hkn, ?_, ?_, ?_⟩; (rw [← hr1]; simp_all; done); (rw [← hr2]; simp_all; done); (simp_all; done))
    | (exact B_no (acp_none fun i hi => hat i (by omega)))
    | (refine ⟨k, hkn, ?_, ?_, ?_⟩; (rw [← hr1]; simp_all; done); (rw [← hr2]; simp_all; done); (simp_all; done))
    | (exact acp_none fun i hi => hat i (by omega))
    | skip)
noncomputable def accepts_pureC : Con := .pure fun
  | [.st [.list n_a c_a, .list n_b c_b, .list n_c c_c], .st [.list n_s c_s, .list n_l c_l]] => ((Is cI n_a c_a) ∧ (Is cB n_b c_b) ∧ (Is cT n_c c_c) ∧ (Is cI n_s c_s) ∧ (Is cI n_l c_l) ∧ (AutOk (de cI c_a) (de cB c_b).length (de cT c_c)) ∧ (LasOk (de cI c_s) (de cI c_l)), .bool (B (Acp (de cB c_b).length (de cB c_b) (de cI c_a) (aAll (de cB c_b).length (de cT c_c) (de cI c_s) (de cI c_l)))))
  | _ => (False, .any)
attribute [go_sem] accepts_pureC
theorem accepts_pureC_ok : ConOk Try.prog 138 accepts_pureC := by
  refine ⟨zaal Try.func138 (by decide) rfl, fun args h => ?_⟩
  revert h
  dsimp only
  split
  · intro h
    obtain ⟨⟨a, rfl, rfl⟩, ⟨b, rfl, rfl⟩, ⟨c, rfl, rfl⟩, ⟨s, rfl, rfl⟩, ⟨l, rfl, rfl⟩, hA, hL⟩ := h
    try simp only [de_cat] at *
    exact ⟨accepts_pure a b c s l hA hL, by simp [go_sem]⟩
  · intro h
    exact h.elim
noncomputable def Γk18 : FuncId → Con := ext Γk17 138 accepts_pureC
attribute [go_sem] Γk18
theorem Γk18_ok : ∀ g, ConOk Try.prog g (Γk18 g) := zaaw Γk17_ok accepts_pureC_ok

end Go.Proofs.Ytkjimmkemnmajaa.Vm

