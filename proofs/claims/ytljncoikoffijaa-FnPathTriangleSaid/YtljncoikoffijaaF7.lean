/-
  Traces. No conditions.
-/
import Derived.Test.YtljncoikoffijaaF6
namespace Go.Proofs.Ytljncoikoffijaa.Vm
open Go
set_option linter.unusedVariables false
set_option linter.unusedSimpArgs false
set_option maxRecDepth 200000

/-- A trace of a graph. -/
def TraceOk (a : List Ints2) (b : List (List Int)) (s l : List Int) : Prop :=
  PathOk a b (s ++ l) ∧ 1 ≤ l.length ∧ s.length + l.length ≤ 8000 ∧ nth (s ++ l) 0 = 0 ∧ nth l 0 ∈ nth b (nth (s ++ l) (s.length + l.length - 1)).toNat
theorem last_app {s l : List Int} (h : 0 < l.length) : nth (s ++ l) (s.length + l.length - 1) = nth l (l.length - 1) := by
  rw [nth_lt (by simp; omega), nth_lt (by omega), List.getElem_append_right (by omega)]
  congr 1; omega
theorem trace_facts {a : List Ints2} {b : List (List Int)} {s l : List Int} (h : PathOk a b (s ++ l)) (hl : 0 < l.length) :
    0 ≤ nth (s ++ l) (s.length + l.length - 1) ∧ nth (s ++ l) (s.length + l.length - 1) < b.length ∧ (nth (s ++ l) (s.length + l.length - 1)).toNat < b.length := by
  obtain ⟨hG, h1, h2⟩ := h
  have := h2 (s.length + l.length - 1) (by simp; omega)
  have e := hG.2.2.1
  obtain ⟨q1, q2, _⟩ := this
  omega

theorem specTraceValid_pure (a : List Ints2) (b : List (List Int)) (s : List Int) (l : List Int) (h0 : s.length ≤ 1048576) (h1 : l.length ≤ 1048576) : Pure Try.prog 29 [.st [li cP a, li cL b], .st [li cI s, li cI l]] (.bool (B (TraceOk a b s l))) := by
  refine Pure.of_walk Try.func29 rfl (by simp [Try.f29]) (by simp [-List.drop_one, go_sem]) fun B hK => ?_
  rcases Nat.eq_zero_or_pos l.length with hl | hl
  all_goals (repeat' (first
    | refine AW_seq ?_
    | refine AW_region (id := 0) Γ48_ok [] (by kernel_rfl) ?_; simp  [-List.getD_eq_getElem?_getD, -List.drop_one, ↓splitB_true, ↓splitB_false, go_sem]; try (refine AW_data hK 2 ?_; simp [go_sem]; refine AW_data hK 3 ?_; simp [go_sem])
    | refine AW_region (id := 1) Γ48_ok [] (by kernel_rfl) ?_; simp  [-List.getD_eq_getElem?_getD, -List.drop_one, ↓splitB_true, ↓splitB_false, go_sem, h0, h1]; try (refine AW_data hK 5 ?_; simp [go_sem])
    | refine AW_region (id := 2) Γ48_ok [12, 17, 23] (by kernel_rfl) ?_; simp  [-List.getD_eq_getElem?_getD, -List.drop_one, ↓splitB_true, ↓splitB_false, go_sem, (show 0 < s.length + l.length by omega), (show (0 : Int) < (s.length : Int) + (l.length : Int) by omega), ne_nil hl]; try (refine ⟨fun s2a => ?_, fun s2a => ?_⟩ <;> (try simp [B_iff, B_not] at s2a) <;> try (refine ⟨fun s2b => ?_, fun s2b => ?_⟩ <;> (try simp [B_iff, B_not] at s2b) <;> try (refine ⟨fun s2c => ?_, fun s2c => ?_⟩ <;> (try simp [B_iff, B_not] at s2c) <;> try (refine ⟨fun s2d => ?_, fun s2d => ?_⟩ <;> (try simp [B_iff, B_not] at s2d)))))
    | refine AW_region (id := 2) Γ48_ok [12, 17, 23] (by kernel_rfl) ?_; simp  [-List.getD_eq_getElem?_getD, -List.drop_one, ↓splitB_true, ↓splitB_false, go_sem, (show l.length = 0 from hl)]; try (refine ⟨fun s2a => ?_, fun s2a => ?_⟩ <;> (try simp [B_iff, B_not] at s2a) <;> try (refine ⟨fun s2b => ?_, fun s2b => ?_⟩ <;> (try simp [B_iff, B_not] at s2b) <;> try (refine ⟨fun s2c => ?_, fun s2c => ?_⟩ <;> (try simp [B_iff, B_not] at s2c) <;> try (refine ⟨fun s2d => ?_, fun s2d => ?_⟩ <;> (try simp [B_iff, B_not] at s2d)))))
    | refine AW_region (id := 3) Γ48_ok [] (by kernel_rfl) ?_; simp  [-List.getD_eq_getElem?_getD, -List.drop_one, ↓splitB_true, ↓splitB_false, go_sem]
    | refine AW_region_draw (id := 4) Γ48_ok mixed [] [5] (by kernel_rfl) (by kernel_rfl) (by simp [-List.getD_eq_getElem?_getD, -List.drop_one, ↓splitB_true, ↓splitB_false, go_sem, nosuch]) ?_; simp  [-List.getD_eq_getElem?_getD, -List.drop_one, ↓splitB_true, ↓splitB_false, go_sem, nosuch]
    | refine AW_condA (c := .tmp 28) ?_; simp [-List.getD_eq_getElem?_getD, -List.drop_one, ↓splitB_true, ↓splitB_false, go_sem]; try first | (refine ⟨?_, ?_⟩ <;> change AW _ _ _ _ _ _) | (refine ⟨fun c28 => ?_, fun c28 => ?_⟩ <;> (try simp [B_iff, B_not] at c28))
    | (refine AW_block ?_)
    | (refine AW_exit ?_; simp [-List.getD_eq_getElem?_getD, -List.drop_one, ↓splitB_true, ↓splitB_false, go_sem])
    | (refine AW_skip ?_; simp [-List.getD_eq_getElem?_getD, -List.drop_one, ↓splitB_true, ↓splitB_false, go_sem])
    | (refine AW_ret ?_; simp [-List.getD_eq_getElem?_getD, -List.drop_one, ↓splitB_true, ↓splitB_false, go_sem, Try.results29])
    | (intro hx; change AW _ _ _ _ _ _)
    | (refine ⟨?_, ?_⟩ <;> change AW _ _ _ _ _ _)
    | (intro hx; refine ⟨fun hs => ?_, fun hs => ?_⟩)
    | (refine ⟨fun hs => ?_, fun hs => ?_⟩)
    | (refine ⟨?_, fun hs => ?_⟩; change AW _ _ _ _ _ _)
    | (refine ⟨fun hs => ?_, ?_⟩; rotate_left; change AW _ _ _ _ _ _; rotate_left)))
  all_goals first
    | (intro h; obtain ⟨g1, g2, g3, g4, g5⟩ := h; first | omega | exact c28 g1 | exact s2c g4)
    | skip
  obtain ⟨q1, q2, q3⟩ := trace_facts c28 hl
  have f1 := wrap_in (x := (s.length : Int) + (l.length : Int) - 1) (by omega) (by omega)
  have f2 : ((s.length : Int) + (l.length : Int) - 1).toNat = s.length + l.length - 1 := by omega
  have f3 : (0 : Int) ≤ (s.length : Int) + (l.length : Int) - 1 := by omega
  have f4 : (0 : Int) < (l.length : Int) := by omega
  have f5 : s.length + l.length - 1 < (s ++ l).length := by rw [List.length_append]; omega
  have f6 : s.length + l.length - 1 < s.length + l.length := by omega
  have f7 : 0 < s.length + l.length := by omega
  have f8 : ((s.length : Int) + (l.length : Int) - 1) < (s.length : Int) + (l.length : Int) := by omega
  have f9 : 1 ≤ s.length + l.length := by omega
  have f10 : (1 : Int) ≤ (s.length : Int) + (l.length : Int) := by omega
  have g8 : s.length + l.length ≤ 8000 := by omega
  have g9 : 1 ≤ l.length := by omega
  clear s2a s2b
  refine AW_region_draw (id := 4) Γ48_ok mixed [] [5] (by kernel_rfl) (by kernel_rfl) (by simp [go_sem]) ?_
  simp [-List.getD_eq_getElem?_getD, -List.drop_one, ↓splitB_true, ↓splitB_false, go_sem, f1, f2, f3, f4, f6, f7, f8, f9, f10, Nat.sub_pos_of_lt f6, q1, q2, q3, ne_nil q3, Nat.sub_pos_of_lt q3, hl, ne_nil hl, Nat.sub_pos_of_lt hl]
  refine AW_ret ?_
  simp [-List.getD_eq_getElem?_getD, -List.drop_one, go_sem, Try.results29]
  rw [Bool.eq_iff_iff, B_iff, B_iff]
  exact ⟨fun h => ⟨c28, g9, g8, s2c, h⟩, fun h => h.2.2.2.2⟩
noncomputable def specTraceValid_pureC : Con := .pure fun
  | [.st [.list n_a c_a, .list n_b c_b], .st [.list n_s c_s, .list n_l c_l]] => ((Is cP n_a c_a) ∧ (Is cL n_b c_b) ∧ (Is cI n_s c_s) ∧ (Is cI n_l c_l) ∧ ((de cI c_s).length ≤ 1048576) ∧ ((de cI c_l).length ≤ 1048576), .bool (B (TraceOk (de cP c_a) (de cL c_b) (de cI c_s) (de cI c_l))))
  | _ => (False, .any)
attribute [go_sem] specTraceValid_pureC
theorem specTraceValid_pureC_ok : ConOk Try.prog 29 specTraceValid_pureC := by
  refine ⟨callable Try.func29 (by decide) rfl, fun args h => ?_⟩
  revert h
  dsimp only
  split
  · intro h
    obtain ⟨⟨a, rfl, rfl⟩, ⟨b, rfl, rfl⟩, ⟨s, rfl, rfl⟩, ⟨l, rfl, rfl⟩, h0, h1⟩ := h
    try simp only [de_cat] at *
    exact ⟨specTraceValid_pure a b s l h0 h1, by simp [go_sem]⟩
  · intro h
    exact h.elim
noncomputable def Γ49 : FuncId → Con := ext Γ48 29 specTraceValid_pureC
attribute [go_sem] Γ49
theorem Γ49_ok : ∀ g, ConOk Try.prog g (Γ49 g) := ext_ok Γ48_ok specTraceValid_pureC_ok

theorem impl_facts {a : List Ints2} {b : List (List Int)} {s l : List Int} (hP : PathOk a b (s ++ l)) (hl : 0 < l.length) (h8 : s.length + l.length ≤ 8000) :
    (0 ≤ nth l (l.length - 1) ∧ nth l (l.length - 1) < b.length ∧ (nth l (l.length - 1)).toNat < b.length ∧ ¬ b = [] ∧ 0 < b.length - (nth l (l.length - 1)).toNat) ∧
    (IntKind.i64.wrap ((l.length : Int) - 1) = (l.length : Int) - 1 ∧ ((l.length : Int) - 1).toNat = l.length - 1 ∧ (0 : Int) ≤ (l.length : Int) - 1 ∧ (0 : Int) < (l.length : Int) ∧ (l.length : Int) - 1 < l.length ∧ l.length - 1 < l.length ∧ 0 < l.length - (l.length - 1)) ∧
    (0 < s.length + l.length ∧ (1 : Int) ≤ (l.length : Int) ∧ (0 : Int) < (s.length : Int) + (l.length : Int) ∧ 1 ≤ l.length) := by
  obtain ⟨q1, q2, q3⟩ := trace_facts hP hl
  rw [last_app hl] at q1 q2 q3
  refine ⟨⟨q1, q2, q3, ne_nil q3, Nat.sub_pos_of_lt q3⟩, ⟨wrap_in (by omega) (by omega), by omega, by omega, by omega, by omega, by omega, by omega⟩, by omega, by omega, by omega, by omega⟩
theorem implTraceValid_pure (a : List Ints2) (b : List (List Int)) (s : List Int) (l : List Int) (h0 : s.length ≤ 1048576) (h1 : l.length ≤ 1048576) : Pure Try.prog 28 [.st [li cP a, li cL b], .st [li cI s, li cI l]] (.bool (B (TraceOk a b s l))) := by
  refine Pure.of_walk Try.func28 rfl (by simp [Try.f28]) (by simp [-List.drop_one, go_sem]) fun B hK => ?_
  rcases Nat.eq_zero_or_pos l.length with hl | hl <;> by_cases hP : PathOk a b (s ++ l)
  all_goals (repeat' (first
    | refine AW_seq ?_
    | refine AW_region (id := 0) Γ49_ok [] (by kernel_rfl) ?_; simp  [-List.getD_eq_getElem?_getD, -List.drop_one, ↓splitB_true, ↓splitB_false, go_sem]; try (refine AW_data hK 2 ?_; simp [go_sem]; refine AW_data hK 3 ?_; simp [go_sem])
    | refine AW_region (id := 1) Γ49_ok [] (by kernel_rfl) ?_; simp  [-List.getD_eq_getElem?_getD, -List.drop_one, ↓splitB_true, ↓splitB_false, go_sem]
    | refine AW_region (id := 2) Γ49_ok [12] (by kernel_rfl) ?_; simp  [-List.getD_eq_getElem?_getD, -List.drop_one, ↓splitB_true, ↓splitB_false, go_sem, wrap_in (x := (s.length : Int) + (l.length : Int)) (by omega) (by omega), ne_nil hl]; try (refine ⟨fun s2a => ?_, fun s2a => ?_⟩ <;> (try simp [B_iff, B_not] at s2a) <;> try (refine ⟨fun s2b => ?_, fun s2b => ?_⟩ <;> (try simp [B_iff, B_not] at s2b)))
    | refine AW_region (id := 2) Γ49_ok [12] (by kernel_rfl) ?_; simp  [-List.getD_eq_getElem?_getD, -List.drop_one, ↓splitB_true, ↓splitB_false, go_sem, (show l.length = 0 from hl), List.eq_nil_of_length_eq_zero hl]; try (refine ⟨fun s2a => ?_, fun s2a => ?_⟩ <;> (try simp [B_iff, B_not] at s2a) <;> try (refine ⟨fun s2b => ?_, fun s2b => ?_⟩ <;> (try simp [B_iff, B_not] at s2b)))
    | refine AW_region (id := 3) Γ49_ok [] (by kernel_rfl) ?_; simp  [-List.getD_eq_getElem?_getD, -List.drop_one, ↓splitB_true, ↓splitB_false, go_sem]
    | (have hc : s.length + l.length ≤ 8000 := (by omega)); refine AW_region (id := 4) Γ49_ok [] (by kernel_rfl) ?_; simp  [-List.getD_eq_getElem?_getD, -List.drop_one, ↓splitB_true, ↓splitB_false, go_sem, (show s.length + l.length ≤ 1048576 by omega)]; try (refine AW_data hK 6 ?_; simp [go_sem])
    | refine AW_region_draw (id := 5) Γ49_ok mixed [29, 35] [3] (by kernel_rfl) (by kernel_rfl) (by simp [-List.getD_eq_getElem?_getD, -List.drop_one, ↓splitB_true, ↓splitB_false, go_sem, B_no hP]) ?_; simp  [-List.getD_eq_getElem?_getD, -List.drop_one, ↓splitB_true, ↓splitB_false, go_sem, B_no hP]; try (refine ⟨fun s5a => ?_, fun s5a => ?_⟩ <;> (try simp [B_iff, B_not] at s5a) <;> try (refine ⟨fun s5b => ?_, fun s5b => ?_⟩ <;> (try simp [B_iff, B_not] at s5b) <;> try (refine ⟨fun s5c => ?_, fun s5c => ?_⟩ <;> (try simp [B_iff, B_not] at s5c))))
    | refine AW_region_draw (id := 5) Γ49_ok mixed [29, 35] [3] (by kernel_rfl) (by kernel_rfl) (by simp [-List.getD_eq_getElem?_getD, -List.drop_one, ↓splitB_true, ↓splitB_false, go_sem, B_yes hP, impl_facts hP hl hc, hl, ne_nil hl]) ?_; simp  [-List.getD_eq_getElem?_getD, -List.drop_one, ↓splitB_true, ↓splitB_false, go_sem, B_yes hP, impl_facts hP hl hc, hl, ne_nil hl]; try (refine ⟨fun s5a => ?_, fun s5a => ?_⟩ <;> (try simp [B_iff, B_not] at s5a) <;> try (refine ⟨fun s5b => ?_, fun s5b => ?_⟩ <;> (try simp [B_iff, B_not] at s5b) <;> try (refine ⟨fun s5c => ?_, fun s5c => ?_⟩ <;> (try simp [B_iff, B_not] at s5c))))
    | refine AW_condA (c := .tmp 19) ?_; simp [-List.getD_eq_getElem?_getD, -List.drop_one, ↓splitB_true, ↓splitB_false, go_sem]; try first | (refine ⟨?_, ?_⟩ <;> change AW _ _ _ _ _ _) | (refine ⟨fun c19 => ?_, fun c19 => ?_⟩ <;> (try simp [B_iff, B_not] at c19))
    | (refine AW_block ?_)
    | (refine AW_exit ?_; simp [-List.getD_eq_getElem?_getD, -List.drop_one, ↓splitB_true, ↓splitB_false, go_sem])
    | (refine AW_skip ?_; simp [-List.getD_eq_getElem?_getD, -List.drop_one, ↓splitB_true, ↓splitB_false, go_sem])
    | (refine AW_ret ?_; simp [-List.getD_eq_getElem?_getD, -List.drop_one, ↓splitB_true, ↓splitB_false, go_sem, Try.results28])
    | (intro hx; change AW _ _ _ _ _ _)
    | (refine ⟨?_, ?_⟩ <;> change AW _ _ _ _ _ _)
    | (intro hx; refine ⟨fun hs => ?_, fun hs => ?_⟩)
    | (refine ⟨fun hs => ?_, fun hs => ?_⟩)
    | (refine ⟨?_, fun hs => ?_⟩; change AW _ _ _ _ _ _)
    | (refine ⟨fun hs => ?_, ?_⟩; rotate_left; change AW _ _ _ _ _ _; rotate_left)))
  all_goals (first
    | (intro h; obtain ⟨g1, g2, g3, g4, g5⟩ := h; omega)
    | (intro h; exact hP h.1)
    | (intro h; exact s5a h.2.2.2.1)
    | (intro h; obtain ⟨g1, g2, g3, g4, g5⟩ := h; simp_all; done)
    | (rw [Bool.eq_iff_iff, B_iff, B_iff]; exact ⟨fun h => ⟨hP, by omega, by omega, s5a, by rw [last_app hl]; exact h⟩, fun h => by have := h.2.2.2.2; rw [last_app hl] at this; exact this⟩)
    | (rw [Bool.eq_iff_iff, B_iff, B_iff]; exact ⟨fun h => ⟨hP, by omega, by omega, by assumption, by rw [last_app hl]; exact h⟩, fun h => by have := h.2.2.2.2; rw [last_app hl] at this; exact this⟩)
    | skip)
noncomputable def implTraceValid_pureC : Con := .pure fun
  | [.st [.list n_a c_a, .list n_b c_b], .st [.list n_s c_s, .list n_l c_l]] => ((Is cP n_a c_a) ∧ (Is cL n_b c_b) ∧ (Is cI n_s c_s) ∧ (Is cI n_l c_l) ∧ ((de cI c_s).length ≤ 1048576) ∧ ((de cI c_l).length ≤ 1048576), .bool (B (TraceOk (de cP c_a) (de cL c_b) (de cI c_s) (de cI c_l))))
  | _ => (False, .any)
attribute [go_sem] implTraceValid_pureC
theorem implTraceValid_pureC_ok : ConOk Try.prog 28 implTraceValid_pureC := by
  refine ⟨callable Try.func28 (by decide) rfl, fun args h => ?_⟩
  revert h
  dsimp only
  split
  · intro h
    obtain ⟨⟨a, rfl, rfl⟩, ⟨b, rfl, rfl⟩, ⟨s, rfl, rfl⟩, ⟨l, rfl, rfl⟩, h0, h1⟩ := h
    try simp only [de_cat] at *
    exact ⟨implTraceValid_pure a b s l h0 h1, by simp [go_sem]⟩
  · intro h
    exact h.elim
noncomputable def Γ50 : FuncId → Con := ext Γ49 28 implTraceValid_pureC
attribute [go_sem] Γ50
theorem Γ50_ok : ∀ g, ConOk Try.prog g (Γ50 g) := ext_ok Γ49_ok implTraceValid_pureC_ok
end Go.Proofs.Ytljncoikoffijaa.Vm

