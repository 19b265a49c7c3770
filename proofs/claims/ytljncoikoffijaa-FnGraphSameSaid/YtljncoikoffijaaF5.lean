/-
  Paths; partitions: both ways. No conditions.
-/
import Derived.Test.YtljncoikoffijaaF4
namespace Go.Proofs.Ytljncoikoffijaa.Vm
open Go
set_option linter.unusedVariables false
set_option linter.unusedSimpArgs false
set_option maxRecDepth 200000

/-- The step that ends at i. -/
def StepOk (a : List Ints2) (b : List (List Int)) (p : List Int) (i : Nat) : Prop := 0 ≤ nth p i ∧ nth p i < a.length ∧ (0 < i → nth p i ∈ nth b (nth p (i - 1)).toNat)
/-- A path. -/
def PathOk (a : List Ints2) (b : List (List Int)) (p : List Int) : Prop := GraphOk a b ∧ 1 ≤ p.length ∧ ∀ i, i < p.length → StepOk a b p i

theorem path_facts {a : List Ints2} {b : List (List Int)} {p : List Int} {k : Nat} (hG : GraphOk a b) (ht : AllTill (StepOk a b p) k) (hk : k < p.length) :
    b.length = a.length ∧ k - 1 < p.length ∧ (0 < k → 0 ≤ nth p (k - 1)) ∧ (0 < k → nth p (k - 1) < b.length) ∧ (0 < k → (nth p (k - 1)).toNat < b.length) ∧ (0 < k → (0 : Int) ≤ (k : Int) - 1) ∧ (k : Int) - 1 < p.length ∧ (0 < k → 0 < b.length - (nth p (k - 1)).toNat) ∧ ¬ b = [] := by
  obtain ⟨g1, g2, g3, _⟩ := hG
  have q1 : 0 < k → 0 ≤ nth p (k - 1) := fun h => (ht (k - 1) (by omega)).1
  have q2 : 0 < k → nth p (k - 1) < b.length := fun h => by
    have := (ht (k - 1) (by omega)).2.1
    omega
  have q3 : 0 < k → (nth p (k - 1)).toNat < b.length := fun h => by
    have := q1 h
    have := q2 h
    omega
  exact ⟨g3, by omega, q1, q2, q3, fun h => by omega, by omega, fun h => by have := q3 h; omega, by rintro rfl; simp at g3; omega⟩
set_option maxHeartbeats 2000000 in
theorem specPathValid_pure (a : List Ints2) (b : List (List Int)) (p : List Int)  : Pure Try.prog 23 [.st [li cP a, li cL b], li cI p] (.bool (B (PathOk a b p))) := by
  refine Pure.of_walk Try.func23 rfl (by simp [Try.f23]) (by simp [-List.drop_one, go_sem]) fun B hK => ?_
  (repeat' (first
    | refine AW_seq ?_
    | refine AW_region (id := 0) Γ40_ok [] (by kernel_rfl) ?_; simp  [-List.getD_eq_getElem?_getD, -List.drop_one, ↓splitB_true, ↓splitB_false, go_sem]; try (refine AW_data hK 2 ?_; simp [go_sem])
    | refine AW_region (id := 1) Γ40_ok [9] (by kernel_rfl) ?_; simp  [-List.getD_eq_getElem?_getD, -List.drop_one, ↓splitB_true, ↓splitB_false, go_sem]; try (refine ⟨fun s1a => ?_, fun s1a => ?_⟩ <;> (try simp [B_iff, B_not] at s1a) <;> try (refine ⟨fun s1b => ?_, fun s1b => ?_⟩ <;> (try simp [B_iff, B_not] at s1b)))
    | refine AW_region (id := 2) Γ40_ok [] (by kernel_rfl) ?_; simp  [-List.getD_eq_getElem?_getD, -List.drop_one, ↓splitB_true, ↓splitB_false, go_sem]
    | (refine AW_len 1 rfl fun hm => ?_; have hG : GraphOk a b := (by assumption)); refine AW_region (id := 3) Γ40_ok [] (by kernel_rfl) ?_; simp  [-List.getD_eq_getElem?_getD, -List.drop_one, ↓splitB_true, ↓splitB_false, go_sem]
    | refine AW_region (id := 4) Γ40_ok [] (by kernel_rfl) ?_; simp  [-List.getD_eq_getElem?_getD, -List.drop_one, ↓splitB_true, ↓splitB_false, go_sem]
    | (obtain ⟨e1, ck, q1, q2, q3, q4, q5, q6, q7⟩ := path_facts hG ht c17; (replace q1 := q1 h0); (replace q2 := q2 h0); (replace q3 := q3 h0); (replace q4 := q4 h0); (replace q6 := q6 h0)); refine AW_region_draw (id := 6) Γ40_ok mixed [25, 35, 38] [1, 5] (by kernel_rfl) (by kernel_rfl) (by simp [-List.getD_eq_getElem?_getD, -List.drop_one, ↓splitB_true, ↓splitB_false, go_sem, h0, (by omega : (1 : Int) ≤ (k : Int)), c17, ne_nil c17, Nat.sub_pos_of_lt c17, wrap_in (x := (k : Int) - 1) (by omega) (by omega), ck, ne_nil ck, Nat.sub_pos_of_lt ck, q1, q2, q3, q4, q5, q6, q7]) ?_; simp  [-List.getD_eq_getElem?_getD, -List.drop_one, ↓splitB_true, ↓splitB_false, go_sem, h0, (by omega : (1 : Int) ≤ (k : Int)), c17, ne_nil c17, Nat.sub_pos_of_lt c17, wrap_in (x := (k : Int) - 1) (by omega) (by omega), ck, ne_nil ck, Nat.sub_pos_of_lt ck, q1, q2, q3, q4, q5, q6, q7]; try (refine ⟨fun s6a => ?_, fun s6a => ?_⟩ <;> (try simp [B_iff, B_not] at s6a) <;> try (refine ⟨fun s6b => ?_, fun s6b => ?_⟩ <;> (try simp [B_iff, B_not] at s6b) <;> try (refine ⟨fun s6c => ?_, fun s6c => ?_⟩ <;> (try simp [B_iff, B_not] at s6c) <;> try (refine ⟨fun s6d => ?_, fun s6d => ?_⟩ <;> (try simp [B_iff, B_not] at s6d)))))
    | refine AW_region_draw (id := 6) Γ40_ok mixed [25, 35, 38] [1, 5] (by kernel_rfl) (by kernel_rfl) (by simp [-List.getD_eq_getElem?_getD, -List.drop_one, ↓splitB_true, ↓splitB_false, go_sem, h0, (show 0 < p.length by omega), ne_nil c17, Nat.sub_pos_of_lt c17]) ?_; simp  [-List.getD_eq_getElem?_getD, -List.drop_one, ↓splitB_true, ↓splitB_false, go_sem, h0, (show 0 < p.length by omega), ne_nil c17, Nat.sub_pos_of_lt c17]; try (refine ⟨fun s6a => ?_, fun s6a => ?_⟩ <;> (try simp [B_iff, B_not] at s6a) <;> try (refine ⟨fun s6b => ?_, fun s6b => ?_⟩ <;> (try simp [B_iff, B_not] at s6b) <;> try (refine ⟨fun s6c => ?_, fun s6c => ?_⟩ <;> (try simp [B_iff, B_not] at s6c) <;> try (refine ⟨fun s6d => ?_, fun s6d => ?_⟩ <;> (try simp [B_iff, B_not] at s6d)))))
    | refine AW_region (id := 7) Γ40_ok [] (by kernel_rfl) ?_; simp  [-List.getD_eq_getElem?_getD, -List.drop_one, ↓splitB_true, ↓splitB_false, go_sem]
    | refine AW_region (id := 5) Γ40_ok [] (by kernel_rfl) ?_; simp  [-List.getD_eq_getElem?_getD, -List.drop_one, ↓splitB_true, ↓splitB_false, go_sem, wrapS (k := k) (by omega), h0, (by decide : IntKind.i64.wrap 1 = 1)]
    | refine AW_region (id := 8) Γ40_ok [] (by kernel_rfl) ?_; simp  [-List.getD_eq_getElem?_getD, -List.drop_one, ↓splitB_true, ↓splitB_false, go_sem]
    | refine AW_condA (c := .tmp 13) ?_; simp [-List.getD_eq_getElem?_getD, -List.drop_one, ↓splitB_true, ↓splitB_false, go_sem]; try first | (refine ⟨?_, ?_⟩ <;> change AW _ _ _ _ _ _) | (refine ⟨fun c13 => ?_, fun c13 => ?_⟩ <;> (try simp [B_iff, B_not] at c13))
    | refine AW_condA (c := .tmp 17) ?_; simp [-List.getD_eq_getElem?_getD, -List.drop_one, ↓splitB_true, ↓splitB_false, go_sem]; try first | (refine ⟨?_, ?_⟩ <;> change AW _ _ _ _ _ _) | (refine ⟨fun c17 => ?_, fun c17 => ?_⟩ <;> (try simp [B_iff, B_not] at c17))
    | refine AW_condA (c := .tmp 55) ?_; simp [-List.getD_eq_getElem?_getD, -List.drop_one, ↓splitB_true, ↓splitB_false, go_sem]; try first | (refine ⟨?_, ?_⟩ <;> change AW _ _ _ _ _ _) | (refine ⟨fun c55 => ?_, fun c55 => ?_⟩ <;> (try simp [B_iff, B_not] at c55))
    | (refine AW_block (id := 0) (AW_loop (ι := Nat) (fun k : Nat => ⟨(upd (upd (upd (fun _ => .any) 1 (li cI p)) 2 (.pd [li cP a, li cL b])) 5 (.int .i64 k)), fun _ => none⟩) (fun k => k ≤ p.length ∧ AllTill (StepOk a b p) k) (fun k => p.length - k) (0) ?_ ?_ ?_); exact ⟨Nat.zero_le _, .zero _⟩; ((repeat' (first | exact sub_noneH (by assumption) | exact sub_none | refine sub_upd ?_ ?_ | refine sub_noneE ?_)) <;> simp [-List.getD_eq_getElem?_getD, -List.drop_one, ↓splitB_true, ↓splitB_false, go_sem]); rintro k ⟨hk, ht⟩; rcases Nat.eq_zero_or_pos k with h0 | h0)
    | (refine ⟨k + 1, ⟨by omega, ht.succ ⟨by first | omega | simp_all, by first | omega | (rw [h0]; omega), by first | assumption | (intro; omega) | (intro; assumption)⟩⟩, by first | omega | (simp; done) | (simp; omega), ?_⟩; ((repeat' (first | exact sub_noneH (by assumption) | exact sub_none | refine sub_upd ?_ ?_ | refine sub_noneE ?_)) <;> simp [-List.getD_eq_getElem?_getD, -List.drop_one, ↓splitB_true, ↓splitB_false, go_sem, h0]))
    | (refine AW_block ?_)
    | (refine AW_exit ?_; simp [-List.getD_eq_getElem?_getD, -List.drop_one, ↓splitB_true, ↓splitB_false, go_sem])
    | (refine AW_skip ?_; simp [-List.getD_eq_getElem?_getD, -List.drop_one, ↓splitB_true, ↓splitB_false, go_sem])
    | (refine AW_ret ?_; simp [-List.getD_eq_getElem?_getD, -List.drop_one, ↓splitB_true, ↓splitB_false, go_sem, Try.results23])
    | (intro hx; change AW _ _ _ _ _ _)
    | (refine ⟨?_, ?_⟩ <;> change AW _ _ _ _ _ _)
    | (intro hx; refine ⟨fun hs => ?_, fun hs => ?_⟩)
    | (refine ⟨fun hs => ?_, fun hs => ?_⟩)
    | (refine ⟨?_, fun hs => ?_⟩; change AW _ _ _ _ _ _)
    | (refine ⟨fun hs => ?_, ?_⟩; rotate_left; change AW _ _ _ _ _ _; rotate_left)))
  all_goals (first
    | (intro h; exact s1a h.1)
    | (intro h; have := h.2.1; omega)
    | exact ⟨hG, by omega, fun i hi => ht i (by omega)⟩
    | (intro h; obtain ⟨r1, r2, r3⟩ := h.2.2 k c17; omega)
    | (intro h; obtain ⟨r1, r2, r3⟩ := h.2.2 k c17; rw [h0] at r1 r2; omega)
    | (intro h; obtain ⟨r1, r2, r3⟩ := h.2.2 k c17; simp_all; done)
    | skip)
noncomputable def specPathValid_pureC : Con := .pure fun
  | [.st [.list n_a c_a, .list n_b c_b], .list n_p c_p] => ((Is cP n_a c_a) ∧ (Is cL n_b c_b) ∧ (Is cI n_p c_p), .bool (B (PathOk (de cP c_a) (de cL c_b) (de cI c_p))))
  | _ => (False, .any)
attribute [go_sem] specPathValid_pureC
theorem specPathValid_pureC_ok : ConOk Try.prog 23 specPathValid_pureC := by
  refine ⟨callable Try.func23 (by decide) rfl, fun args h => ?_⟩
  revert h
  dsimp only
  split
  · intro h
    obtain ⟨⟨a, rfl, rfl⟩, ⟨b, rfl, rfl⟩, ⟨p, rfl, rfl⟩⟩ := h
    try simp only [de_cat] at *
    exact ⟨specPathValid_pure a b p, by simp [go_sem]⟩
  · intro h
    exact h.elim
noncomputable def Γ41 : FuncId → Con := ext Γ40 23 specPathValid_pureC
attribute [go_sem] Γ41
theorem Γ41_ok : ∀ g, ConOk Try.prog g (Γ41 g) := ext_ok Γ40_ok specPathValid_pureC_ok

set_option maxHeartbeats 2000000 in
theorem implPathValid_pure (a : List Ints2) (b : List (List Int)) (p : List Int)  : Pure Try.prog 22 [.st [li cP a, li cL b], li cI p] (.bool (B (PathOk a b p))) := by
  refine Pure.of_walk Try.func22 rfl (by simp [Try.f22]) (by simp [-List.drop_one, go_sem]) fun B hK => ?_
  (repeat' (first
    | refine AW_seq ?_
    | refine AW_region (id := 0) Γ41_ok [] (by kernel_rfl) ?_; simp  [-List.getD_eq_getElem?_getD, -List.drop_one, ↓splitB_true, ↓splitB_false, go_sem]; try (refine AW_data hK 2 ?_; simp [go_sem])
    | refine AW_region (id := 1) Γ41_ok [10] (by kernel_rfl) ?_; simp  [-List.getD_eq_getElem?_getD, -List.drop_one, ↓splitB_true, ↓splitB_false, go_sem]; try (refine ⟨fun s1a => ?_, fun s1a => ?_⟩ <;> (try simp [B_iff, B_not] at s1a) <;> try (refine ⟨fun s1b => ?_, fun s1b => ?_⟩ <;> (try simp [B_iff, B_not] at s1b)))
    | refine AW_region (id := 2) Γ41_ok [] (by kernel_rfl) ?_; simp  [-List.getD_eq_getElem?_getD, -List.drop_one, ↓splitB_true, ↓splitB_false, go_sem]
    | (refine AW_len 1 rfl fun hm => ?_; have hG : GraphOk a b := (by assumption); have g2 := hG.2.1); refine AW_region (id := 3) Γ41_ok [] (by kernel_rfl) ?_; simp  [-List.getD_eq_getElem?_getD, -List.drop_one, ↓splitB_true, ↓splitB_false, go_sem]
    | refine AW_region (id := 4) Γ41_ok [] (by kernel_rfl) ?_; simp  [-List.getD_eq_getElem?_getD, -List.drop_one, ↓splitB_true, ↓splitB_false, go_sem]
    | refine AW_region (id := 5) Γ41_ok [] (by kernel_rfl) ?_; simp  [-List.getD_eq_getElem?_getD, -List.drop_one, ↓splitB_true, ↓splitB_false, go_sem, c18, ne_nil c18, Nat.sub_pos_of_lt c18]
    | (obtain ⟨e1, ck, q1, q2, q3, q4, q5, q6, q7⟩ := path_facts hG ht c18; (replace q1 := q1 h0); (replace q2 := q2 h0); (replace q3 := q3 h0); (replace q4 := q4 h0); (replace q6 := q6 h0)); refine AW_region_draw (id := 6) Γ41_ok mixed [29, 32] [] (by kernel_rfl) (by kernel_rfl) (by simp [-List.getD_eq_getElem?_getD, -List.drop_one, ↓splitB_true, ↓splitB_false, go_sem, h0, (by omega : (1 : Int) ≤ (k : Int)), c18, ne_nil c18, Nat.sub_pos_of_lt c18, wrap_in (x := (k : Int) - 1) (by omega) (by omega), wrap_in (x := (a.length : Int) - 1) (by omega) (by omega), ck, ne_nil ck, Nat.sub_pos_of_lt ck, q1, q2, q3, q4, q5, q6, q7]) ?_; simp  [-List.getD_eq_getElem?_getD, -List.drop_one, ↓splitB_true, ↓splitB_false, go_sem, h0, (by omega : (1 : Int) ≤ (k : Int)), c18, ne_nil c18, Nat.sub_pos_of_lt c18, wrap_in (x := (k : Int) - 1) (by omega) (by omega), wrap_in (x := (a.length : Int) - 1) (by omega) (by omega), ck, ne_nil ck, Nat.sub_pos_of_lt ck, q1, q2, q3, q4, q5, q6, q7]; try (refine ⟨fun s6a => ?_, fun s6a => ?_⟩ <;> (try simp [B_iff, B_not] at s6a) <;> try (refine ⟨fun s6b => ?_, fun s6b => ?_⟩ <;> (try simp [B_iff, B_not] at s6b) <;> try (refine ⟨fun s6c => ?_, fun s6c => ?_⟩ <;> (try simp [B_iff, B_not] at s6c))))
    | refine AW_region_draw (id := 6) Γ41_ok mixed [29, 32] [] (by kernel_rfl) (by kernel_rfl) (by simp [-List.getD_eq_getElem?_getD, -List.drop_one, ↓splitB_true, ↓splitB_false, go_sem, h0, (show 0 < p.length by omega), ne_nil c18, Nat.sub_pos_of_lt c18, wrap_in (x := (a.length : Int) - 1) (by omega) (by omega)]) ?_; simp  [-List.getD_eq_getElem?_getD, -List.drop_one, ↓splitB_true, ↓splitB_false, go_sem, h0, (show 0 < p.length by omega), ne_nil c18, Nat.sub_pos_of_lt c18, wrap_in (x := (a.length : Int) - 1) (by omega) (by omega)]; try (refine ⟨fun s6a => ?_, fun s6a => ?_⟩ <;> (try simp [B_iff, B_not] at s6a) <;> try (refine ⟨fun s6b => ?_, fun s6b => ?_⟩ <;> (try simp [B_iff, B_not] at s6b) <;> try (refine ⟨fun s6c => ?_, fun s6c => ?_⟩ <;> (try simp [B_iff, B_not] at s6c))))
    | refine AW_region (id := 7) Γ41_ok [] (by kernel_rfl) ?_; simp  [-List.getD_eq_getElem?_getD, -List.drop_one, ↓splitB_true, ↓splitB_false, go_sem]
    | refine AW_region (id := 8) Γ41_ok [] (by kernel_rfl) ?_; simp  [-List.getD_eq_getElem?_getD, -List.drop_one, ↓splitB_true, ↓splitB_false, go_sem, wrapS (k := k) (by omega), h0, (by decide : IntKind.i64.wrap 1 = 1)]
    | refine AW_region (id := 9) Γ41_ok [] (by kernel_rfl) ?_; simp  [-List.getD_eq_getElem?_getD, -List.drop_one, ↓splitB_true, ↓splitB_false, go_sem]
    | refine AW_condA (c := .tmp 14) ?_; simp [-List.getD_eq_getElem?_getD, -List.drop_one, ↓splitB_true, ↓splitB_false, go_sem]; try first | (refine ⟨?_, ?_⟩ <;> change AW _ _ _ _ _ _) | (refine ⟨fun c14 => ?_, fun c14 => ?_⟩ <;> (try simp [B_iff, B_not] at c14))
    | refine AW_condA (c := .tmp 18) ?_; simp [-List.getD_eq_getElem?_getD, -List.drop_one, ↓splitB_true, ↓splitB_false, go_sem]; try first | (refine ⟨?_, ?_⟩ <;> change AW _ _ _ _ _ _) | (refine ⟨fun c18 => ?_, fun c18 => ?_⟩ <;> (try simp [B_iff, B_not] at c18))
    | refine AW_condA (c := .tmp 46) ?_; simp [-List.getD_eq_getElem?_getD, -List.drop_one, ↓splitB_true, ↓splitB_false, go_sem]; try first | (refine ⟨?_, ?_⟩ <;> change AW _ _ _ _ _ _) | (refine ⟨fun c46 => ?_, fun c46 => ?_⟩ <;> (try simp [B_iff, B_not] at c46))
    | (refine AW_block (id := 0) (AW_loop (ι := Nat) (fun k : Nat => ⟨(upd (upd (upd (upd (upd (fun _ => .any) 1 (li cI p)) 2 (.pd [li cP a, li cL b])) 15 (li cI p)) 16 (.int .i64 p.length)) 17 (.int .i64 k)), fun _ => none⟩) (fun k => k ≤ p.length ∧ AllTill (StepOk a b p) k) (fun k => p.length - k) (0) ?_ ?_ ?_); exact ⟨Nat.zero_le _, .zero _⟩; ((repeat' (first | exact sub_noneH (by assumption) | exact sub_none | refine sub_upd ?_ ?_ | refine sub_noneE ?_)) <;> simp [-List.getD_eq_getElem?_getD, -List.drop_one, ↓splitB_true, ↓splitB_false, go_sem]); rintro k ⟨hk, ht⟩; rcases Nat.eq_zero_or_pos k with h0 | h0)
    | (refine ⟨k + 1, ⟨by omega, ht.succ ⟨by first | omega | simp_all, by first | omega | (rw [h0]; omega), by first | assumption | (intro; omega) | (intro; assumption)⟩⟩, by first | omega | (simp; done) | (simp; omega), ?_⟩; ((repeat' (first | exact sub_noneH (by assumption) | exact sub_none | refine sub_upd ?_ ?_ | refine sub_noneE ?_)) <;> simp [-List.getD_eq_getElem?_getD, -List.drop_one, ↓splitB_true, ↓splitB_false, go_sem, h0]))
    | (refine AW_block ?_)
    | (refine AW_exit ?_; simp [-List.getD_eq_getElem?_getD, -List.drop_one, ↓splitB_true, ↓splitB_false, go_sem])
    | (refine AW_skip ?_; simp [-List.getD_eq_getElem?_getD, -List.drop_one, ↓splitB_true, ↓splitB_false, go_sem])
    | (refine AW_ret ?_; simp [-List.getD_eq_getElem?_getD, -List.drop_one, ↓splitB_true, ↓splitB_false, go_sem, Try.results22])
    | (intro hx; change AW _ _ _ _ _ _)
    | (refine ⟨?_, ?_⟩ <;> change AW _ _ _ _ _ _)
    | (intro hx; refine ⟨fun hs => ?_, fun hs => ?_⟩)
    | (refine ⟨fun hs => ?_, fun hs => ?_⟩)
    | (refine ⟨?_, fun hs => ?_⟩; change AW _ _ _ _ _ _)
    | (refine ⟨fun hs => ?_, ?_⟩; rotate_left; change AW _ _ _ _ _ _; rotate_left)))
  all_goals (first
    | (intro h; exact s1a h.1)
    | (intro h; have := h.2.1; simp_all; done)
    | exact ⟨hG, by have := List.length_pos_iff.2 c14; omega, fun i hi => ht i (by omega)⟩
    | (intro h; obtain ⟨r1, r2, r3⟩ := h.2.2 k c18; omega)
    | (intro h; obtain ⟨r1, r2, r3⟩ := h.2.2 k c18; rw [h0] at r1 r2; omega)
    | (intro h; obtain ⟨r1, r2, r3⟩ := h.2.2 k c18; simp_all; done)
    | skip)
noncomputable def implPathValid_pureC : Con := .pure fun
  | [.st [.list n_a c_a, .list n_b c_b], .list n_p c_p] => ((Is cP n_a c_a) ∧ (Is cL n_b c_b) ∧ (Is cI n_p c_p), .bool (B (PathOk (de cP c_a) (de cL c_b) (de cI c_p))))
  | _ => (False, .any)
attribute [go_sem] implPathValid_pureC
theorem implPathValid_pureC_ok : ConOk Try.prog 22 implPathValid_pureC := by
  refine ⟨callable Try.func22 (by decide) rfl, fun args h => ?_⟩
  revert h
  dsimp only
  split
  · intro h
    obtain ⟨⟨a, rfl, rfl⟩, ⟨b, rfl, rfl⟩, ⟨p, rfl, rfl⟩⟩ := h
    try simp only [de_cat] at *
    exact ⟨implPathValid_pure a b p, by simp [go_sem]⟩
  · intro h
    exact h.elim
noncomputable def Γ42 : FuncId → Con := ext Γ41 22 implPathValid_pureC
attribute [go_sem] Γ42
theorem Γ42_ok : ∀ g, ConOk Try.prog g (Γ42 g) := ext_ok Γ41_ok implPathValid_pureC_ok

/-- The least number not used up to k. -/
def most (xs : List Int) : Nat → Int
  | 0 => 0
  | k + 1 => if nth xs k = most xs k then most xs k + 1 else most xs k
theorem most_bd (xs : List Int) : ∀ k, 0 ≤ most xs k ∧ most xs k ≤ k
  | 0 => by simp [most]
  | k + 1 => by have := most_bd xs k; simp only [most]; split <;> omega
/-- Numbers without gaps. -/
def PartOk (xs : List Int) : Prop := ∀ i, i < xs.length → 0 ≤ nth xs i ∧ nth xs i ≤ most xs i

theorem specBlocksValid_pure (a : List Ints2) (b : List (List Int)) (p : List Int)  : Pure Try.prog 106 [.st [li cP a, li cL b], li cI p] (.bool (B (GraphOk a b ∧ PartOk p ∧ p.length = a.length))) := by
  refine Pure.of_walk Try.func106 rfl (by simp [Try.f106]) (by simp [-List.drop_one, go_sem]) fun B hK => ?_
  (repeat' (first
    | refine AW_seq ?_
    | refine AW_region (id := 0) Γ42_ok [] (by kernel_rfl) ?_; simp  [-List.getD_eq_getElem?_getD, -List.drop_one, ↓splitB_true, ↓splitB_false, go_sem]; try (refine AW_data hK 2 ?_; simp [go_sem])
    | refine AW_region (id := 1) Γ42_ok [10] (by kernel_rfl) ?_; simp  [-List.getD_eq_getElem?_getD, -List.drop_one, ↓splitB_true, ↓splitB_false, go_sem]; try (refine ⟨fun s1a => ?_, fun s1a => ?_⟩ <;> (try simp [B_iff, B_not] at s1a) <;> try (refine ⟨fun s1b => ?_, fun s1b => ?_⟩ <;> (try simp [B_iff, B_not] at s1b)))
    | refine AW_region (id := 2) Γ42_ok [] (by kernel_rfl) ?_; simp  [-List.getD_eq_getElem?_getD, -List.drop_one, ↓splitB_true, ↓splitB_false, go_sem]
    | (refine AW_len 1 rfl fun hm => ?_; have hG : GraphOk a b := (by assumption)); refine AW_region (id := 3) Γ42_ok [] (by kernel_rfl) ?_; simp  [-List.getD_eq_getElem?_getD, -List.drop_one, ↓splitB_true, ↓splitB_false, go_sem]
    | refine AW_region (id := 4) Γ42_ok [] (by kernel_rfl) ?_; simp  [-List.getD_eq_getElem?_getD, -List.drop_one, ↓splitB_true, ↓splitB_false, go_sem]
    | refine AW_region (id := 5) Γ42_ok [] (by kernel_rfl) ?_; simp  [-List.getD_eq_getElem?_getD, -List.drop_one, ↓splitB_true, ↓splitB_false, go_sem]
    | refine AW_region (id := 7) Γ42_ok [29] (by kernel_rfl) ?_; simp  [-List.getD_eq_getElem?_getD, -List.drop_one, ↓splitB_true, ↓splitB_false, go_sem, c21, ne_nil c21, Nat.sub_pos_of_lt c21]; try (refine ⟨fun s7a => ?_, fun s7a => ?_⟩ <;> (try simp [B_iff, B_not] at s7a) <;> try (refine ⟨fun s7b => ?_, fun s7b => ?_⟩ <;> (try simp [B_iff, B_not] at s7b)))
    | refine AW_region (id := 8) Γ42_ok [] (by kernel_rfl) ?_; simp  [-List.getD_eq_getElem?_getD, -List.drop_one, ↓splitB_true, ↓splitB_false, go_sem]
    | (have bd := most_bd p k); refine AW_region (id := 9) Γ42_ok [] (by kernel_rfl) ?_; simp  [-List.getD_eq_getElem?_getD, -List.drop_one, ↓splitB_true, ↓splitB_false, go_sem, c21, ne_nil c21, Nat.sub_pos_of_lt c21]
    | refine AW_region (id := 10) Γ42_ok [] (by kernel_rfl) ?_; simp  [-List.getD_eq_getElem?_getD, -List.drop_one, ↓splitB_true, ↓splitB_false, go_sem, wrap_in (x := most p k + 1) (by omega) (by omega)]
    | refine AW_region (id := 6) Γ42_ok [] (by kernel_rfl) ?_; simp  [-List.getD_eq_getElem?_getD, -List.drop_one, ↓splitB_true, ↓splitB_false, go_sem, wrapS (k := k) (by omega)]
    | refine AW_region (id := 11) Γ42_ok [] (by kernel_rfl) ?_; simp  [-List.getD_eq_getElem?_getD, -List.drop_one, ↓splitB_true, ↓splitB_false, go_sem]
    | refine AW_condA (c := .tmp 17) ?_; simp [-List.getD_eq_getElem?_getD, -List.drop_one, ↓splitB_true, ↓splitB_false, go_sem]; try first | (refine ⟨?_, ?_⟩ <;> change AW _ _ _ _ _ _) | (refine ⟨fun c17 => ?_, fun c17 => ?_⟩ <;> (try simp [B_iff, B_not] at c17))
    | refine AW_condA (c := .tmp 21) ?_; simp [-List.getD_eq_getElem?_getD, -List.drop_one, ↓splitB_true, ↓splitB_false, go_sem]; try first | (refine ⟨?_, ?_⟩ <;> change AW _ _ _ _ _ _) | (refine ⟨fun c21 => ?_, fun c21 => ?_⟩ <;> (try simp [B_iff, B_not] at c21))
    | refine AW_condA (c := .tmp 36) ?_; simp [-List.getD_eq_getElem?_getD, -List.drop_one, ↓splitB_true, ↓splitB_false, go_sem]; try first | (refine ⟨?_, ?_⟩ <;> change AW _ _ _ _ _ _) | (refine ⟨fun c36 => ?_, fun c36 => ?_⟩ <;> (try simp [B_iff, B_not] at c36))
    | refine AW_condA (c := .tmp 42) ?_; simp [-List.getD_eq_getElem?_getD, -List.drop_one, ↓splitB_true, ↓splitB_false, go_sem]; try first | (refine ⟨?_, ?_⟩ <;> change AW _ _ _ _ _ _) | (refine ⟨fun c42 => ?_, fun c42 => ?_⟩ <;> (try simp [B_iff, B_not] at c42))
    | (refine AW_block (id := 0) (AW_loop (ι := Nat) (fun k : Nat => ⟨(upd (upd (upd (upd (fun _ => .any) 1 (li cI p)) 2 (.pd [li cP a, li cL b])) 5 (.int .i64 (most p k))) 6 (.int .i64 k)), fun _ => none⟩) (fun k => k ≤ p.length ∧ AllTill (fun i => 0 ≤ nth p i ∧ nth p i ≤ most p i) k) (fun k => p.length - k) (0) ?_ ?_ ?_); exact ⟨Nat.zero_le _, .zero _⟩; ((repeat' (first | exact sub_noneH (by assumption) | exact sub_none | refine sub_upd ?_ ?_ | refine sub_noneE ?_)) <;> simp [-List.getD_eq_getElem?_getD, -List.drop_one, ↓splitB_true, ↓splitB_false, go_sem, most]); rintro k ⟨hk, ht⟩)
    | (refine ⟨k + 1, ⟨by omega, ht.succ ⟨by omega, by omega⟩⟩, by first | omega | (simp; done) | (simp; omega), ?_⟩; ((repeat' (first | exact sub_noneH (by assumption) | exact sub_none | refine sub_upd ?_ ?_ | refine sub_noneE ?_)) <;> simp [-List.getD_eq_getElem?_getD, -List.drop_one, ↓splitB_true, ↓splitB_false, go_sem, most, c42]))
    | (refine AW_block ?_)
    | (refine AW_exit ?_; simp [-List.getD_eq_getElem?_getD, -List.drop_one, ↓splitB_true, ↓splitB_false, go_sem])
    | (refine AW_skip ?_; simp [-List.getD_eq_getElem?_getD, -List.drop_one, ↓splitB_true, ↓splitB_false, go_sem])
    | (refine AW_ret ?_; simp [-List.getD_eq_getElem?_getD, -List.drop_one, ↓splitB_true, ↓splitB_false, go_sem, Try.results106])
    | (intro hx; change AW _ _ _ _ _ _)
    | (refine ⟨?_, ?_⟩ <;> change AW _ _ _ _ _ _)
    | (intro hx; refine ⟨fun hs => ?_, fun hs => ?_⟩)
    | (refine ⟨fun hs => ?_, fun hs => ?_⟩)
    | (refine ⟨?_, fun hs => ?_⟩; change AW _ _ _ _ _ _)
    | (refine ⟨fun hs => ?_, ?_⟩; rotate_left; change AW _ _ _ _ _ _; rotate_left)))
  all_goals (first
    | (intro h; exact absurd h s1a)
    | (intro h; exact absurd h.1 s1a)
    | (rintro ⟨g1, g2, g3⟩; omega)
    | (rintro ⟨g1, g2, g3⟩; have := g2 k c21; omega)
    | (intro g1 g2 g3; omega)
    | (intro g1 g2 g3; have := g2 k c21; omega)
    | (intro g1 g2; have := g2 k c21; omega)
    | exact ⟨hG, fun i hi => ht i (by omega), by omega⟩
    | skip)
noncomputable def specBlocksValid_pureC : Con := .pure fun
  | [.st [.list n_a c_a, .list n_b c_b], .list n_p c_p] => ((Is cP n_a c_a) ∧ (Is cL n_b c_b) ∧ (Is cI n_p c_p), .bool (B (GraphOk (de cP c_a) (de cL c_b) ∧ PartOk (de cI c_p) ∧ (de cI c_p).length = (de cP c_a).length)))
  | _ => (False, .any)
attribute [go_sem] specBlocksValid_pureC
theorem specBlocksValid_pureC_ok : ConOk Try.prog 106 specBlocksValid_pureC := by
  refine ⟨callable Try.func106 (by decide) rfl, fun args h => ?_⟩
  revert h
  dsimp only
  split
  · intro h
    obtain ⟨⟨a, rfl, rfl⟩, ⟨b, rfl, rfl⟩, ⟨p, rfl, rfl⟩⟩ := h
    try simp only [de_cat] at *
    exact ⟨specBlocksValid_pure a b p, by simp [go_sem]⟩
  · intro h
    exact h.elim
noncomputable def Γ43 : FuncId → Con := ext Γ42 106 specBlocksValid_pureC
attribute [go_sem] Γ43
theorem Γ43_ok : ∀ g, ConOk Try.prog g (Γ43 g) := ext_ok Γ42_ok specBlocksValid_pureC_ok

theorem isPartition_pure (p : List Int) (n : Int)  : Pure Try.prog 142 [li cI p, .int .i64 n] (.bool (B (PartOk p ∧ (p.length : Int) = n))) := by
  refine Pure.of_walk Try.func142 rfl (by simp [Try.f142]) (by simp [-List.drop_one, go_sem]) fun B hK => ?_
  (repeat' (first
    | refine AW_seq ?_
    | refine AW_region (id := 0) Γ43_ok [] (by kernel_rfl) ?_; simp  [-List.getD_eq_getElem?_getD, -List.drop_one, ↓splitB_true, ↓splitB_false, go_sem]
    | refine AW_region (id := 1) Γ43_ok [] (by kernel_rfl) ?_; simp  [-List.getD_eq_getElem?_getD, -List.drop_one, ↓splitB_true, ↓splitB_false, go_sem]
    | (refine AW_len 0 rfl fun hm => ?_); refine AW_region (id := 2) Γ43_ok [] (by kernel_rfl) ?_; simp  [-List.getD_eq_getElem?_getD, -List.drop_one, ↓splitB_true, ↓splitB_false, go_sem]
    | refine AW_region (id := 3) Γ43_ok [] (by kernel_rfl) ?_; simp  [-List.getD_eq_getElem?_getD, -List.drop_one, ↓splitB_true, ↓splitB_false, go_sem]
    | refine AW_region (id := 4) Γ43_ok [] (by kernel_rfl) ?_; simp  [-List.getD_eq_getElem?_getD, -List.drop_one, ↓splitB_true, ↓splitB_false, go_sem, c11, ne_nil c11, Nat.sub_pos_of_lt c11]
    | refine AW_region (id := 5) Γ43_ok [] (by kernel_rfl) ?_; simp  [-List.getD_eq_getElem?_getD, -List.drop_one, ↓splitB_true, ↓splitB_false, go_sem]
    | refine AW_region (id := 6) Γ43_ok [] (by kernel_rfl) ?_; simp  [-List.getD_eq_getElem?_getD, -List.drop_one, ↓splitB_true, ↓splitB_false, go_sem]
    | (have bd := most_bd p k); refine AW_region (id := 7) Γ43_ok [] (by kernel_rfl) ?_; simp  [-List.getD_eq_getElem?_getD, -List.drop_one, ↓splitB_true, ↓splitB_false, go_sem]
    | refine AW_region (id := 8) Γ43_ok [] (by kernel_rfl) ?_; simp  [-List.getD_eq_getElem?_getD, -List.drop_one, ↓splitB_true, ↓splitB_false, go_sem, wrap_in (x := most p k + 1) (by omega) (by omega)]
    | refine AW_region (id := 9) Γ43_ok [] (by kernel_rfl) ?_; simp  [-List.getD_eq_getElem?_getD, -List.drop_one, ↓splitB_true, ↓splitB_false, go_sem, wrapS (k := k) (by omega)]
    | refine AW_region (id := 10) Γ43_ok [] (by kernel_rfl) ?_; simp  [-List.getD_eq_getElem?_getD, -List.drop_one, ↓splitB_true, ↓splitB_false, go_sem]
    | refine AW_condA (c := .tmp 11) ?_; simp [-List.getD_eq_getElem?_getD, -List.drop_one, ↓splitB_true, ↓splitB_false, go_sem]; try first | (refine ⟨?_, ?_⟩ <;> change AW _ _ _ _ _ _) | (refine ⟨fun c11 => ?_, fun c11 => ?_⟩ <;> (try simp [B_iff, B_not] at c11))
    | refine AW_condA (c := .tmp 17) ?_; simp [-List.getD_eq_getElem?_getD, -List.drop_one, ↓splitB_true, ↓splitB_false, go_sem]; try first | (refine ⟨?_, ?_⟩ <;> change AW _ _ _ _ _ _) | (refine ⟨fun c17 => ?_, fun c17 => ?_⟩ <;> (try simp [B_iff, B_not] at c17))
    | refine AW_condA (c := .tmp 20) ?_; simp [-List.getD_eq_getElem?_getD, -List.drop_one, ↓splitB_true, ↓splitB_false, go_sem]; try first | (refine ⟨?_, ?_⟩ <;> change AW _ _ _ _ _ _) | (refine ⟨fun c20 => ?_, fun c20 => ?_⟩ <;> (try simp [B_iff, B_not] at c20))
    | (refine AW_block (id := 0) (AW_loop (ι := Nat) (fun k : Nat => ⟨(upd (upd (upd (upd (upd (upd (fun _ => .any) 0 (li cI p)) 1 (.int .i64 n)) 5 (.int .i64 (most p k))) 8 (li cI p)) 9 (.int .i64 p.length)) 10 (.int .i64 k)), fun _ => none⟩) (fun k => k ≤ p.length ∧ AllTill (fun i => 0 ≤ nth p i ∧ nth p i ≤ most p i) k) (fun k => p.length - k) (0) ?_ ?_ ?_); exact ⟨Nat.zero_le _, .zero _⟩; ((repeat' (first | exact sub_noneH (by assumption) | exact sub_none | refine sub_upd ?_ ?_ | refine sub_noneE ?_)) <;> simp [-List.getD_eq_getElem?_getD, -List.drop_one, ↓splitB_true, ↓splitB_false, go_sem, most]); rintro k ⟨hk, ht⟩)
    | (refine ⟨k + 1, ⟨by omega, ht.succ ⟨by omega, by omega⟩⟩, by first | omega | (simp; done) | (simp; omega), ?_⟩; ((repeat' (first | exact sub_noneH (by assumption) | exact sub_none | refine sub_upd ?_ ?_ | refine sub_noneE ?_)) <;> simp [-List.getD_eq_getElem?_getD, -List.drop_one, ↓splitB_true, ↓splitB_false, go_sem, most, c20]))
    | (refine AW_block ?_)
    | (refine AW_exit ?_; simp [-List.getD_eq_getElem?_getD, -List.drop_one, ↓splitB_true, ↓splitB_false, go_sem])
    | (refine AW_skip ?_; simp [-List.getD_eq_getElem?_getD, -List.drop_one, ↓splitB_true, ↓splitB_false, go_sem])
    | (refine AW_ret ?_; simp [-List.getD_eq_getElem?_getD, -List.drop_one, ↓splitB_true, ↓splitB_false, go_sem, Try.results142])
    | (intro hx; change AW _ _ _ _ _ _)
    | (refine ⟨?_, ?_⟩ <;> change AW _ _ _ _ _ _)
    | (intro hx; refine ⟨fun hs => ?_, fun hs => ?_⟩)
    | (refine ⟨fun hs => ?_, fun hs => ?_⟩)
    | (refine ⟨?_, fun hs => ?_⟩; change AW _ _ _ _ _ _)
    | (refine ⟨fun hs => ?_, ?_⟩; rotate_left; change AW _ _ _ _ _ _; rotate_left)))
  all_goals (first
    | (rintro ⟨g2, g3⟩; have := g2 k c11; omega)
    | (intro g2; have := g2 k c11; omega)
    | (rw [Bool.eq_iff_iff, B_iff, decide_eq_true_eq]; exact ⟨fun h => ⟨fun i hi => ht i (by omega), h⟩, fun h => h.2⟩)
    | skip)
noncomputable def isPartition_pureC : Con := .pure fun
  | [.list n_p c_p, .int .i64 n] => ((Is cI n_p c_p), .bool (B (PartOk (de cI c_p) ∧ ((de cI c_p).length : Int) = n)))
  | _ => (False, .any)
attribute [go_sem] isPartition_pureC
theorem isPartition_pureC_ok : ConOk Try.prog 142 isPartition_pureC := by
  refine ⟨callable Try.func142 (by decide) rfl, fun args h => ?_⟩
  revert h
  dsimp only
  split
  · intro h
    obtain ⟨p, rfl, rfl⟩ := h
    try simp only [de_cat] at *
    exact ⟨isPartition_pure p _, by simp [go_sem]⟩
  · intro h
    exact h.elim
noncomputable def Γ44 : FuncId → Con := ext Γ43 142 isPartition_pureC
attribute [go_sem] Γ44
theorem Γ44_ok : ∀ g, ConOk Try.prog g (Γ44 g) := ext_ok Γ43_ok isPartition_pureC_ok

theorem implBlocksValid_pure (a : List Ints2) (b : List (List Int)) (p : List Int)  : Pure Try.prog 109 [.st [li cP a, li cL b], li cI p] (.bool (B (GraphOk a b ∧ PartOk p ∧ p.length = a.length))) := by
  refine Pure.of_walk Try.func109 rfl (by simp [Try.f109]) (by simp [-List.drop_one, go_sem]) fun B hK => ?_
  (repeat' (first
    | refine AW_seq ?_
    | refine AW_region (id := 0) Γ44_ok [] (by kernel_rfl) ?_; simp  [-List.getD_eq_getElem?_getD, -List.drop_one, ↓splitB_true, ↓splitB_false, go_sem]; try (refine AW_data hK 2 ?_; simp [go_sem])
    | refine AW_region (id := 1) Γ44_ok [7] (by kernel_rfl) ?_; simp  [-List.getD_eq_getElem?_getD, -List.drop_one, ↓splitB_true, ↓splitB_false, go_sem]; try (refine ⟨fun s1a => ?_, fun s1a => ?_⟩ <;> (try simp [B_iff, B_not] at s1a) <;> try (refine ⟨fun s1b => ?_, fun s1b => ?_⟩ <;> (try simp [B_iff, B_not] at s1b)))
    | (refine AW_block ?_)
    | (refine AW_exit ?_; simp [-List.getD_eq_getElem?_getD, -List.drop_one, ↓splitB_true, ↓splitB_false, go_sem])
    | (refine AW_skip ?_; simp [-List.getD_eq_getElem?_getD, -List.drop_one, ↓splitB_true, ↓splitB_false, go_sem])
    | (refine AW_ret ?_; simp [-List.getD_eq_getElem?_getD, -List.drop_one, ↓splitB_true, ↓splitB_false, go_sem, Try.results109])
    | (intro hx; change AW _ _ _ _ _ _)
    | (refine ⟨?_, ?_⟩ <;> change AW _ _ _ _ _ _)
    | (intro hx; refine ⟨fun hs => ?_, fun hs => ?_⟩)
    | (refine ⟨fun hs => ?_, fun hs => ?_⟩)
    | (refine ⟨?_, fun hs => ?_⟩; change AW _ _ _ _ _ _)
    | (refine ⟨fun hs => ?_, ?_⟩; rotate_left; change AW _ _ _ _ _ _; rotate_left)))
  all_goals (first
    | (rw [Bool.eq_iff_iff, B_iff, B_iff]; exact ⟨fun h => ⟨s1a, h.1, by have := h.2; omega⟩, fun h => ⟨h.2.1, by have := h.2.2; omega⟩⟩)
    | (intro h; exact absurd h s1a)
    | skip)
noncomputable def implBlocksValid_pureC : Con := .pure fun
  | [.st [.list n_a c_a, .list n_b c_b], .list n_p c_p] => ((Is cP n_a c_a) ∧ (Is cL n_b c_b) ∧ (Is cI n_p c_p), .bool (B (GraphOk (de cP c_a) (de cL c_b) ∧ PartOk (de cI c_p) ∧ (de cI c_p).length = (de cP c_a).length)))
  | _ => (False, .any)
attribute [go_sem] implBlocksValid_pureC
theorem implBlocksValid_pureC_ok : ConOk Try.prog 109 implBlocksValid_pureC := by
  refine ⟨callable Try.func109 (by decide) rfl, fun args h => ?_⟩
  revert h
  dsimp only
  split
  · intro h
    obtain ⟨⟨a, rfl, rfl⟩, ⟨b, rfl, rfl⟩, ⟨p, rfl, rfl⟩⟩ := h
    try simp only [de_cat] at *
    exact ⟨implBlocksValid_pure a b p, by simp [go_sem]⟩
  · intro h
    exact h.elim
noncomputable def Γ45 : FuncId → Con := ext Γ44 109 implBlocksValid_pureC
attribute [go_sem] Γ45
theorem Γ45_ok : ∀ g, ConOk Try.prog g (Γ45 g) := ext_ok Γ44_ok implBlocksValid_pureC_ok
end Go.Proofs.Ytljncoikoffijaa.Vm

