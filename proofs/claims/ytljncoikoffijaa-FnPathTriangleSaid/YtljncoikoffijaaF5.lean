/-
  Paths; partitions: both ways. No conditions.
-/
import Derived.Test.YtljncoikoffijaaF4
namespace Go.Proofs.Ytljncoikoffijaa.Vm
open Go
set_option linter.unusedVariables false
set_option linter.unusedSimpArgs false
set_option maxRecDepth 200000

/-- The step that ends at i. -/
def StepOk (a : List Ints2) (b : List (List Int)) (p : List Int) (i : Nat) : Prop := 0 ≤ nth p i ∧ nth p i < a.length ∧ (0 < i → nth p i ∈ nth b (nth p (i - 1)).toNat)
/-- A path. -/
def PathOk (a : List Ints2) (b : List (List Int)) (p : List Int) : Prop := GraphOk a b ∧ 1 ≤ p.length ∧ ∀ i, i < p.length → StepOk a b p i

theorem path_facts {a : List Ints2} {b : List (List Int)} {p : List Int} {k : Nat} (hG : GraphOk a b) (ht : AllTill (StepOk a b p) k) (hk : k < p.length) :
    b.length = a.length ∧ k - 1 < p.length ∧ (0 < k → 0 ≤ nth p (k - 1)) ∧ (0 < k → nth p (k - 1) < b.length) ∧ (0 < k → (nth p (k - 1)).toNat < b.length) ∧ (0 < k → (0 : Int) ≤ (k : Int) - 1) ∧ (k : Int) - 1 < p.length ∧ (0 < k → 0 < b.length - (nth p (k - 1)).toNat) ∧ ¬ b = [] := by
  obtain ⟨g1, g2, g3, _⟩ := hG
  have q1 : 0 < k → 0 ≤ nth p (k - 1) := fun h => (ht (k - 1) (by omega)).1
  have q2 : 0 < k → nth p (k - 1) < b.length := fun h => by
    have := (ht (k - 1) (by omega)).2.1
    omega
  have q3 : 0 < k → (nth p (k - 1)).toNat < b.length := fun h => by
    have := q1 h
    have := q2 h
    omega
  exact ⟨g3, by omega, q1, q2, q3, fun h => by omega, by omega, fun h => by have := q3 h; omega, by rintro rfl; simp at g3; omega⟩
set_option maxHeartbeats 2000000 in
theorem specPathValid_pure (a : List Ints2) (b : List (List Int)) (p : List Int)  : Pure Try.prog 23 [.st [li cP a, li cL b], li cI p] (.bool (B (PathOk a b p))) := by
  refine Pure.of_walk Try.func23 rfl (by simp [Try.f23]) (by simp [-List.drop_one, go_sem]) fun B hK => ?_
  (repeat' (first
    | refine AW_seq ?_
    | refine AW_region (id := 0) Γ40_ok [] (by kernel_rfl) ?_; simp  [-List.getD_eq_getElem?_getD, -List.drop_one, ↓splitB_true, ↓splitB_false, go_sem]; try (refine AW_data hK 2 ?_; simp [go_sem])
    | refine AW_region (id := 1) Γ40_ok [9] (by kernel_rfl) ?_; simp  [-List.getD_eq_getElem?_getD, -List.drop_one, ↓splitB_true, ↓splitB_false, go_sem]; try (refine ⟨fun s1a => ?_, fun s1a => ?_⟩ <;> (try simp [B_iff, B_not] at s1a) <;> try (refine ⟨fun s1b => ?_, fun s1b => ?_⟩ <;> (try simp [B_iff, B_not] at s1b)))
    | refine AW_region (id := 2) Γ40_ok [] (by kernel_rfl) ?_; simp  [-List.getD_eq_getElem?_getD, -List.drop_one, ↓splitB_true, ↓splitB_false, go_sem]
    | (refine AW_len 1 rfl fun hm => ?_; have hG : GraphOk a b := (by assumption)); refine AW_region (id := 3) Γ40_ok [] (by kernel_rfl) ?_; simp  [-List.getD_eq_getElem?_getD, -List.drop_one, ↓splitB_true, ↓splitB_false, go_sem]
    | refine AW_region (id := 4) Γ40_ok [] (by kernel_rfl) ?_; simp  [-List.getD_eq_getElem?_getD, -List.drop_one, ↓splitB_true, ↓splitB_false, go_sem]
    | (obtain ⟨e1, ck, q1, q2, q3, q4, q5, q6, q7⟩ := path_facts hG ht c17; (replace q1 := q1 h0); (replace q2 := q2 h0); (replace q3 := q3 h0); (replace q4 := q4 h0); (replace q6 := q6 h0)); refine AW_region_draw (id := 6) Γ40_ok mixed [25, 35, 38] [1, 5] (by kernel_rfl) (by kernel_rfl) (by simp [-List.getD_eq_getElem?_getD, -List.drop_one, ↓splitB_true, ↓splitB_false, go_sem, h0, (by omega : (1 : Int) ≤ (k : Int)), c17, ne_nil c17, Nat.sub_pos_of_lt c17, wrap_in (x := (k : Int) - 1) (by omega) (by omega), ck, ne_nil ck, Nat.sub_pos_of_lt ck, q1, q2, q3, q4, q5, q6, q7]) ?_; simp  [-List.getD_eq_getElem?_getD, -List.drop_one, ↓splitB_true, ↓splitB_false, go_sem, h0, (by omega : (1 : Int) ≤ (k : Int)), c17, ne_nil c17, Nat.sub_pos_of_lt c17, wrap_in (x := (k : Int) - 1) (by omega) (by omega), ck, ne_nil ck, Nat.sub_pos_of_lt ck, q1, q2, q3, q4, q5, q6, q7]; try (refine ⟨fun s6a => ?_, fun s6a => ?_⟩ <;> (try simp [B_iff, B_not] at s6a) <;> try (refine ⟨fun s6b => ?_, fun s6b => ?_⟩ <;> (try simp [B_iff, B_not] at s6b) <;> try (refine ⟨fun s6c => ?_, fun s6c => ?_⟩ <;> (try simp [B_iff, B_not] at s6c) <;> try (refine ⟨fun s6d => ?_, fun s6d => ?_⟩ <;> (try simp [B_iff, B_not] at s6d)))))
    | refine AW_region_draw (id := 6) Γ40_ok mixed [25, 35, 38] [1, 5] (by kernel_rfl) (by kernel_rfl) (by simp [-List.getD_eq_getElem?_getD, -List.drop_one, ↓splitB_true, ↓splitB_false, go_sem, h0, (show 0 < p.length by omega), ne_nil c17, Nat.sub_pos_of_lt c17]) ?_; simp  [-List.getD_eq_getElem?_getD, -List.drop_one, ↓splitB_true, ↓splitB_false, go_sem, h0, (show 0 < p.length by omega), ne_nil c17, Nat.sub_pos_of_lt c17]; try (refine ⟨fun s6a => ?_, fun s6a => ?_⟩ <;> (try simp [B_iff, B_not] at s6a) <;> try (refine ⟨fun s6b => ?_, fun s6b => ?_⟩ <;> (try simp [B_iff, B_not] at s6b) <;> try (refine ⟨fun s6c => ?_, fun s6c => ?_⟩ <;> (try simp [B_iff, B_not] at s6c) <;> try (refine ⟨fun s6d => ?_, fun s6d => ?_⟩ <;> (try simp [B_iff, B_not] at s6d)))))
    | refine AW_region (id := 7) Γ40_ok [] (by kernel_rfl) ?_; simp  [-List.getD_eq_getElem?_getD, -List.drop_one, ↓splitB_true, ↓splitB_false, go_sem]
    | refine AW_region (id := 5) Γ40_ok [] (by kernel_rfl) ?_; simp  [-List.getD_eq_getElem?_getD, -List.drop_one, ↓splitB_true, ↓splitB_false, go_sem, wrapS (k := k) (by omega), h0, (by decide : IntKind.i64.wrap 1 = 1)]
    | refine AW_region (id := 8) Γ40_ok [] (by kernel_rfl) ?_; simp  [-List.getD_eq_getElem?_getD, -List.drop_one, ↓splitB_true, ↓splitB_false, go_sem]
    | refine AW_condA (c := .tmp 13) ?_; simp [-List.getD_eq_getElem?_getD, -List.drop_one, ↓splitB_true, ↓splitB_false, go_sem]; try first | (refine ⟨?_, ?_⟩ <;> change AW _ _ _ _ _ _) | (refine ⟨fun c13 => ?_, fun c13 => ?_⟩ <;> (try simp [B_iff, B_not] at c13))
    | refine AW_condA (c := .tmp 17) ?_; simp [-List.getD_eq_getElem?_getD, -List.drop_one, ↓splitB_true, ↓splitB_false, go_sem]; try first | (refine ⟨?_, ?_⟩ <;> change AW _ _ _ _ _ _) | (refine ⟨fun c17 => ?_, fun c17 => ?_⟩ <;> (try simp [B_iff, B_not] at c17))
    | refine AW_condA (c := .tmp 55) ?_; simp [-List.getD_eq_getElem?_getD, -List.drop_one, ↓splitB_true, ↓splitB_false, go_sem]; try first | (refine ⟨?_, ?_⟩ <;> change AW _ _ _ _ _ _) | (refine ⟨fun c55 => ?_, fun c55 => ?_⟩ <;> (try simp [B_iff, B_not] at c55))
    | (refine AW_block (id := 0) (AW_loop (ι := Nat) (fun k : Nat => ⟨(upd (upd (upd (fun _ => .any) 1 (li cI p)) 2 (.pd [li cP a, li cL b])) 5 (.int .i64 k)), fun _ => none⟩) (fun k => k ≤ p.length ∧ AllTill (StepOk a b p) k) (fun k => p.length - k) (0) ?_ ?_ ?_); exact ⟨Nat.zero_le _, .zero _⟩; ((repeat' (first | exact sub_noneH (by assumption) | exact sub_none | refine sub_upd ?_ ?_ | refine sub_noneE ?_)) <;> simp [-List.getD_eq_getElem?_getD, -List.drop_one, ↓splitB_true, ↓splitB_false, go_sem]); rintro k ⟨hk, ht⟩; rcases Nat.eq_zero_or_pos k with h0 | h0)
    | (refine ⟨k + 1, ⟨by omega, ht.succ ⟨by first | omega | simp_all, by first | omega | (rw [h0]; omega), by first | assumption | (intro; omega) | (intro; assumption)⟩⟩, by first | omega | (simp; done) | (simp; omega), ?_⟩; ((repeat' (first | exact sub_noneH (by assumption) | exact sub_none | refine sub_upd ?_ ?_ | refine sub_noneE ?_)) <;> simp [-List.getD_eq_getElem?_getD, -List.drop_one, ↓splitB_true, ↓splitB_false, go_sem, h0]))
    | (refine AW_block ?_)
    | (refine AW_exit ?_; simp [-List.getD_eq_getElem?_getD, -List.drop_one, ↓splitB_true, ↓splitB_false, go_sem])
    | (refine AW_skip ?_; simp [-List.getD_eq_getElem?_getD, -List.drop_one, ↓splitB_true, ↓splitB_false, go_sem])
    | (refine AW_ret ?_; simp [-List.getD_eq_getElem?_getD, -List.drop_one, ↓splitB_true, ↓splitB_false, go_sem, Try.results23])
    | (intro hx; change AW _ _ _ _ _ _)
    | (refine ⟨?_, ?_⟩ <;> change AW _ _ _ _ _ _)
    | (intro hx; refine ⟨fun hs => ?_, fun hs => ?_⟩)
    | (refine ⟨fun hs => ?_, fun hs => ?_⟩)
    | (refine ⟨?_, fun hs => ?_⟩; change AW _ _ _ _ _ _)
    | (refine ⟨fun hs => ?_, ?_⟩; rotate_left; change AW _ _ _ _ _ _; rotate_left)))
  all_goals (first
    | (intro h; exact s1a h.1)
    | (intro h; have := h.2.1; omega)
    | exact ⟨hG, by omega, fun i hi => ht i (by omega)⟩
    | (intro h; obtain ⟨r1, r2, r3⟩ := h.2.2 k c17; omega)
    | (intro h; obtain ⟨r1, r2, r3⟩ := h.2.2 k c17; rw [h0] at r1 r2; omega)
    | (intro h; obtain ⟨r1, r2, r3⟩ := h.2.2 k c17; simp_all; done)
    | skip)
noncomputable def specPathValid_pureC : Con := .pure fun
  | [.st [.list n_a c_a, .list n_b c_b], .list n_p c_p] => ((Is cP n_a c_a) ∧ (Is cL n_b c_b) ∧ (Is cI n_p c_p), .bool (B (PathOk (de cP c_a) (de cL c_b) (de cI c_p))))
  | _ => (False, .any)
attribute [go_sem] specPathValid_pureC
theorem specPathValid_pureC_ok : ConOk Try.prog 23 specPathValid_pureC := by
  refine ⟨callable Try.func23 (by decide) rfl, fun args h => ?_⟩
  revert h
  dsimp only
  split
  · intro h
    obtain ⟨⟨a, rfl, rfl⟩, ⟨b, rfl, rfl⟩, ⟨p, rfl, rfl⟩⟩ := h
    try simp only [de_cat] at *
    exact ⟨specPathValid_pure a b p, by simp [go_sem]⟩
  · intro h
    exact h.elim
noncomputable def Γ41 : FuncId → Con := ext Γ40 23 specPathValid_pureC
attribute [go_sem] Γ41
theorem Γ41_ok : ∀ g, ConOk Try.prog g (Γ41 g) := ext_ok Γ40_ok specPathValid_pureC_ok

set_option maxHeartbeats 2000000 in
theorem implPathValid_pure (a : List Ints2) (b : List (List Int)) (p : List Int)  : Pure Try.prog 22 [.st [li cP a, li cL b], li cI p] (.bool (B (PathOk a b p))) := by
  refine Pure.of_walk Try.func22 rfl (by simp [Try.f22]) (by simp [-List.drop_one, go_sem]) fun B hK => ?_
  (repeat' (first
    | refine AW_seq ?_
    | refine AW_region (id := 0) Γ41_ok [] (by kernel_rfl) ?_; simp  [-List.getD_eq_getElem?_getD, -List.drop_one, ↓splitB_true, ↓splitB_false, go_sem]; try (refine AW_data hK 2 ?_; simp [go_sem])
    | refine AW_region (id := 1) Γ41_ok [10] (by kernel_rfl) ?_; simp  [-List.getD_eq_getElem?_getD, -List.drop_one, ↓splitB_true, ↓splitB_false, go_sem]; try (refine ⟨fun s1a => ?_, fun s1a => ?_⟩ <;> (try simp [B_iff, B_not] at s1a) <;> try (refine ⟨fun s1b => ?_, fun s1b => ?_⟩ <;> (try simp [B_iff, B_not] at s1b)))
    | refine AW_region (id := 2) Γ41_ok [] (by kernel_rfl) ?_; simp  [-List.getD_eq_getElem?_getD, -List.drop_one, ↓splitB_true, ↓splitB_false, go_sem]
    | (refine AW_len 1 rfl fun hm => ?_; have hG : GraphOk a b := (by assumption); have g2 := hG.2.1); refine AW_region (id := 3) Γ41_ok [] (by kernel_rfl) ?_; simp  [-List.getD_eq_getElem?_getD, -List.drop_one, ↓splitB_true, ↓splitB_false, go_sem]
    | refine AW_region (id := 4) Γ41_ok [] (by kernel_rfl) ?_; simp  [-List.getD_eq_getElem?_getD, -List.drop_one, ↓splitB_true, ↓splitB_false, go_sem]
    | refine AW_region (id := 5) Γ41_ok [] (by kernel_rfl) ?_; simp  [-List.getD_eq_getElem?_getD, -List.drop_one, ↓splitB_true, ↓splitB_false, go_sem, c18, ne_nil c18, Nat.sub_pos_of_lt c18]
    | (obtain ⟨e1, ck, q1, q2, q3, q4, q5, q6, q7⟩ := path_facts hG ht c18; (replace q1 := q1 h0); (replace q2 := q2 h0); (replace q3 := q3 h0); (replace q4 := q4 h0); (replace q6 := q6 h0)); refine AW_region_draw (id := 6) Γ41_ok mixed [29, 32] [] (by kernel_rfl) (by kernel_rfl) (by simp [-List.getD_eq_getElem?_getD, -List.drop_one, ↓splitB_true, ↓splitB_false, go_sem, h0, (by omega : (1 : Int) ≤ (k : Int)), c18, ne_nil c18, Nat.sub_pos_of_lt c18, wrap_in (x := (k : Int) - 1) (by omega) (by omega), wrap_in (x := (a.length : Int) - 1) (by omega) (by omega), ck, ne_nil ck, Nat.sub_pos_of_lt ck, q1, q2, q3, q4, q5, q6, q7]) ?_; simp  [-List.getD_eq_getElem?_getD, -List.drop_one, ↓splitB_true, ↓splitB_false, go_sem, h0, (by omega : (1 : Int) ≤ (k : Int)), c18, ne_nil c18, Nat.sub_pos_of_lt c18, wrap_in (x := (k : Int) - 1) (by omega) (by omega), wrap_in (x := (a.length : Int) - 1) (by omega) (by omega), ck, ne_nil ck, Nat.sub_pos_of_lt ck, q1, q2, q3, q4, q5, q6, q7]; try (refine ⟨fun s6a => ?_, fun s6a => ?_⟩ <;> (try simp [B_iff, B_not] at s6a) <;> try (refine ⟨fun s6b => ?_, fun s6b => ?_⟩ <;> (try simp [B_iff, B_not] at s6b) <;> try (refine ⟨fun s6c => ?_, fun s6c => ?_⟩ <;> (try simp [B_iff, B_not] at s6c))))
    | refine AW_region_draw (id := 6) Γ41_ok mixed [29, 32] [] (by kernel_rfl) (by kernel_rfl) (by simp [-List.getD_eq_getElem?_getD, -List.drop_one, ↓splitB_true, ↓splitB_false, go_sem, h0, (show 0 < p.length by omega), ne_nil c18, Nat.sub_pos_of_lt c18, wrap_in (x := (a.length : Int) - 1) (by omega) (by omega)]) ?_; simp  [-List.getD_eq_getElem?_getD, -List.drop_one, ↓splitB_true, ↓splitB_false, go_sem, h0, (show 0 < p.length by omega), ne_nil c18, Nat.sub_pos_of_lt c18, wrap_in (x := (a.length : Int) - 1) (by omega) (by omega)]; try (refine ⟨fun s6a => ?_, fun s6a => ?_⟩ <;> (try simp [B_iff, B_not] at s6a) <;> try (refine ⟨fun s6b => ?_, fun s6b => ?_⟩ <;> (try simp [B_iff, B_not] at s6b) <;> try (refine ⟨fun s6c => ?_, fun s6c => ?_⟩ <;> (try simp [B_iff, B_not] at s6c))))
    | refine AW_region (id := 7) Γ41_ok [] (by kernel_rfl) ?_; simp  [-List.getD_eq_getElem?_getD, -List.drop_one, ↓splitB_true, ↓splitB_false, go_sem]
    | refine AW_region (id := 8) Γ41_ok [] (by kernel_rfl) ?_; simp  [-List.getD_eq_getElem?_getD, -List.drop_one, ↓splitB_true, ↓splitB_false, go_sem, wrapS (k := k) (by omega), h0, (by decide : IntKind.i64.wrap 1 = 1)]
    | refine AW_region (id := 9) Γ41_ok [] (by kernel_rfl) ?_; simp  [-List.getD_eq_getElem?_getD, -List.drop_one, ↓splitB_true, ↓splitB_false, go_sem]
    | refine AW_condA (c := .tmp 14) ?_; simp [-List.getD_eq_getElem?_getD, -List.drop_one, ↓splitB_true, ↓splitB_false, go_sem]; try first | (refine ⟨?_, ?_⟩ <;> change AW _ _ _ _ _ _) | (refine ⟨fun c14 => ?_, fun c14 => ?_⟩ <;> (try simp [B_iff, B_not] at c14))
    | refine AW_condA (c := .tmp 18) ?_; simp [-List.getD_eq_getElem?_getD, -List.drop_one, ↓splitB_true, ↓splitB_false, go_sem]; try first | (refine ⟨?_, ?_⟩ <;> change AW _ _ _ _ _ _) | (refine ⟨fun c18 => ?_, fun c18 => ?_⟩ <;> (try simp [B_iff, B_not] at c18))
    | refine AW_condA (c := .tmp 46) ?_; simp [-List.getD_eq_getElem?_getD, -List.drop_one, ↓splitB_true, ↓splitB_false, go_sem]; try first | (refine ⟨?_, ?_⟩ <;> change AW _ _ _ _ _ _) | (refine ⟨fun c46 => ?_, fun c46 => ?_⟩ <;> (try simp [B_iff, B_not] at c46))
    | (refine AW_block (id := 0) (AW_loop (ι := Nat) (fun k : Nat => ⟨(upd (upd (upd (upd (upd (fun _ => .any) 1 (li cI p)) 2 (.pd [li cP a, li cL b])) 15 (li cI p)) 16 (.int .i64 p.length)) 17 (.int .i64 k)), fun _ => none⟩) (fun k => k ≤ p.length ∧ AllTill (StepOk a b p) k) (fun k => p.length - k) (0) ?_ ?_ ?_); exact ⟨Nat.zero_le _, .zero _⟩; ((repeat' (first | exact sub_noneH (by assumption) | exact sub_none | refine sub_upd ?_ ?_ | refine sub_noneE ?_)) <;> simp [-List.getD_eq_getElem?_getD, -List.drop_one, ↓splitB_true, ↓splitB_false, go_sem]); rintro k ⟨hk, ht⟩; rcases Nat.eq_zero_or_pos k with h0 | h0)
    | (refine ⟨k + 1, ⟨by omega, ht.succ ⟨by first | omega | simp_all, by first | omega | (rw [h0]; omega), by first | assumption | (intro; omega) | (intro; assumption)⟩⟩, by first | omega | (simp; done) | (simp; omega), ?_⟩; ((repeat' (first | exact sub_noneH (by assumption) | exact sub_none | refine sub_upd ?_ ?_ | refine sub_noneE ?_)) <;> simp [-List.getD_eq_getElem?_getD, -List.drop_one, ↓splitB_true, ↓splitB_false, go_sem, h0]))
    | (refine AW_block ?_)
    | (refine AW_exit ?_; simp [-List.getD_eq_getElem?_getD, -List.drop_one, ↓splitB_true, ↓splitB_false, go_sem])
    | (refine AW_skip ?_; simp [-List.getD_eq_getElem?_getD, -List.drop_one, ↓splitB_true, ↓splitB_false, go_sem])
    | (refine AW_ret ?_; simp [-List.getD_eq_getElem?_getD, -List.drop_one, ↓splitB_true, ↓splitB_false, go_sem, Try.results22])
    | (intro hx; change AW _ _ _ _ _ _)
    | (refine ⟨?_, ?_⟩ <;> change AW _ _ _ _ _ _)
    | (intro hx; refine ⟨fun hs => ?_, fun hs => ?_⟩)
    | (refine ⟨fun hs => ?_, fun hs => ?_⟩)
    | (refine ⟨?_, fun hs => ?_⟩; change AW _ _ _ _ _ _)
    | (refine ⟨fun hs => ?_, ?_⟩; rotate_left; change AW _ _ _ _ _ _; rotate_left)))
  all_goals (first
    | (intro h; exact s1a h.1)
    | (intro h; have := h.2.1; simp_all; done)
    | exact ⟨hG, by have := List.length_pos_iff.2 c14; omega, fun i hi => ht i (by omega)⟩
    | (intro h; obtain ⟨r1, r2, r3⟩ := h.2.2 k c18; omega)
    | (intro h; obtain ⟨r1, r2, r3⟩ := h.2.2 k c18; rw [h0] at r1 r2; omega)
    | (intro h; obtain ⟨r1, r2, r3⟩ := h.2.2 k c18; simp_all; done)
    | skip)
noncomputable def implPathValid_pureC : Con := .pure fun
  | [.st [.list n_a c_a, .list n_b c_b], .list n_p c_p] => ((Is cP n_a c_a) ∧ (Is cL n_b c_b) ∧ (Is cI n_p c_p), .bool (B (PathOk (de cP c_a) (de cL c_b) (de cI c_p))))
  | _ => (False, .any)
attribute [go_sem] implPathValid_pureC
theorem implPathValid_pureC_ok : ConOk Try.prog 22 implPathValid_pureC := by
  refine ⟨callable Try.func22 (by decide) rfl, fun args h => ?_⟩
  revert h
  dsimp only
  split
  · intro h
    obtain ⟨⟨a, rfl, rfl⟩, ⟨b, rfl, rfl⟩, ⟨p, rfl, rfl⟩⟩ := h
    try simp only [de_cat] at *
    exact ⟨implPathValid_pure a b p, by simp [go_sem]⟩
  · intro h
    exact h.elim
noncomputable def Γ42 : FuncId → Con := ext Γ41 22 implPathValid_pureC
attribute [go_sem] Γ42
theorem Γ42_ok : ∀ g, ConOk Try.prog g (Γ42 g) := ext_ok Γ41_ok implPathValid_pureC_ok

/-- The least number not used up to k. -/
def most (xs : List Int) : Nat → Int
  | 0 => 0
  | k + 1 => if nth xs k = most xs k then most xs k + 1 else most xs k
theorem most_bd (xs : List Int) : ∀ k, 0 ≤ most xs k ∧ most xs k ≤ k
  | 0 => by simp [most]
  | k + 1 => by have := most_bd xs k; simp only [most]; split <;> omega
/-- Numbers without gaps. -/
def PartOk (xs : List Int) : Prop := ∀ i, i < xs.length → 0 ≤ nth xs i ∧ nth xs i ≤ most xs i

noncomputable def Γ43 : FuncId → Con := Γ42
attribute [go_sem] Γ43
theorem Γ43_ok : ∀ g, ConOk Try.prog g (Γ43 g) := Γ42_ok

noncomputable def Γ44 : FuncId → Con := Γ43
attribute [go_sem] Γ44
theorem Γ44_ok : ∀ g, ConOk Try.prog g (Γ44 g) := Γ43_ok

noncomputable def Γ45 : FuncId → Con := Γ44
attribute [go_sem] Γ45
theorem Γ45_ok : ∀ g, ConOk Try.prog g (Γ45 g) := Γ44_ok
end Go.Proofs.Ytljncoikoffijaa.Vm

