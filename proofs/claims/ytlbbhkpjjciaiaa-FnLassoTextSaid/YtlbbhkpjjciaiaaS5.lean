/-
  The period of a loop. No conditions.
-/
import Derived.Test.YtlbbhkpjjciaiaaS4
namespace Go.Proofs.Ytlbbhkpjjciaiaa.Vm
open Go
set_option linter.unusedVariables false
set_option linter.unusedSimpArgs false
set_option maxRecDepth 200000

/-- The list is its first n numbers again and again. -/
def Per (xs : List Int) (n : Nat) : Prop := xs.length % n = 0 ∧ ∀ i, n ≤ i → i < xs.length → nth xs i = nth xs (i - n)
/-- The least such n. -/
noncomputable def period (xs : List Int) : Nat := ((List.range' 1 (xs.length - 1)).find? fun n => B (Per xs n)).getD xs.length
theorem period_at {xs : List Int} {n : Nat} (h0 : 1 ≤ n) (h1 : n < xs.length) (h2 : Per xs n) (h3 : ∀ m, 1 ≤ m → m < n → ¬ Per xs m) : period xs = n := by
  unfold period
  have : (List.range' 1 (xs.length - 1)).find? (fun n => B (Per xs n)) = some n := by
    rw [List.find?_range'_eq_some]
    exact ⟨B_yes h2, by rw [List.mem_range'_1]; omega, fun m m1 m2 => by have := B_no (h3 m m1 m2); simp [this]⟩
  rw [this]; rfl
theorem period_none {xs : List Int} (h3 : ∀ m, 1 ≤ m → m < xs.length → ¬ Per xs m) : period xs = xs.length := by
  unfold period
  have : (List.range' 1 (xs.length - 1)).find? (fun n => B (Per xs n)) = none := by
    rw [List.find?_eq_none]
    intro m hm
    rw [List.mem_range'_1] at hm
    rw [B_no (h3 m (by omega) (by omega))]
    simp
  rw [this]; rfl
theorem mod_nat (a b : Nat) : ((a : Int) % (b : Int) = 0) ↔ a % b = 0 := by norm_cast
theorem tmod_nat (a b : Nat) : (a : Int).tmod b = ((a % b : Nat) : Int) := by rw [Int.ofNat_tmod]

theorem l6Period_pure (xs : List Int) (hl : xs.length ≤ 80) : Pure Try.prog 69 [li cI xs] (.int .i64 (period xs)) := by
  refine Pure.of_walk Try.func69 rfl (by simp [Try.f69]) (by simp [-List.drop_one, go_sem]) fun B hK => ?_
  (repeat' (first
    | refine AW_seq ?_
    | refine AW_region (id := 0) Γs22_ok [] (by kernel_rfl) ?_; simp  [-List.getD_eq_getElem?_getD, -List.drop_one, ↓splitB_true, ↓splitB_false, go_sem]
    | refine AW_region (id := 1) Γs22_ok [] (by kernel_rfl) ?_; simp  [-List.getD_eq_getElem?_getD, -List.drop_one, ↓splitB_true, ↓splitB_false, go_sem]
    | refine AW_region (id := 2) Γs22_ok [] (by kernel_rfl) ?_; simp  [-List.getD_eq_getElem?_getD, -List.drop_one, ↓splitB_true, ↓splitB_false, go_sem]
    | refine AW_region (id := 4) Γs22_ok [] (by kernel_rfl) ?_; simp  [-List.getD_eq_getElem?_getD, -List.drop_one, ↓splitB_true, ↓splitB_false, go_sem, tmod_nat, (show ¬ n = 0 by omega)]
    | refine AW_region (id := 5) Γs22_ok [] (by kernel_rfl) ?_; simp  [-List.getD_eq_getElem?_getD, -List.drop_one, ↓splitB_true, ↓splitB_false, go_sem]
    | refine AW_region (id := 6) Γs22_ok [22] (by kernel_rfl) ?_; simp  [-List.getD_eq_getElem?_getD, -List.drop_one, ↓splitB_true, ↓splitB_false, go_sem]; try (refine ⟨fun s6a => ?_, fun s6a => ?_⟩ <;> (try simp [B_iff, B_not] at s6a) <;> try (refine ⟨fun s6b => ?_, fun s6b => ?_⟩ <;> (try simp [B_iff, B_not] at s6b)))
    | refine AW_region_draw (id := 8) Γs22_ok mixed [] [0, 5] (by kernel_rfl) (by kernel_rfl) (by simp [-List.getD_eq_getElem?_getD, -List.drop_one, ↓splitB_true, ↓splitB_false, go_sem, s6a, ne_nil s6a, Nat.sub_pos_of_lt s6a, wrap_in (x := (q.1 : Int) - (n : Int)) (by omega) (by omega), (show ((q.1 : Int) - (n : Int)).toNat = q.1 - n by omega), (show q.1 - n < xs.length by omega), (show (n : Int) ≤ q.1 by omega), (show (0 : Int) ≤ (q.1 : Int) - (n : Int) by omega), (show (q.1 : Int) - (n : Int) < xs.length by omega), (show 0 < xs.length - (q.1 - n) by omega), hq]) ?_; simp  [-List.getD_eq_getElem?_getD, -List.drop_one, ↓splitB_true, ↓splitB_false, go_sem, s6a, ne_nil s6a, Nat.sub_pos_of_lt s6a, wrap_in (x := (q.1 : Int) - (n : Int)) (by omega) (by omega), (show ((q.1 : Int) - (n : Int)).toNat = q.1 - n by omega), (show q.1 - n < xs.length by omega), (show (n : Int) ≤ q.1 by omega), (show (0 : Int) ≤ (q.1 : Int) - (n : Int) by omega), (show (q.1 : Int) - (n : Int) < xs.length by omega), (show 0 < xs.length - (q.1 - n) by omega), hq]
    | refine AW_region (id := 7) Γs22_ok [] (by kernel_rfl) ?_; simp  [-List.getD_eq_getElem?_getD, -List.drop_one, ↓splitB_true, ↓splitB_false, go_sem, wrapS (k := q.1) (by omega)]
    | refine AW_region (id := 9) Γs22_ok [] (by kernel_rfl) ?_; simp  [-List.getD_eq_getElem?_getD, -List.drop_one, ↓splitB_true, ↓splitB_false, go_sem]
    | refine AW_region (id := 10) Γs22_ok [] (by kernel_rfl) ?_; simp  [-List.getD_eq_getElem?_getD, -List.drop_one, ↓splitB_true, ↓splitB_false, go_sem]
    | refine AW_region (id := 3) Γs22_ok [] (by kernel_rfl) ?_; simp  [-List.getD_eq_getElem?_getD, -List.drop_one, ↓splitB_true, ↓splitB_false, go_sem, wrapS (k := n) (by omega)]
    | refine AW_region (id := 11) Γs22_ok [] (by kernel_rfl) ?_; simp  [-List.getD_eq_getElem?_getD, -List.drop_one, ↓splitB_true, ↓splitB_false, go_sem]
    | refine AW_condA (c := .tmp 9) ?_; simp [-List.getD_eq_getElem?_getD, -List.drop_one, ↓splitB_true, ↓splitB_false, go_sem]; try first | (refine ⟨?_, ?_⟩ <;> change AW _ _ _ _ _ _) | (refine ⟨fun c9 => ?_, fun c9 => ?_⟩ <;> (try simp [B_iff, B_not] at c9))
    | refine AW_condA (c := .tmp 24) ?_; simp [-List.getD_eq_getElem?_getD, -List.drop_one, ↓splitB_true, ↓splitB_false, go_sem]; try first | (refine ⟨?_, ?_⟩ <;> change AW _ _ _ _ _ _) | (refine ⟨fun c24 => ?_, fun c24 => ?_⟩ <;> (try simp [B_iff, B_not] at c24))
    | refine AW_condA (c := .tmp 38) ?_; simp [-List.getD_eq_getElem?_getD, -List.drop_one, ↓splitB_true, ↓splitB_false, go_sem]; try first | (refine ⟨?_, ?_⟩ <;> change AW _ _ _ _ _ _) | (refine ⟨fun c38 => ?_, fun c38 => ?_⟩ <;> (try simp [B_iff, B_not] at c38))
    | (refine AW_block (id := 0) (AW_loop (ι := Nat) (fun n : Nat => ⟨(upd (upd (fun _ => .any) 0 (li cI xs)) 3 (.int .i64 n)), fun _ => none⟩) (fun n => 1 ≤ n ∧ ∀ m, 1 ≤ m → m < n → ¬ Per xs m) (fun n => xs.length - n) (1) ?_ ?_ ?_); exact ⟨Nat.le_refl _, by omega⟩; ((repeat' (first | exact sub_noneH (by assumption) | exact sub_none | refine sub_upd ?_ ?_ | refine sub_noneE ?_)) <;> simp [-List.getD_eq_getElem?_getD, -List.drop_one, ↓splitB_true, ↓splitB_false, go_sem]); rintro n ⟨hn, ht⟩)
    | (refine ⟨n + 1, ⟨by omega, fun m m1 m2 => by rcases Nat.lt_or_ge m n with h | h; exact ht m m1 h; (obtain rfl : m = n := by omega); exact hz c38⟩, by first | omega | (simp; done) | (simp; omega), ?_⟩; ((repeat' (first | exact sub_noneH (by assumption) | exact sub_none | refine sub_upd ?_ ?_ | refine sub_noneE ?_)) <;> simp [-List.getD_eq_getElem?_getD, -List.drop_one, ↓splitB_true, ↓splitB_false, go_sem]))
    | (refine AW_block (id := 2) (AW_loop (ι := Nat × Bool) (fun q : Nat × Bool => ⟨(upd (upd (upd (upd (fun _ => .any) 0 (li cI xs)) 3 (.int .i64 n)) 4 (.bool q.2)) 5 (.int .i64 q.1)), fun _ => none⟩) (fun q => n ≤ q.1 ∧ q.1 ≤ xs.length ∧ (q.2 = true → xs.length % n = 0 ∧ ∀ i, n ≤ i → i < q.1 → nth xs i = nth xs (i - n)) ∧ (q.2 = false → ¬ Per xs n)) (fun q => xs.length - q.1) ((n, decide ((xs.length : Int) % (n : Int) = 0))) ?_ ?_ ?_); exact ⟨Nat.le_refl _, by dsimp only; omega, fun h => ⟨(mod_nat _ _).1 (by simpa using h), fun i h1 h2 => absurd h2 (by dsimp only; omega)⟩, fun h h2 => absurd ((mod_nat _ _).2 h2.1) (by simpa using h)⟩; ((repeat' (first | exact sub_noneH (by assumption) | exact sub_none | refine sub_upd ?_ ?_ | refine sub_noneE ?_)) <;> simp [-List.getD_eq_getElem?_getD, -List.drop_one, ↓splitB_true, ↓splitB_false, go_sem]); rintro q ⟨hq, hq2, hy, hz⟩)
    | (refine ⟨(q.1 + 1, decide (nth xs q.1 = nth xs (q.1 - n))), ⟨by dsimp only; omega, by dsimp only; omega, fun h => ⟨(hy c24).1, fun i h1 h2 => by dsimp only at h2; rcases Nat.lt_or_ge i q.1 with h3 | h3; exact (hy c24).2 i h1 h3; (obtain rfl : i = q.1 := by omega); simpa using h⟩, fun h hp => absurd (hp.2 q.1 hq s6a) (by simpa using h)⟩, by first | omega | (simp; done) | (simp; omega), ?_⟩; ((repeat' (first | exact sub_noneH (by assumption) | exact sub_none | refine sub_upd ?_ ?_ | refine sub_noneE ?_)) <;> simp [-List.getD_eq_getElem?_getD, -List.drop_one, ↓splitB_true, ↓splitB_false, go_sem]))
    | (refine AW_block ?_)
    | (refine AW_exit ?_; simp [-List.getD_eq_getElem?_getD, -List.drop_one, ↓splitB_true, ↓splitB_false, go_sem])
    | (refine AW_skip ?_; simp [-List.getD_eq_getElem?_getD, -List.drop_one, ↓splitB_true, ↓splitB_false, go_sem])
    | (refine AW_ret ?_; simp [-List.getD_eq_getElem?_getD, -List.drop_one, ↓splitB_true, ↓splitB_false, go_sem, Try.results69])
    | (intro hx; change AW _ _ _ _ _ _)
    | (refine ⟨?_, ?_⟩ <;> change AW _ _ _ _ _ _)
    | (intro hx; refine ⟨fun hs => ?_, fun hs => ?_⟩)
    | (refine ⟨fun hs => ?_, fun hs => ?_⟩)
    | (refine ⟨?_, fun hs => ?_⟩; change AW _ _ _ _ _ _)
    | (refine ⟨fun hs => ?_, ?_⟩; rotate_left; change AW _ _ _ _ _ _; rotate_left)))
  all_goals (first
    | (rw [c24] at c38; cases c38)
    | (rw [period_at hn c9 ⟨(hy c38).1, fun i h1 h2 => (hy c38).2 i h1 (by omega)⟩ ht])
    | (rw [period_none (fun m m1 m2 => ht m m1 (by omega))])
    | skip)
noncomputable def l6Period_pureC : Con := .pure fun
  | [.list n_xs c_xs] => ((Is cI n_xs c_xs) ∧ ((de cI c_xs).length ≤ 80), .int .i64 (period (de cI c_xs)))
  | _ => (False, .any)
attribute [go_sem] l6Period_pureC
theorem l6Period_pureC_ok : ConOk Try.prog 69 l6Period_pureC := by
  refine ⟨callable Try.func69 (by decide) rfl, fun args h => ?_⟩
  revert h
  dsimp only
  split
  · intro h
    obtain ⟨⟨xs, rfl, rfl⟩, hl⟩ := h
    try simp only [de_cat] at *
    exact ⟨l6Period_pure xs hl, by simp [go_sem]⟩
  · intro h
    exact h.elim
noncomputable def Γs23 : FuncId → Con := ext Γs22 69 l6Period_pureC
attribute [go_sem] Γs23
theorem Γs23_ok : ∀ g, ConOk Try.prog g (Γs23 g) := ext_ok Γs22_ok l6Period_pureC_ok
end Go.Proofs.Ytlbbhkpjjciaiaa.Vm

