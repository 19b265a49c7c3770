/-
  Lassos reduced. No conditions.
-/
import Derived.Test.YtlbbhkpjjciaiaaS7
namespace Go.Proofs.Ytlbbhkpjjciaiaa.Vm
open Go
set_option linter.unusedVariables false
set_option linter.unusedSimpArgs false
set_option maxRecDepth 200000

theorem period_le {xs : List Int} (h : 1 ≤ xs.length) : 1 ≤ period xs ∧ period xs ≤ xs.length ∧ Per xs (period xs) ∧ ∀ m, 1 ≤ m → m < period xs → ¬ Per xs m := by
  have h0 : ∃ n, 1 ≤ n ∧ Per xs n := ⟨xs.length, h, Nat.mod_self _, fun i h1 h2 => by omega⟩
  have key : ∀ k, (∀ m, 1 ≤ m → m < k → ¬ Per xs m) ∨ ∃ n, 1 ≤ n ∧ n < k ∧ Per xs n ∧ ∀ m, 1 ≤ m → m < n → ¬ Per xs m := by
    intro k
    induction k with
    | zero => left; intro m _ h; omega
    | succ k ih =>
      rcases ih with h1 | ⟨n, n1, n2, n3, n4⟩
      · by_cases hk : 1 ≤ k ∧ Per xs k
        · exact .inr ⟨k, hk.1, by omega, hk.2, h1⟩
        · left; intro m m1 m2 m3
          rcases Nat.lt_or_ge m k with h2 | h2
          · exact h1 m m1 h2 m3
          · obtain rfl : m = k := by omega
            exact hk ⟨m1, m3⟩
      · exact .inr ⟨n, n1, by omega, n3, n4⟩
  rcases key xs.length with h1 | ⟨n, n1, n2, n3, n4⟩
  · rw [period_none h1]; exact ⟨h, Nat.le_refl _, ⟨Nat.mod_self _, fun i h1 h2 => by omega⟩, h1⟩
  · rw [period_at n1 n2 n3 n4]; exact ⟨n1, by omega, n3, n4⟩
/-- The last letter goes to the front. -/
def rotR (l : List Int) : List Int := nth l (l.length - 1) :: l.take (l.length - 1)
theorem rotR_len {l : List Int} (h : 0 < l.length) : (rotR l).length = l.length := by simp [rotR]; omega
theorem rotR_eq {l : List Int} (h : 0 < l.length) : l.drop (l.length - 1) ++ l.take (l.length - 1) = rotR l := by
  rw [rotR, List.drop_eq_getElem_cons (by omega), ← nth_lt (by omega), List.drop_eq_nil_of_le (by omega)]; rfl
def lp (l : List Int) : Nat → List Int
  | 0 => l
  | t + 1 => rotR (lp l t)
theorem lp_len {l : List Int} (h : 0 < l.length) : ∀ t, (lp l t).length = l.length
  | 0 => rfl
  | t + 1 => by rw [lp, rotR_len (by rw [lp_len h t]; exact h), lp_len h t]
/-- The stem's last letter is the loop's last. -/
def More (s l : List Int) (t : Nat) : Prop := t < s.length ∧ nth s (s.length - t - 1) = nth (lp l t) (l.length - 1)
/-- How many letters go from the stem into the loop. -/
noncomputable def back (s l : List Int) : Nat := ((List.range s.length).find? fun t => !B (More s l t)).getD s.length
theorem back_at {s l : List Int} {t : Nat} (h0 : t ≤ s.length) (h1 : ∀ u, u < t → More s l u) (h2 : ¬ More s l t) : back s l = t := by
  unfold back
  rcases Nat.lt_or_ge t s.length with h | h
  · have : (List.range s.length).find? (fun t => !B (More s l t)) = some t := by
      rw [List.find?_range_eq_some]
      exact ⟨by rw [B_no h2]; rfl, by simpa using h, fun j hj => by rw [B_yes (h1 j hj)]; rfl⟩
    rw [this]; rfl
  · obtain rfl : t = s.length := by omega
    have : (List.range s.length).find? (fun t => !B (More s l t)) = none := by
      rw [List.find?_eq_none]
      intro x hx
      rw [B_yes (h1 x (by simpa using hx))]; simp
    rw [this]; rfl
theorem back_le (s l : List Int) : back s l ≤ s.length ∧ (∀ u, u < back s l → More s l u) ∧ ¬ More s l (back s l) := by
  have h0 : ¬ More s l s.length := fun h => by have := h.1; omega
  have key : ∀ k, (∀ u, u < k → More s l u) ∨ ∃ n, n < k ∧ ¬ More s l n ∧ ∀ u, u < n → More s l u := by
    intro k
    induction k with
    | zero => left; intro m h; omega
    | succ k ih =>
      rcases ih with h1 | ⟨n, n2, n3, n4⟩
      · by_cases hk : More s l k
        · left; intro m m2
          rcases Nat.lt_or_ge m k with h2 | h2
          · exact h1 m h2
          · obtain rfl : m = k := by omega
            exact hk
        · exact .inr ⟨k, by omega, hk, h1⟩
      · exact .inr ⟨n, by omega, n3, n4⟩
  rcases key s.length with h1 | ⟨n, n2, n3, n4⟩
  · rw [back_at (Nat.le_refl _) h1 h0]; exact ⟨Nat.le_refl _, h1, h0⟩
  · rw [back_at (by omega) n4 n3]; exact ⟨by omega, n4, n3⟩
noncomputable def redS (a b : List Int) : List Int := a.take (a.length - back a (b.take (period b)))
noncomputable def redL (a b : List Int) : List Int := lp (b.take (period b)) (back a (b.take (period b)))
theorem ld_app {xs : List Int} {i : Nat} (h : i < xs.length) (ys : List D) : (cat cI xs ++ ys).getD i .any = .int .i64 (nth xs i) := by
  rw [List.getD_eq_getElem?_getD, List.getElem?_append_left (by rw [cat_length]; omega), ← List.getD_eq_getElem?_getD, cat_get1 h]; rfl
theorem rot_app {l : List Int} (ys : List D) : D.int .i64 (nth l (l.length - 1)) :: ((cat cI l ++ ys).take (l.length - 1)) = cat cI (rotR l) := by
  rw [List.take_append_of_le_length (by rw [cat_length]; omega), cat_take1]; rfl
theorem tk_app {xs : List Int} {n : Nat} (h : n ≤ xs.length) (ys : List D) : (cat cI xs ++ ys).take n = cat cI (xs.take n) := by
  rw [List.take_append_of_le_length (by rw [cat_length]; omega), cat_take1]
@[go_sem] theorem makeD_1 (x : D) : makeD [x] 1 = [x] := by rw [makeD_one]; rfl

set_option maxHeartbeats 2000000 in
theorem specReduce_pure (a : List Int) (b : List Int)  : Pure Try.prog 40 [.st [li cI a, li cI b]] (if B (LasOk a b) = true then .tup [.st [fr 1 cI (redS a b), fr 1 cI (redL a b)], .bool true] else .tup [.st [.nil, .nil], .bool false]) := by
  refine Pure.of_walk Try.func40 rfl (by simp [Try.f40]) (by simp [-List.drop_one, go_sem]) fun B hK => ?_
  obtain ⟨cc, hcc⟩ : ∃ cc, b.take (period b) = cc := ⟨_, rfl⟩
  all_goals (repeat' (first
    | refine AW_seq ?_
    | refine AW_region (id := 0) Γs26_ok [] (by kernel_rfl) ?_; simp  [-List.getD_eq_getElem?_getD, -List.drop_one, ↓splitB_true, ↓splitB_false, go_sem]; try (refine AW_data hK 1 ?_; simp [go_sem])
    | refine AW_region (id := 1) Γs26_ok [] (by kernel_rfl) ?_; simp  [-List.getD_eq_getElem?_getD, -List.drop_one, ↓splitB_true, ↓splitB_false, go_sem]
    | refine AW_region (id := 2) Γs26_ok [] (by kernel_rfl) ?_; simp  [-List.getD_eq_getElem?_getD, -List.drop_one, ↓splitB_true, ↓splitB_false, go_sem]
    | (have hL : LasOk a b := (by assumption); obtain ⟨_, _, g3, g4, g5⟩ := hL; obtain ⟨p1, p2, _⟩ := period_le g4; have hcl : cc.length = period b := (by rw [← hcc]; simp; omega)); refine AW_region_draw (id := 3) Γs26_ok mixed [] [1] (by kernel_rfl) (by kernel_rfl) (by simp [-List.getD_eq_getElem?_getD, -List.drop_one, ↓splitB_true, ↓splitB_false, go_sem, g3, g4, g5, hcl.symm, (show b.take cc.length = cc by rw [hcl, hcc]), (show min cc.length b.length = cc.length by omega), (show cc.length ≤ 9223372036854775807 by omega), (show 2 * cc.length * 8 ≤ 281474976710656 by omega), (show (cc.length : Int) ≤ b.length by omega), (show cc.length ≤ b.length by omega)]) ?_; simp  [-List.getD_eq_getElem?_getD, -List.drop_one, ↓splitB_true, ↓splitB_false, go_sem, g3, g4, g5, hcl.symm, (show b.take cc.length = cc by rw [hcl, hcc]), (show min cc.length b.length = cc.length by omega), (show cc.length ≤ 9223372036854775807 by omega), (show 2 * cc.length * 8 ≤ 281474976710656 by omega), (show (cc.length : Int) ≤ b.length by omega), (show cc.length ≤ b.length by omega)]
    | refine AW_region (id := 4) Γs26_ok [] (by kernel_rfl) ?_; simp  [-List.getD_eq_getElem?_getD, -List.drop_one, ↓splitB_true, ↓splitB_false, go_sem, (show a.length ≤ 9223372036854775807 by omega), (show 2 * a.length * 8 ≤ 281474976710656 by omega)]; try ((refine AW_mat 5 rfl fun s c1 j1 hs0 hc1 hj1 => ?_); clear hs0)
    | refine AW_region_draw (id := 5) Γs26_ok mixed [25] [5, 4] (by kernel_rfl) (by kernel_rfl) (by simp [-List.getD_eq_getElem?_getD, -List.drop_one, ↓splitB_true, ↓splitB_false, go_sem, hs, hsl, hlt, (show ¬ a.length - q.1 = 0 by omega), (show 0 < a.length - q.1 by omega), wrap_in (x := ((a.length - q.1 : Nat) : Int) - 1) (by omega) (by omega), wrap_in (x := (cc.length : Int) - 1) (by omega) (by omega), (show (((a.length - q.1 : Nat) : Int) - 1).toNat = a.length - q.1 - 1 by omega), (show ((cc.length : Int) - 1).toNat = cc.length - 1 by omega), ld_app (xs := a) (i := a.length - q.1 - 1) (by omega), ld_app (xs := lp cc q.1) (i := cc.length - 1) (by rw [lp_len (by omega)]; omega), lp_len (l := cc) (by omega) q.1, (show a.length - q.1 - 1 < a.length + j1 by omega), (show cc.length - 1 < cc.length + j2 by omega), (show (1 : Int) ≤ ((a.length - q.1 : Nat) : Int) by omega), (show 1 ≤ cc.length by omega), (show 1 ≤ a.length - q.1 by omega), (show (0 : Int) ≤ ((a.length - q.1 : Nat) : Int) - 1 by omega), (show (0 : Int) ≤ (cc.length : Int) - 1 by omega), (show ((a.length - q.1 : Nat) : Int) - 1 < ((a.length - q.1 : Nat) : Int) by omega), (show (cc.length : Int) - 1 < cc.length by omega), (show (1 : Int) ≤ cc.length by omega)]) ?_; simp  [-List.getD_eq_getElem?_getD, -List.drop_one, ↓splitB_true, ↓splitB_false, go_sem, hs, hsl, hlt, (show ¬ a.length - q.1 = 0 by omega), (show 0 < a.length - q.1 by omega), wrap_in (x := ((a.length - q.1 : Nat) : Int) - 1) (by omega) (by omega), wrap_in (x := (cc.length : Int) - 1) (by omega) (by omega), (show (((a.length - q.1 : Nat) : Int) - 1).toNat = a.length - q.1 - 1 by omega), (show ((cc.length : Int) - 1).toNat = cc.length - 1 by omega), ld_app (xs := a) (i := a.length - q.1 - 1) (by omega), ld_app (xs := lp cc q.1) (i := cc.length - 1) (by rw [lp_len (by omega)]; omega), lp_len (l := cc) (by omega) q.1, (show a.length - q.1 - 1 < a.length + j1 by omega), (show cc.length - 1 < cc.length + j2 by omega), (show (1 : Int) ≤ ((a.length - q.1 : Nat) : Int) by omega), (show 1 ≤ cc.length by omega), (show 1 ≤ a.length - q.1 by omega), (show (0 : Int) ≤ ((a.length - q.1 : Nat) : Int) - 1 by omega), (show (0 : Int) ≤ (cc.length : Int) - 1 by omega), (show ((a.length - q.1 : Nat) : Int) - 1 < ((a.length - q.1 : Nat) : Int) by omega), (show (cc.length : Int) - 1 < cc.length by omega), (show (1 : Int) ≤ cc.length by omega)]; try (refine ⟨fun s5a => ?_, fun s5a => ?_⟩ <;> (try simp [B_iff, B_not] at s5a) <;> try (refine ⟨fun s5b => ?_, fun s5b => ?_⟩ <;> (try simp [B_iff, B_not] at s5b)))
    | refine AW_region_draw (id := 5) Γs26_ok mixed [25] [5, 4] (by kernel_rfl) (by kernel_rfl) (by simp [-List.getD_eq_getElem?_getD, -List.drop_one, ↓splitB_true, ↓splitB_false, go_sem, (show a.length - q.1 = 0 by omega)]) ?_; simp  [-List.getD_eq_getElem?_getD, -List.drop_one, ↓splitB_true, ↓splitB_false, go_sem, (show a.length - q.1 = 0 by omega)]; try (refine ⟨fun s5a => ?_, fun s5a => ?_⟩ <;> (try simp [B_iff, B_not] at s5a) <;> try (refine ⟨fun s5b => ?_, fun s5b => ?_⟩ <;> (try simp [B_iff, B_not] at s5b)))
    | refine AW_region (id := 6) Γs26_ok [] (by kernel_rfl) ?_; simp  [-List.getD_eq_getElem?_getD, -List.drop_one, ↓splitB_true, ↓splitB_false, go_sem, hs, (show ((a.length - q.1 : Nat) : Int) - 1 ≤ ((a.length - q.1 : Nat) : Int) by omega), (show a.length - q.1 - 1 ≤ a.length - q.1 by omega), wrap_in (x := ((a.length - q.1 : Nat) : Int) - 1) (by omega) (by omega), (show (((a.length - q.1 : Nat) : Int) - 1).toNat = a.length - q.1 - 1 by omega), (show (1 : Int) ≤ ((a.length - q.1 : Nat) : Int) by omega), (show (0 : Int) ≤ ((a.length - q.1 : Nat) : Int) - 1 by omega), (show ((a.length - q.1 : Nat) : Int) - 1 ≤ c1 by omega), (show a.length - q.1 - 1 ≤ c1 by omega)]
    | (have hcut : (cat cI (lp cc q.1) ++ List.replicate j2 D.any).take (cc.length - 1) = cat cI ((lp cc q.1).take (cc.length - 1)) := (by rw [List.take_append_of_le_length (by rw [cat_length, lp_len (by omega)]; omega), cat_take1]); have hrot : D.int .i64 (nth (lp cc q.1) (cc.length - 1)) :: cat cI ((lp cc q.1).take (cc.length - 1)) = cat cI (lp cc (q.1 + 1)) := (by rw [lp, rotR, lp_len (by omega)]; rfl)); refine AW_region_draw (id := 7) Γs26_ok mixed [] [4] (by kernel_rfl) (by kernel_rfl) (by simp [-List.getD_eq_getElem?_getD, -List.drop_one, ↓splitB_true, ↓splitB_false, go_sem, (show (cc.length : Int) - 1 ≤ cc.length by omega), hcut, hrot, (show min (cc.length - 1) cc.length = cc.length - 1 by omega), (show cc.length - 1 ≤ cc.length by omega), wrap_in (x := (cc.length : Int) - 1) (by omega) (by omega), (show ((cc.length : Int) - 1).toNat = cc.length - 1 by omega), ld_app (xs := lp cc q.1) (i := cc.length - 1) (by rw [lp_len (by omega)]; omega), lp_len (l := cc) (by omega) q.1, (show cc.length - 1 < cc.length + j2 by omega), (show 1 ≤ cc.length by omega), (show (0 : Int) ≤ (cc.length : Int) - 1 by omega), (show (cc.length : Int) - 1 < cc.length by omega), (show (1 : Int) ≤ cc.length by omega), (show (cc.length : Int) - 1 ≤ c2 by omega), (show cc.length - 1 ≤ c2 by omega), (show 1 + (cc.length - 1) = cc.length by omega), (show cc.length - 1 + 1 = cc.length by omega), (show cc.length ≤ 9223372036854775807 by omega), (show 2 * cc.length * 8 ≤ 281474976710656 by omega)]) ?_; simp  [-List.getD_eq_getElem?_getD, -List.drop_one, ↓splitB_true, ↓splitB_false, go_sem, (show (cc.length : Int) - 1 ≤ cc.length by omega), hcut, hrot, (show min (cc.length - 1) cc.length = cc.length - 1 by omega), (show cc.length - 1 ≤ cc.length by omega), wrap_in (x := (cc.length : Int) - 1) (by omega) (by omega), (show ((cc.length : Int) - 1).toNat = cc.length - 1 by omega), ld_app (xs := lp cc q.1) (i := cc.length - 1) (by rw [lp_len (by omega)]; omega), lp_len (l := cc) (by omega) q.1, (show cc.length - 1 < cc.length + j2 by omega), (show 1 ≤ cc.length by omega), (show (0 : Int) ≤ (cc.length : Int) - 1 by omega), (show (cc.length : Int) - 1 < cc.length by omega), (show (1 : Int) ≤ cc.length by omega), (show (cc.length : Int) - 1 ≤ c2 by omega), (show cc.length - 1 ≤ c2 by omega), (show 1 + (cc.length - 1) = cc.length by omega), (show cc.length - 1 + 1 = cc.length by omega), (show cc.length ≤ 9223372036854775807 by omega), (show 2 * cc.length * 8 ≤ 281474976710656 by omega)]
    | ((try (refine AW_unmat 4 (b := l) (all := cat cI (lp cc q.1) ++ List.replicate j2 .any) rfl (by dsimp only; rw [upd_eq]) (by omega) (by simp [cat_length, lp_len (l := cc) (by omega)] <;> omega) (by simp [cat_length, lp_len (l := cc) (by omega)] <;> omega) ?_)); (refine AW_unmat 5 (b := s) (all := cat cI a ++ List.replicate j1 .any) rfl (by first | exact hs | (dsimp only; rw [upd_ne hsl, upd_ne hsl]; exact hs)) (by omega) (by simp [cat_length] <;> omega) (by simp [cat_length] <;> omega) ?_)); refine AW_region (id := 8) Γs26_ok [] (by kernel_rfl) ?_; simp  [-List.getD_eq_getElem?_getD, -List.drop_one, ↓splitB_true, ↓splitB_false, go_sem, tk_app, lp_len (l := cc) (by omega) q.1, (show (lp cc q.1).take cc.length = lp cc q.1 from List.take_of_length_le (by rw [lp_len (by omega)]; omega)), Nat.sub_le]
    | refine AW_condA (c := .tmp 8) ?_; simp [-List.getD_eq_getElem?_getD, -List.drop_one, ↓splitB_true, ↓splitB_false, go_sem]; try first | (refine ⟨?_, ?_⟩ <;> change AW _ _ _ _ _ _) | (refine ⟨fun c8 => ?_, fun c8 => ?_⟩ <;> (try simp [B_iff, B_not] at c8))
    | refine AW_condA (c := .tmp 39) ?_; simp [-List.getD_eq_getElem?_getD, -List.drop_one, ↓splitB_true, ↓splitB_false, go_sem]; try first | (refine ⟨?_, ?_⟩ <;> change AW _ _ _ _ _ _) | (refine ⟨fun c39 => ?_, fun c39 => ?_⟩ <;> (try simp [B_iff, B_not] at c39))
    | (refine AW_block (id := 0) (AW_loop (ι := Nat × Hp) (fun q : Nat × Hp => ⟨(upd (upd (upd (upd (fun _ => .any) 2 (.box [.nil, .nil])) 3 (.bool false)) 4 (.fr 1 cc.length (cat cI (lp cc q.1)))) 5 (.sl s 1 0 (a.length - q.1) c1)), q.2⟩) (fun q => (q.1 < a.length ∨ q.1 = a.length) ∧ (∀ u, u < q.1 → More a cc u) ∧ q.2 s = some (cat cI a ++ List.replicate j1 .any)) (fun q => a.length - q.1) ((0, upd (fun _ => none) s (some (cat cI a ++ List.replicate j1 .any)))) ?_ ?_ ?_); exact ⟨by dsimp only; omega, fun u h => by dsimp only at h; omega, by dsimp only; rw [upd_eq]⟩; ((repeat' (first | exact sub_noneH (by assumption) | exact sub_none | refine sub_upd ?_ ?_ | refine sub_noneE ?_)) <;> simp [-List.getD_eq_getElem?_getD, -List.drop_one, ↓splitB_true, ↓splitB_false, go_sem, lp]); rintro q ⟨hlt | hlt, hm, hs⟩ <;> ((refine AW_mat 4 rfl fun l c2 j2 hl0 hc2 hj2 => ?_); have hsl : ¬ s = l := (by rintro rfl; dsimp only at hl0; rw [hs] at hl0; cases hl0); clear hl0))
    | (refine ⟨(q.1 + 1, upd q.2 l (some (cat cI (lp cc q.1) ++ List.replicate j2 .any))), ⟨by dsimp only; omega, fun u hu => by rcases Nat.lt_or_ge u q.1 with h | h; exact hm u h; (obtain rfl : u = q.1 := by dsimp only at hu; omega); exact ⟨hlt, c39⟩, by dsimp only; rw [upd_ne hsl, hs]⟩, by first | omega | (simp; done) | (simp; omega), ?_⟩; ((repeat' (first | exact sub_noneH (by assumption) | exact sub_none | refine sub_upd ?_ ?_ | refine sub_noneE ?_)) <;> simp [-List.getD_eq_getElem?_getD, -List.drop_one, ↓splitB_true, ↓splitB_false, go_sem, (show a.length - (q.1 + 1) = a.length - q.1 - 1 by omega)]))
    | (refine AW_block ?_)
    | (refine AW_exit ?_; simp [-List.getD_eq_getElem?_getD, -List.drop_one, ↓splitB_true, ↓splitB_false, go_sem])
    | (refine AW_skip ?_; simp [-List.getD_eq_getElem?_getD, -List.drop_one, ↓splitB_true, ↓splitB_false, go_sem])
    | (refine AW_ret ?_; simp [-List.getD_eq_getElem?_getD, -List.drop_one, ↓splitB_true, ↓splitB_false, go_sem, Try.results40])
    | (intro hx; change AW _ _ _ _ _ _)
    | (refine ⟨?_, ?_⟩ <;> change AW _ _ _ _ _ _)
    | (intro hx; refine ⟨fun hs => ?_, fun hs => ?_⟩)
    | (refine ⟨fun hs => ?_, fun hs => ?_⟩)
    | (refine ⟨?_, fun hs => ?_⟩; change AW _ _ _ _ _ _)
    | (refine ⟨fun hs => ?_, ?_⟩; rotate_left; change AW _ _ _ _ _ _; rotate_left)))
  all_goals (first
    | exact c8
    | (have hbk : back a cc = q.1 := (back_at (by omega) hm (fun h => c39 h.2)); rw [if_pos (B_yes c8), redS, redL, hcc, hbk, lp_len (l := cc) (by omega)]; simp [fr]; done)
    | (have hbk : back a cc = q.1 := (back_at (by omega) hm (fun h => by have := h.1; omega)); rw [if_pos (B_yes c8), redS, redL, hcc, hbk, lp_len (l := cc) (by omega)]; simp [fr, cat_nil, (show a.length - q.1 = 0 by omega)]; done)
    | skip)
noncomputable def specReduce_pureC : Con := .pure fun
  | [.st [.list n_a c_a, .list n_b c_b]] => ((Is cI n_a c_a) ∧ (Is cI n_b c_b), if B (LasOk (de cI c_a) (de cI c_b)) = true then .tup [.st [fr 1 cI (redS (de cI c_a) (de cI c_b)), fr 1 cI (redL (de cI c_a) (de cI c_b))], .bool true] else .tup [.st [.nil, .nil], .bool false])
  | _ => (False, .any)
attribute [go_sem] specReduce_pureC
theorem specReduce_pureC_ok : ConOk Try.prog 40 specReduce_pureC := by
  refine ⟨callable Try.func40 (by decide) rfl, fun args h => ?_⟩
  revert h
  dsimp only
  split
  · intro h
    obtain ⟨⟨a, rfl, rfl⟩, ⟨b, rfl, rfl⟩⟩ := h
    try simp only [de_cat] at *
    exact ⟨specReduce_pure a b, by simp [go_sem]⟩
  · intro h
    exact h.elim
noncomputable def Γs27 : FuncId → Con := ext Γs26 40 specReduce_pureC
attribute [go_sem] Γs27
theorem Γs27_ok : ∀ g, ConOk Try.prog g (Γs27 g) := ext_ok Γs26_ok specReduce_pureC_ok
end Go.Proofs.Ytlbbhkpjjciaiaa.Vm

