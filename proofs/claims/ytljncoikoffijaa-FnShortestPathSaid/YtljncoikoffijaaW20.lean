/-
  FnShortestPath: the walk of the law. No conditions.
-/
import Derived.Test.YtljncoikoffijaaW19
import Derived.Test.YtljncoikoffijaaJ1
namespace Go.Proofs.Ytljncoikoffijaa.Vm
open Go
set_option linter.unusedVariables false
set_option linter.unusedSimpArgs false
set_option maxRecDepth 200000

/-- A walk of k steps from x to v. -/
def Wk (nx : List (List Int)) (x : Int) (k : Nat) (v : Int) : Prop := ∃ w, Way nx w ∧ w.length = k + 1 ∧ nth w 0 = x ∧ nth w k = v
theorem Wk.zero (nx : List (List Int)) (x : Int) : Wk nx x 0 x := ⟨[x], fun k hk => by simp at hk, rfl, rfl, rfl⟩
theorem Wk.succ {nx : List (List Int)} {x v z : Int} {k : Nat} (h : Wk nx x k v) (hz : z ∈ nth nx v.toNat) : Wk nx x (k + 1) z := by
  obtain ⟨w, w1, w2, w3, w4⟩ := h
  refine ⟨w ++ [z], fun j hj => ?_, by simp [w2], by rw [nth_app1 (by omega)]; exact w3, by rw [← w2, nth_last1]⟩
  rw [List.length_append, List.length_singleton] at hj
  rcases Nat.lt_or_ge (j + 1) w.length with c | c
  · rw [nth_app1 c, nth_app1 (by omega)]; exact w1 j c
  · have e : j + 1 = w.length := by omega
    rw [e, nth_last1, nth_app1 (by omega), show j = k by omega, w4]; exact hz
theorem Wk.short {a : List Ints2} {b : List (List Int)} {x v : Int} {k : Nat} (h : Wk b x k v) (hA : PathAsk a b x v) : (spL a b x v).length ≤ k + 1 := by
  obtain ⟨w, w1, w2, w3, w4⟩ := h
  have := (spL_short hA w1 w3 (by omega) (by rw [w2, Nat.add_sub_cancel]; exact w4)).2
  omega
theorem step_idx (y : UInt8) {n : Nat} (h : 1 ≤ n) : ¬ (n : Int) = 0 ∧ 0 ≤ (y.toNat : Int).tmod n ∧ (y.toNat : Int).tmod n < n ∧ ((y.toNat : Int).tmod n).toNat < n := by
  have h1 := Int.tmod_nonneg (b := (n : Int)) (a := (y.toNat : Int)) (by omega)
  have h2 := Int.tmod_lt_of_pos (y.toNat : Int) (show (0 : Int) < n by omega)
  exact ⟨by omega, h1, h2, by omega⟩
theorem nd_of {a : List Ints2} {b : List (List Int)} (h : GraphOk a b) : NextOk b := h.next.1
set_option maxHeartbeats 4000000 in
theorem lawFnShortestPath (xs : List UInt8) (ys : List UInt8)  : Pure Try.prog 13 [li cY xs, li cY ys] (.bool true) := by
  refine Pure.of_walk Try.func13 rfl (by simp [Try.f13]) (by simp [-List.drop_one, go_sem]) fun B hK => ?_
  (repeat' (first
    | refine AW_seq ?_
    | (refine AW_len 1 rfl fun hm => ?_); refine AW_region (id := 0) Γe37_ok [] (by kernel_rfl) ?_; simp  [-List.getD_eq_getElem?_getD, -List.drop_one, ↓splitB_true, ↓splitB_false, go_sem]
    | refine AW_region (id := 1) Γe37_ok [16] (by kernel_rfl) ?_; simp  [-List.getD_eq_getElem?_getD, -List.drop_one, ↓splitB_true, ↓splitB_false, go_sem]; try (refine ⟨fun s1a => ?_, fun s1a => ?_⟩ <;> (try simp [B_iff, B_not] at s1a) <;> try (refine ⟨fun s1b => ?_, fun s1b => ?_⟩ <;> (try simp [B_iff, B_not] at s1b)))
    | refine AW_region (id := 2) Γe37_ok [] (by kernel_rfl) ?_; simp  [-List.getD_eq_getElem?_getD, -List.drop_one, ↓splitB_true, ↓splitB_false, go_sem]
    | refine AW_region (id := 3) Γe37_ok [] (by kernel_rfl) ?_; simp  [-List.getD_eq_getElem?_getD, -List.drop_one, ↓splitB_true, ↓splitB_false, go_sem]; try ((intro c3); (generalize DrawShortestPath_sel xs c3 = z at *); (obtain ⟨⟨ga, gb⟩, uu, ww⟩ := z); (refine AW_data hK 5 ?_); (simp [go_sem]))
    | refine AW_region (id := 4) Γe37_ok [] (by kernel_rfl) ?_; simp  [-List.getD_eq_getElem?_getD, -List.drop_one, ↓splitB_true, ↓splitB_false, go_sem]; try ((refine AW_data hK 8 ?_); (simp [go_sem]))
    | refine AW_region (id := 5) Γe37_ok [] (by kernel_rfl) ?_; simp  [-List.getD_eq_getElem?_getD, -List.drop_one, ↓splitB_true, ↓splitB_false, go_sem]; try ((refine AW_data hK 9 ?_); (simp [go_sem]); (have hl := spL_len ga gb uu ww); (have hq := fun q => @spL_path ga gb uu ww q); (have ha := fun q => @spL_ask ga gb uu ww q); (have hw := fun (k : Nat) (q : Wk gb uu k ww) => @Wk.short ga gb uu ww k q); (obtain ⟨pp, hpp⟩ : ∃ pp, spL ga gb uu ww = pp := ⟨_, rfl⟩); (rw [hpp] at hl hq ha hw ⊢); (by_cases hn : pp = []); rotate_left; (obtain ⟨hP, e0, e1, h1⟩ := hq hn); (have hA := ha hn); (obtain ⟨hG, a0, a1, a2, a3⟩ := id hA); (have hG2 := hG); (obtain ⟨g1, g2, g3, g4, g5⟩ := hG2); rotate_left)
    | refine AW_region (id := 6) Γe37_ok [40] (by kernel_rfl) ?_; simp  [-List.getD_eq_getElem?_getD, -List.drop_one, ↓splitB_true, ↓splitB_false, go_sem, hn]; try (refine ⟨fun s6a => ?_, fun s6a => ?_⟩ <;> (try simp [B_iff, B_not] at s6a) <;> try (refine ⟨fun s6b => ?_, fun s6b => ?_⟩ <;> (try simp [B_iff, B_not] at s6b)))
    | refine AW_region (id := 7) Γe37_ok [] (by kernel_rfl) ?_; simp  [-List.getD_eq_getElem?_getD, -List.drop_one, ↓splitB_true, ↓splitB_false, go_sem]
    | refine AW_region (id := 8) Γe37_ok [] (by kernel_rfl) ?_; simp  [-List.getD_eq_getElem?_getD, -List.drop_one, ↓splitB_true, ↓splitB_false, go_sem]
    | refine AW_region (id := 9) Γe37_ok [] (by kernel_rfl) ?_; simp  [-List.getD_eq_getElem?_getD, -List.drop_one, ↓splitB_true, ↓splitB_false, go_sem]
    | refine AW_region_draw (id := 11) Γe37_ok mixed [] [10] (by kernel_rfl) (by kernel_rfl) (by simp [-List.getD_eq_getElem?_getD, -List.drop_one, ↓splitB_true, ↓splitB_false, go_sem, c53, ne_nil c53, Nat.sub_pos_of_lt c53]) ?_; simp  [-List.getD_eq_getElem?_getD, -List.drop_one, ↓splitB_true, ↓splitB_false, go_sem, c53, ne_nil c53, Nat.sub_pos_of_lt c53]
    | refine AW_region (id := 12) Γe37_ok [] (by kernel_rfl) ?_; simp  [-List.getD_eq_getElem?_getD, -List.drop_one, ↓splitB_true, ↓splitB_false, go_sem]
    | refine AW_region (id := 10) Γe37_ok [] (by kernel_rfl) ?_; simp  [-List.getD_eq_getElem?_getD, -List.drop_one, ↓splitB_true, ↓splitB_false, go_sem, wrapS (k := k) (by omega)]
    | refine AW_region (id := 13) Γe37_ok [] (by kernel_rfl) ?_; simp  [-List.getD_eq_getElem?_getD, -List.drop_one, ↓splitB_true, ↓splitB_false, go_sem]
    | refine AW_region (id := 14) Γe37_ok [] (by kernel_rfl) ?_; simp  [-List.getD_eq_getElem?_getD, -List.drop_one, ↓splitB_true, ↓splitB_false, go_sem]
    | refine AW_region (id := 15) Γe37_ok [70] (by kernel_rfl) ?_; simp  [-List.getD_eq_getElem?_getD, -List.drop_one, ↓splitB_true, ↓splitB_false, go_sem]; try (refine ⟨fun s15a => ?_, fun s15a => ?_⟩ <;> (try simp [B_iff, B_not] at s15a) <;> try (refine ⟨fun s15b => ?_, fun s15b => ?_⟩ <;> (try simp [B_iff, B_not] at s15b)))
    | refine AW_region (id := 17) Γe37_ok [79] (by kernel_rfl) ?_; simp  [-List.getD_eq_getElem?_getD, -List.drop_one, ↓splitB_true, ↓splitB_false, go_sem, wrapS (k := q.1) (by omega)]; try (refine ⟨fun s17a => ?_, fun s17a => ?_⟩ <;> (try simp [B_iff, B_not] at s17a) <;> try (refine ⟨fun s17b => ?_, fun s17b => ?_⟩ <;> (try simp [B_iff, B_not] at s17b)))
    | refine AW_region (id := 18) Γe37_ok [] (by kernel_rfl) ?_; simp  [-List.getD_eq_getElem?_getD, -List.drop_one, ↓splitB_true, ↓splitB_false, go_sem]
    | ((have q6 : q.2.toNat < gb.length := (by omega)); (obtain ⟨k1, k2⟩ := g5 q.2.toNat q6); (obtain ⟨r1, r2, r3, r4⟩ := step_idx (nth ys q.1) k1); (have hz2 := nth_mem r4)); refine AW_region_draw (id := 19) Γe37_ok mixed [] [5, 11] (by kernel_rfl) (by kernel_rfl) (by simp [-List.getD_eq_getElem?_getD, -List.drop_one, ↓splitB_true, ↓splitB_false, go_sem, q4, q5, q6, ne_nil q6, Nat.sub_pos_of_lt q6, s15a, ne_nil s15a, Nat.sub_pos_of_lt s15a, r1, r2, r3, r4, ne_nil r4, Nat.sub_pos_of_lt r4, ne_nil (show 0 < (nth gb q.2.toNat).length from k1), wrap_in (x := ((nth ys q.1).toNat : Int)) (by omega) (by have := (nth ys q.1).toNat_lt; omega)]) ?_; simp  [-List.getD_eq_getElem?_getD, -List.drop_one, ↓splitB_true, ↓splitB_false, go_sem, q4, q5, q6, ne_nil q6, Nat.sub_pos_of_lt q6, s15a, ne_nil s15a, Nat.sub_pos_of_lt s15a, r1, r2, r3, r4, ne_nil r4, Nat.sub_pos_of_lt r4, ne_nil (show 0 < (nth gb q.2.toNat).length from k1), wrap_in (x := ((nth ys q.1).toNat : Int)) (by omega) (by have := (nth ys q.1).toNat_lt; omega)]; try ((generalize hz3 : nth (nth gb q.2.toNat) (((nth ys q.1).toNat : Int).tmod (nth gb q.2.toNat).length).toNat = z2 at *); (have hz4 := nd_next (nd_of hG) (show Nd gb q.2 from ⟨q4, q5⟩) hz2); (obtain ⟨hz5, hz6⟩ := hz4))
    | refine AW_region (id := 16) Γe37_ok [] (by kernel_rfl) ?_; simp  [-List.getD_eq_getElem?_getD, -List.drop_one, ↓splitB_true, ↓splitB_false, go_sem, wrapS (k := q.1) (by omega)]
    | refine AW_region (id := 20) Γe37_ok [108, 115] (by kernel_rfl) ?_; simp  [-List.getD_eq_getElem?_getD, -List.drop_one, ↓splitB_true, ↓splitB_false, go_sem, B_yes hP, hn, (show 0 < pp.length from h1), e0, e1, wrap_in (x := (pp.length : Int) - 1) (by omega) (by omega), (show ((pp.length : Int) - 1).toNat = pp.length - 1 by omega), (show (0 : Int) ≤ (pp.length : Int) - 1 by omega), (show (pp.length : Int) - 1 < pp.length by omega), (show pp.length - 1 < pp.length by omega), (show (1 : Int) ≤ pp.length by omega), (show 0 < pp.length - (pp.length - 1) by omega)]; try (refine ⟨fun s20a => ?_, fun s20a => ?_⟩ <;> (try simp [B_iff, B_not] at s20a) <;> try (refine ⟨fun s20b => ?_, fun s20b => ?_⟩ <;> (try simp [B_iff, B_not] at s20b) <;> try (refine ⟨fun s20c => ?_, fun s20c => ?_⟩ <;> (try simp [B_iff, B_not] at s20c))))
    | refine AW_condA (c := .tmp 20) ?_; simp [-List.getD_eq_getElem?_getD, -List.drop_one, ↓splitB_true, ↓splitB_false, go_sem]; try first | (refine ⟨?_, ?_⟩ <;> change AW _ _ _ _ _ _) | (refine ⟨fun c20 => ?_, fun c20 => ?_⟩ <;> (try simp [B_iff, B_not] at c20))
    | refine AW_condA (c := .tmp 44) ?_; simp [-List.getD_eq_getElem?_getD, -List.drop_one, ↓splitB_true, ↓splitB_false, go_sem]; try first | (refine ⟨?_, ?_⟩ <;> change AW _ _ _ _ _ _) | (refine ⟨fun c44 => ?_, fun c44 => ?_⟩ <;> (try simp [B_iff, B_not] at c44))
    | refine AW_condA (c := .tmp 53) ?_; simp [-List.getD_eq_getElem?_getD, -List.drop_one, ↓splitB_true, ↓splitB_false, go_sem]; try first | (refine ⟨?_, ?_⟩ <;> change AW _ _ _ _ _ _) | (refine ⟨fun c53 => ?_, fun c53 => ?_⟩ <;> (try simp [B_iff, B_not] at c53))
    | refine AW_condA (c := .tmp 64) ?_; simp [-List.getD_eq_getElem?_getD, -List.drop_one, ↓splitB_true, ↓splitB_false, go_sem]; try first | (refine ⟨?_, ?_⟩ <;> change AW _ _ _ _ _ _) | (refine ⟨fun c64 => ?_, fun c64 => ?_⟩ <;> (try simp [B_iff, B_not] at c64))
    | refine AW_condA (c := .tmp 73) ?_; simp [-List.getD_eq_getElem?_getD, -List.drop_one, ↓splitB_true, ↓splitB_false, go_sem]; try first | (refine ⟨?_, ?_⟩ <;> change AW _ _ _ _ _ _) | (refine ⟨fun c73 => ?_, fun c73 => ?_⟩ <;> (try simp [B_iff, B_not] at c73))
    | refine AW_condA (c := .tmp 85) ?_; simp [-List.getD_eq_getElem?_getD, -List.drop_one, ↓splitB_true, ↓splitB_false, go_sem]; try first | (refine ⟨?_, ?_⟩ <;> change AW _ _ _ _ _ _) | (refine ⟨fun c85 => ?_, fun c85 => ?_⟩ <;> (try simp [B_iff, B_not] at c85))
    | (refine AW_block (id := 0) (AW_loop (ι := Nat) (fun k : Nat => ⟨(upd (upd (upd (upd (upd (upd (upd (fun _ => .any) 1 (li cY ys)) 5 (.pd [li cP ga, li cL gb])) 6 (.int .i64 uu)) 7 (.int .i64 ww)) 8 (li cI pp)) 9 (li cI pp)) 10 (.int .i64 k)), fun _ => none⟩) (fun k => k ≤ pp.length) (fun k => pp.length - k) (0) ?_ ?_ ?_); exact Nat.zero_le _; ((repeat' (first | exact sub_noneH (by assumption) | exact sub_none | refine sub_upd ?_ ?_ | refine sub_noneE ?_)) <;> simp [-List.getD_eq_getElem?_getD, -List.drop_one, ↓splitB_true, ↓splitB_false, go_sem]); rintro k hk)
    | (refine ⟨k + 1, by omega, by first | omega | (simp; done) | (simp; omega), ?_⟩; ((repeat' (first | exact sub_noneH (by assumption) | exact sub_none | refine sub_upd ?_ ?_ | refine sub_noneE ?_)) <;> simp [-List.getD_eq_getElem?_getD, -List.drop_one, ↓splitB_true, ↓splitB_false, go_sem]))
    | (refine AW_block (id := 2) (AW_loop (ι := Nat × Int) (fun q : Nat × Int => ⟨(upd (upd (upd (upd (upd (upd (upd (fun _ => .any) 1 (li cY ys)) 5 (.pd [li cP ga, li cL gb])) 6 (.int .i64 uu)) 7 (.int .i64 ww)) 8 (li cI pp)) 11 (.int .i64 q.2)) 12 (.int .i64 q.1)), fun _ => none⟩) (fun q => q.1 ≤ ys.length ∧ q.1 ≤ 20 ∧ Wk gb uu q.1 q.2 ∧ 0 ≤ q.2 ∧ q.2 < gb.length) (fun q => ys.length - q.1) ((0, uu)) ?_ ?_ ?_); exact ⟨Nat.zero_le _, Nat.zero_le _, Wk.zero _ _, a0, by omega⟩; ((repeat' (first | exact sub_noneH (by assumption) | exact sub_none | refine sub_upd ?_ ?_ | refine sub_noneE ?_)) <;> simp [-List.getD_eq_getElem?_getD, -List.drop_one, ↓splitB_true, ↓splitB_false, go_sem]); rintro q ⟨q1, q2, q3, q4, q5⟩)
    | (refine ⟨(q.1 + 1, z2), ⟨by dsimp only; omega, by dsimp only; omega, q3.succ hz2, by dsimp only; omega, by dsimp only; omega⟩, by first | omega | (simp; done) | (simp; omega), ?_⟩; ((repeat' (first | exact sub_noneH (by assumption) | exact sub_none | refine sub_upd ?_ ?_ | refine sub_noneE ?_)) <;> simp [-List.getD_eq_getElem?_getD, -List.drop_one, ↓splitB_true, ↓splitB_false, go_sem, ]))
    | (refine AW_block ?_)
    | (refine AW_exit ?_; simp [-List.getD_eq_getElem?_getD, -List.drop_one, ↓splitB_true, ↓splitB_false, go_sem])
    | (refine AW_skip ?_; simp [-List.getD_eq_getElem?_getD, -List.drop_one, ↓splitB_true, ↓splitB_false, go_sem])
    | (refine AW_ret ?_; simp [-List.getD_eq_getElem?_getD, -List.drop_one, ↓splitB_true, ↓splitB_false, go_sem, Try.results13])
    | (intro hx; change AW _ _ _ _ _ _)
    | (refine ⟨?_, ?_⟩ <;> change AW _ _ _ _ _ _)
    | (intro hx; refine ⟨fun hs => ?_, fun hs => ?_⟩)
    | (refine ⟨fun hs => ?_, fun hs => ?_⟩)
    | (refine ⟨?_, fun hs => ?_⟩; change AW _ _ _ _ _ _)
    | (refine ⟨fun hs => ?_, ?_⟩; rotate_left; change AW _ _ _ _ _ _; rotate_left)))
  all_goals (first
    | (exfalso; have h9 := hw q.1 (by rw [← s17a]; exact q3) hA; omega)
    | skip)
end Go.Proofs.Ytljncoikoffijaa.Vm

