/-
  spec.l4Components; Components, both ways. No conditions.
-/
import Derived.Test.YtoklpofekcclhaaJ6
import Derived.Test.YtoklpofekcclhaaJ7
namespace Go.Proofs.Ytoklpofekcclhaa.Vm
open Go
set_option linter.unusedVariables false
set_option linter.unusedSimpArgs false
set_option maxRecDepth 200000

theorem oL_snoc (xs : List (List Int)) (y : List Int) : cat oL xs ++ [.fr 1 y.length (cat cI y)] = cat oL (xs ++ [y]) := by rw [cat_append, cat_one]; rfl
theorem rchs_cat (nx : List (List Int)) (k : Nat) : cat oL (rchs nx k) ++ [.fr 1 (bfsE nx [(k : Int)]).2.length (cat cI (bfsE nx [(k : Int)]).2)] = cat oL (rchs nx (k + 1)) := by rw [oL_snoc, rchs_succ]
set_option maxHeartbeats 2000000 in

theorem l4Comps_pure (nx : List (List Int)) (hx : NextOk nx) (hs : NextS nx) (hn : nx.length ≤ 1048576) : Pure Try.prog 82 [li cL nx] (fr 1 cI (compsL nx)) := by
  refine Pure.of_walk Try.func82 rfl (by simp [Try.f82]) (by simp [-List.drop_one, go_sem]) fun B hK => ?_
  obtain ⟨xs, hxs⟩ : ∃ xs, (tAll nx nx.length).part = xs := ⟨_, rfl⟩; have hxl : xs.length = nx.length := (by rw [← hxs]; exact part_len hx); have hcl : compsL nx = named xs nx.length := (by rw [compsL, hxs])
  all_goals (repeat' (first
    | refine AW_seq ?_
    | refine AW_region (id := 0) Γj1_ok [] (by kernel_rfl) ?_; simp  [-List.getD_eq_getElem?_getD, -List.drop_one, ↓splitB_true, ↓splitB_false, go_sem]
    | refine AW_region (id := 1) Γj1_ok [] (by kernel_rfl) ?_; simp  [-List.getD_eq_getElem?_getD, -List.drop_one, ↓splitB_true, ↓splitB_false, go_sem]
    | refine AW_region (id := 2) Γj1_ok [] (by kernel_rfl) ?_; simp  [-List.getD_eq_getElem?_getD, -List.drop_one, ↓splitB_true, ↓splitB_false, go_sem]
    | refine AW_region (id := 3) Γj1_ok [] (by kernel_rfl) ?_; simp  [-List.getD_eq_getElem?_getD, -List.drop_one, ↓splitB_true, ↓splitB_false, go_sem]
    | refine AW_region (id := 5) Γj1_ok [] (by kernel_rfl) ?_; simp  [-List.getD_eq_getElem?_getD, -List.drop_one, ↓splitB_true, ↓splitB_false, go_sem, hx, hs, hn, (show (0 : Int) ≤ (k : Int) by omega), (show (k : Int) < (nx.length : Int) by omega)]
    | refine AW_region (id := 6) Γj1_ok [] (by kernel_rfl) ?_; simp  [-List.getD_eq_getElem?_getD, -List.drop_one, ↓splitB_true, ↓splitB_false, go_sem, rchs_cat, (show k ≤ 9223372036854775806 by omega), (show 2 * (k + 1) * 24 ≤ 281474976710656 by omega), (show k + 1 ≤ 9223372036854775807 by omega)]
    | refine AW_region (id := 4) Γj1_ok [] (by kernel_rfl) ?_; simp  [-List.getD_eq_getElem?_getD, -List.drop_one, ↓splitB_true, ↓splitB_false, go_sem, wrapS (k := k) (by omega)]
    | ((obtain rfl : k = nx.length := by omega); (refine AW_data hK 3 ?_)); refine AW_region (id := 7) Γj1_ok [] (by kernel_rfl) ?_; simp  [-List.getD_eq_getElem?_getD, -List.drop_one, ↓splitB_true, ↓splitB_false, go_sem, rchs_len]
    | refine AW_region (id := 8) Γj1_ok [] (by kernel_rfl) ?_; simp  [-List.getD_eq_getElem?_getD, -List.drop_one, ↓splitB_true, ↓splitB_false, go_sem]
    | refine AW_region (id := 9) Γj1_ok [] (by kernel_rfl) ?_; simp  [-List.getD_eq_getElem?_getD, -List.drop_one, ↓splitB_true, ↓splitB_false, go_sem]; try ((have hz : dist ([] : List Int) = [] := rfl); (have hz2 : named xs 0 = [] := rfl))
    | refine AW_region (id := 10) Γj1_ok [] (by kernel_rfl) ?_; simp  [-List.getD_eq_getElem?_getD, -List.drop_one, ↓splitB_true, ↓splitB_false, go_sem]
    | ((have hnl := named_len (xs := xs) (k := i) (by omega))); refine AW_region (id := 12) Γj1_ok [] (by kernel_rfl) ?_; simp  [-List.getD_eq_getElem?_getD, -List.drop_one, ↓splitB_true, ↓splitB_false, go_sem]; try ((refine AW_mat 7 rfl fun b cp j _ hcp hj => ?_))
    | refine AW_region (id := 13) Γj1_ok [] (by kernel_rfl) ?_; simp  [-List.getD_eq_getElem?_getD, -List.drop_one, ↓splitB_true, ↓splitB_false, go_sem]
    | refine AW_region (id := 14) Γj1_ok [39] (by kernel_rfl) ?_; simp  [-List.getD_eq_getElem?_getD, -List.drop_one, ↓splitB_true, ↓splitB_false, go_sem]; try (refine ⟨fun s14a => ?_, fun s14a => ?_⟩ <;> (try simp [B_iff, B_not] at s14a) <;> try (refine ⟨fun s14b => ?_, fun s14b => ?_⟩ <;> (try simp [B_iff, B_not] at s14b)))
    | ((have hki : q.1 < i := (by omega)); (have hin : i < nx.length := (by omega)); (have hkn : q.1 < nx.length := (by omega)); (have hcs := comp_same hx (i := i) (k := q.1) hin hkn); (rw [hxs] at hcs); (have hrn : ¬ rchs nx nx.length = [] := (by intro e; have := rchs_len nx nx.length; rw [e] at this; simp at this; omega))); refine AW_region (id := 16) Γj1_ok [51] (by kernel_rfl) ?_; simp  [-List.getD_eq_getElem?_getD, -List.drop_one, ↓splitB_true, ↓splitB_false, go_sem, rchs_len, hrn, nth_rchs nx hin, nth_rchs nx hkn, hin, hkn, (show 0 < nx.length - i by omega), (show 0 < nx.length - q.1 by omega)]; try (refine ⟨fun s16a => ?_, fun s16a => ?_⟩ <;> (try simp [B_iff, B_not] at s16a) <;> try (refine ⟨fun s16b => ?_, fun s16b => ?_⟩ <;> (try simp [B_iff, B_not] at s16b)))
    | ((have hkl : q.1 < (named xs i).length := (by omega)); (have hkl2 : q.1 < (named xs i).length + j := (by omega)); (have hkl3 : q.1 + 1 ≤ (named xs i).length + j := (by omega))); refine AW_region (id := 17) Γj1_ok [] (by kernel_rfl) ?_; simp  [-List.getD_eq_getElem?_getD, -List.drop_one, ↓splitB_true, ↓splitB_false, go_sem, hki, hkl, hkl2, hkl3, (show 0 < (named xs i).length - q.1 by omega), (show 0 < i - q.1 by omega), (show ¬ i = 0 by omega), (show q.1 < i + j by omega), (show q.1 + 1 ≤ i + j by omega)]; try ((obtain ⟨c', hc', hCf⟩ : ∃ c', c' = nth (named xs i) q.1 ∧ Cf xs i (q.1 + 1) c' := ⟨_, rfl, Cf.hit hki (by omega) (hcs.2 ⟨by assumption, by assumption⟩)⟩))
    | (first | (have hCf2 := hCf; skip) | (obtain ⟨c', hc', hCf⟩ : ∃ c', c' = q.2 ∧ Cf xs i (q.1 + 1) c' := ⟨_, rfl, Cf.miss g2 (by omega) (fun z => by have z2 := hcs.1 z; simp_all)⟩)); refine AW_region (id := 15) Γj1_ok [] (by kernel_rfl) ?_; simp  [-List.getD_eq_getElem?_getD, -List.drop_one, ↓splitB_true, ↓splitB_false, go_sem, wrapS (k := q.1) (by omega)]
    | refine AW_region (id := 18) Γj1_ok [] (by kernel_rfl) ?_; simp  [-List.getD_eq_getElem?_getD, -List.drop_one, ↓splitB_true, ↓splitB_false, go_sem]
    | ((have hki : q.1 = i := (by omega)); (have hnew := Cf.new (by rw [hki] at g2; exact g2) (by omega) (show i < xs.length by omega)); (have hdl := dist_len xs i (by omega)); (have e8 : ((dist (xs.take (i + 1))).length : Int) = ((dist (xs.take i)).length : Int) + 1 := (by rw [hnew.2]; rfl)); (have e7 : cat cI (named xs i) ++ [.int .i64 ((dist (xs.take i)).length : Int)] = cat cI (named xs (i + 1)) := (by rw [snoc_cI, hnew.1]))); refine AW_region (id := 19) Γj1_ok [] (by kernel_rfl) ?_; simp  [-List.getD_eq_getElem?_getD, -List.drop_one, ↓splitB_true, ↓splitB_false, go_sem]
    | refine AW_region (id := 20) Γj1_ok [] (by kernel_rfl) ?_; simp  [-List.getD_eq_getElem?_getD, -List.drop_one, ↓splitB_true, ↓splitB_false, go_sem, wrap_in (x := ((dist (xs.take i)).length : Int) + 1) (by omega) (by omega)]
    | ((first | (have e72 := e7; skip) | (have hold := Cf.old g2 (by omega) (show i < xs.length by omega); have e8 : ((dist (xs.take (i + 1))).length : Int) = ((dist (xs.take i)).length : Int) := (by rw [hold.2]); have e7 : cat cI (named xs i) ++ [.int .i64 q.2] = cat cI (named xs (i + 1)) := (by rw [snoc_cI, hold.1]))); (refine AW_unmat 7 (b := b) (all := cat cI (named xs i) ++ List.replicate j .any) rfl (by simp [upd]) (by omega) (by simp [cat_length, hnl]) (by simp [cat_length, hnl]; omega) ?_)); refine AW_region (id := 21) Γj1_ok [] (by kernel_rfl) ?_; simp  [-List.getD_eq_getElem?_getD, -List.drop_one, ↓splitB_true, ↓splitB_false, go_sem, e7, hnl, cat_take_app1c (f := cI) (named xs i) (List.replicate j .any) (n := i) hnl.symm, (show i ≤ 9223372036854775806 by omega), (show 2 * (i + 1) * 8 ≤ 281474976710656 by omega), (show i + 1 ≤ 9223372036854775807 by omega)]
    | refine AW_region (id := 11) Γj1_ok [] (by kernel_rfl) ?_; simp  [-List.getD_eq_getElem?_getD, -List.drop_one, ↓splitB_true, ↓splitB_false, go_sem, wrapS (k := i) (by omega)]
    | ((obtain rfl : i = nx.length := by omega); have hcn := compsL_len hx); refine AW_region (id := 22) Γj1_ok [] (by kernel_rfl) ?_; simp  [-List.getD_eq_getElem?_getD, -List.drop_one, ↓splitB_true, ↓splitB_false, go_sem, hcl.symm, hcn]
    | refine AW_condA (c := .tmp 16) ?_; simp [-List.getD_eq_getElem?_getD, -List.drop_one, ↓splitB_true, ↓splitB_false, go_sem]; try first | (refine ⟨?_, ?_⟩ <;> change AW _ _ _ _ _ _) | (refine ⟨fun c16 => ?_, fun c16 => ?_⟩ <;> (try simp [B_iff, B_not] at c16))
    | refine AW_condA (c := .tmp 33) ?_; simp [-List.getD_eq_getElem?_getD, -List.drop_one, ↓splitB_true, ↓splitB_false, go_sem]; try first | (refine ⟨?_, ?_⟩ <;> change AW _ _ _ _ _ _) | (refine ⟨fun c33 => ?_, fun c33 => ?_⟩ <;> (try simp [B_iff, B_not] at c33))
    | refine AW_condA (c := .tmp 42) ?_; simp [-List.getD_eq_getElem?_getD, -List.drop_one, ↓splitB_true, ↓splitB_false, go_sem]; try first | (refine ⟨?_, ?_⟩ <;> change AW _ _ _ _ _ _) | (refine ⟨fun c42 => ?_, fun c42 => ?_⟩ <;> (try simp [B_iff, B_not] at c42))
    | refine AW_condA (c := .tmp 58) ?_; simp [-List.getD_eq_getElem?_getD, -List.drop_one, ↓splitB_true, ↓splitB_false, go_sem]; try first | (refine ⟨?_, ?_⟩ <;> change AW _ _ _ _ _ _) | (refine ⟨fun c58 => ?_, fun c58 => ?_⟩ <;> (try simp [B_iff, B_not] at c58))
    | refine AW_condA (c := .tmp 64) ?_; simp [-List.getD_eq_getElem?_getD, -List.drop_one, ↓splitB_true, ↓splitB_false, go_sem]; try first | (refine ⟨?_, ?_⟩ <;> change AW _ _ _ _ _ _) | (refine ⟨fun c64 => ?_, fun c64 => ?_⟩ <;> (try simp [B_iff, B_not] at c64))
    | (refine AW_block (id := 0) (AW_loop (ι := Nat) (fun k : Nat => ⟨(upd (upd (upd (fun _ => .any) 0 (li cL nx)) 3 (.fr 1 k (cat oL (rchs nx k)))) 4 (.int .i64 k)), fun _ => none⟩) (fun k => k ≤ nx.length) (fun k => nx.length - k) (0) ?_ ?_ ?_); exact Nat.zero_le _; ((repeat' (first | exact sub_noneH (by assumption) | exact sub_none | exact ⟨fun _ => Or.inl rfl, fun _ _ h => nomatch h⟩ | refine sub_upd ?_ ?_ | refine sub_noneE ?_)) <;> simp [-List.getD_eq_getElem?_getD, -List.drop_one, ↓splitB_true, ↓splitB_false, go_sem, rchs, cat_nil]); rintro k hk)
    | (refine ⟨k + 1, by omega, by first | omega | (simp; done) | (simp; omega), ?_⟩; ((repeat' (first | exact sub_noneH (by assumption) | exact sub_none | exact ⟨fun _ => Or.inl rfl, fun _ _ h => nomatch h⟩ | refine sub_upd ?_ ?_ | refine sub_noneE ?_)) <;> simp [-List.getD_eq_getElem?_getD, -List.drop_one, ↓splitB_true, ↓splitB_false, go_sem, ]))
    | (refine AW_block (id := 2) (AW_loop (ι := Nat) (fun i : Nat => ⟨(upd (upd (upd (upd (upd (fun _ => .any) 0 (li cL nx)) 3 (li cL (rchs nx nx.length))) 7 (.fr 1 i (cat cI (named xs i)))) 8 (.int .i64 (dist (xs.take i)).length)) 9 (.int .i64 i)), fun _ => none⟩) (fun i => i ≤ nx.length) (fun i => nx.length - i) (0) ?_ ?_ ?_); exact Nat.zero_le _; ((repeat' (first | exact sub_noneH (by assumption) | exact sub_none | exact ⟨fun _ => Or.inl rfl, fun _ _ h => nomatch h⟩ | refine sub_upd ?_ ?_ | refine sub_noneE ?_)) <;> simp [-List.getD_eq_getElem?_getD, -List.drop_one, ↓splitB_true, ↓splitB_false, go_sem, hz, hz2, cat_nil, rchs_len, li]); rintro i hi)
    | (refine ⟨i + 1, by omega, by first | omega | (simp; done) | (simp; omega), ?_⟩; ((repeat' (first | exact sub_noneH (by assumption) | exact sub_none | exact ⟨fun _ => Or.inl rfl, fun _ _ h => nomatch h⟩ | refine sub_upd ?_ ?_ | refine sub_noneE ?_)) <;> simp [-List.getD_eq_getElem?_getD, -List.drop_one, ↓splitB_true, ↓splitB_false, go_sem, e8, rchs_len]))
    | (refine AW_block (id := 4) (AW_loop (ι := Nat × Int) (fun q : Nat × Int => ⟨(upd (upd (upd (upd (upd (upd (upd (fun _ => .any) 0 (li cL nx)) 3 (li cL (rchs nx nx.length))) 7 (.sl b 1 0 i cp)) 8 (.int .i64 (dist (xs.take i)).length)) 9 (.int .i64 i)) 10 (.int .i64 q.2)) 11 (.int .i64 q.1)), upd (fun _ => none) b (some (cat cI (named xs i) ++ List.replicate j .any))⟩) (fun q => q.1 ≤ i ∧ Cf xs i q.1 q.2) (fun q => i - q.1) ((0, -1)) ?_ ?_ ?_); exact ⟨Nat.zero_le _, Cf.zero xs i⟩; ((repeat' (first | exact sub_noneH (by assumption) | exact sub_none | exact ⟨fun _ => Or.inl rfl, fun _ _ h => nomatch h⟩ | refine sub_upd ?_ ?_ | refine sub_noneE ?_)) <;> simp [-List.getD_eq_getElem?_getD, -List.drop_one, ↓splitB_true, ↓splitB_false, go_sem]); rintro q ⟨g1, g2⟩)
    | (refine ⟨(q.1 + 1, c'), ⟨by dsimp only; omega, hCf⟩, by first | omega | (simp; done) | (simp; omega), ?_⟩; ((repeat' (first | exact sub_noneH (by assumption) | exact sub_none | exact ⟨fun _ => Or.inl rfl, fun _ _ h => nomatch h⟩ | refine sub_upd ?_ ?_ | refine sub_noneE ?_)) <;> simp [-List.getD_eq_getElem?_getD, -List.drop_one, ↓splitB_true, ↓splitB_false, go_sem, hc']))
    | (refine AW_block ?_)
    | (refine AW_exit ?_; simp [-List.getD_eq_getElem?_getD, -List.drop_one, ↓splitB_true, ↓splitB_false, go_sem])
    | (refine AW_skip ?_; simp [-List.getD_eq_getElem?_getD, -List.drop_one, ↓splitB_true, ↓splitB_false, go_sem])
    | (refine AW_ret ?_; simp [-List.getD_eq_getElem?_getD, -List.drop_one, ↓splitB_true, ↓splitB_false, go_sem, Try.results82])
    | (intro hx; change AW _ _ _ _ _ _)
    | (refine ⟨?_, ?_⟩ <;> change AW _ _ _ _ _ _)
    | (intro hx; refine ⟨fun hs => ?_, fun hs => ?_⟩)
    | (refine ⟨fun hs => ?_, fun hs => ?_⟩)
    | (refine ⟨?_, fun hs => ?_⟩; change AW _ _ _ _ _ _)
    | (refine ⟨fun hs => ?_, ?_⟩; rotate_left; change AW _ _ _ _ _ _; rotate_left)))
noncomputable def l4Comps_pureC : Con := .pure fun
  | [.list n_nx c_nx] => ((Is cL n_nx c_nx) ∧ (NextOk (de cL c_nx)) ∧ (NextS (de cL c_nx)) ∧ ((de cL c_nx).length ≤ 1048576), fr 1 cI (compsL (de cL c_nx)))
  | _ => (False, .any)
attribute [go_sem] l4Comps_pureC
theorem l4Comps_pureC_ok : ConOk Try.prog 82 l4Comps_pureC := by
  refine ⟨callable Try.func82 (by decide) rfl, fun args h => ?_⟩
  revert h
  dsimp only
  split
  · intro h
    obtain ⟨⟨nx, rfl, rfl⟩, hx, hs, hn⟩ := h
    try simp only [de_cat] at *
    exact ⟨l4Comps_pure nx hx hs hn, by simp [go_sem]⟩
  · intro h
    exact h.elim
noncomputable def Γj2 : FuncId → Con := ext Γj1 82 l4Comps_pureC
attribute [go_sem] Γj2
theorem Γj2_ok : ∀ g, ConOk Try.prog g (Γj2 g) := ext_ok Γj1_ok l4Comps_pureC_ok

/-- The answer. -/
noncomputable def cmL (a : List Ints2) (b : List (List Int)) : List Int := if B (GraphOk a b) = true then compsL b else []
theorem cmL_len (a : List Ints2) (b : List (List Int)) : (cmL a b).length ≤ 1048577 := by
  by_cases h : GraphOk a b
  · rw [cmL, if_pos (B_yes h)]
    obtain ⟨n1, n2, n3, n4, n5⟩ := h.next
    rw [compsL_len n1]; omega
  · rw [cmL, if_neg (by rw [B_no h]; simp)]; simp
theorem cmL_yes {a : List Ints2} {b : List (List Int)} (h : B (GraphOk a b) = true) : cmL a b = compsL b := by rw [cmL, if_pos h]
theorem cmL_no {a : List Ints2} {b : List (List Int)} (h : B (GraphOk a b) = false) : cmL a b = [] := by rw [cmL, if_neg (by rw [h]; simp)]
theorem cmL_ne {a : List Ints2} {b : List (List Int)} (h : GraphOk a b) : ¬ cmL a b = [] := by
  intro e
  have e2 := congrArg List.length e
  rw [cmL_yes (B_yes h), compsL_len h.next.1] at e2
  have h1 := h.next.2.2.1
  have h2 := h.1
  rw [List.length_nil] at e2
  omega

theorem implCm_pure (a : List Ints2) (b : List (List Int))  : Pure Try.prog 29 [.st [li cP a, li cL b]] (if cmL a b = [] then .nil else fr 1 cI (cmL a b)) := by
  refine Pure.of_walk Try.func29 rfl (by simp [Try.f29]) (by simp [-List.drop_one, go_sem]) fun B hK => ?_
  cases hg : Vm.B (GraphOk a b)
  all_goals (repeat' (first
    | refine AW_seq ?_
    | refine AW_region (id := 0) Γj2_ok [] (by kernel_rfl) ?_; simp  [-List.getD_eq_getElem?_getD, -List.drop_one, ↓splitB_true, ↓splitB_false, go_sem]; try (refine AW_data hK 1 ?_; simp [go_sem])
    | refine AW_region (id := 1) Γj2_ok [] (by kernel_rfl) ?_; simp  [-List.getD_eq_getElem?_getD, -List.drop_one, ↓splitB_true, ↓splitB_false, go_sem, hg]
    | refine AW_region (id := 2) Γj2_ok [] (by kernel_rfl) ?_; simp  [-List.getD_eq_getElem?_getD, -List.drop_one, ↓splitB_true, ↓splitB_false, go_sem, cmL_no hg]
    | (have hG : GraphOk a b := (by rw [B_iff] at hg; exact hg); obtain ⟨n1, n2, n3, n4, n5⟩ := hG.next; (have hce : ¬ compsL b = [] := (by rw [← cmL_yes hg]; exact cmL_ne hG))); refine AW_region (id := 3) Γj2_ok [] (by kernel_rfl) ?_; simp  [-List.getD_eq_getElem?_getD, -List.drop_one, ↓splitB_true, ↓splitB_false, go_sem, n1, n2, n5, cmL_yes hg, hce]
    | refine AW_condA (c := .tmp 5) ?_; simp [-List.getD_eq_getElem?_getD, -List.drop_one, ↓splitB_true, ↓splitB_false, go_sem]; try first | (refine ⟨?_, ?_⟩ <;> change AW _ _ _ _ _ _) | (refine ⟨fun c5 => ?_, fun c5 => ?_⟩ <;> (try simp [B_iff, B_not] at c5))
    | (refine AW_block ?_)
    | (refine AW_exit ?_; simp [-List.getD_eq_getElem?_getD, -List.drop_one, ↓splitB_true, ↓splitB_false, go_sem])
    | (refine AW_skip ?_; simp [-List.getD_eq_getElem?_getD, -List.drop_one, ↓splitB_true, ↓splitB_false, go_sem])
    | (refine AW_ret ?_; simp [-List.getD_eq_getElem?_getD, -List.drop_one, ↓splitB_true, ↓splitB_false, go_sem, Try.results29])
    | (intro hx; change AW _ _ _ _ _ _)
    | (refine ⟨?_, ?_⟩ <;> change AW _ _ _ _ _ _)
    | (intro hx; refine ⟨fun hs => ?_, fun hs => ?_⟩)
    | (refine ⟨fun hs => ?_, fun hs => ?_⟩)
    | (refine ⟨?_, fun hs => ?_⟩; change AW _ _ _ _ _ _)
    | (refine ⟨fun hs => ?_, ?_⟩; rotate_left; change AW _ _ _ _ _ _; rotate_left)))
  all_goals (first
    | (rw [cmL_no hg]; simp; done)
    | (have hc1 := cmL_ne hG; have hc2 := cmL_yes hg; rw [if_neg hc1, hc2]; simp; done)
    | skip)
noncomputable def implCm_pureC : Con := .pure fun
  | [.st [.list n_a c_a, .list n_b c_b]] => ((Is cP n_a c_a) ∧ (Is cL n_b c_b), if cmL (de cP c_a) (de cL c_b) = [] then .nil else fr 1 cI (cmL (de cP c_a) (de cL c_b)))
  | _ => (False, .any)
attribute [go_sem] implCm_pureC
theorem implCm_pureC_ok : ConOk Try.prog 29 implCm_pureC := by
  refine ⟨callable Try.func29 (by decide) rfl, fun args h => ?_⟩
  revert h
  dsimp only
  split
  · intro h
    obtain ⟨⟨a, rfl, rfl⟩, ⟨b, rfl, rfl⟩⟩ := h
    try simp only [de_cat] at *
    exact ⟨implCm_pure a b, by simp [go_sem]⟩
  · intro h
    exact h.elim
noncomputable def Γj3 : FuncId → Con := ext Γj2 29 implCm_pureC
attribute [go_sem] Γj3
theorem Γj3_ok : ∀ g, ConOk Try.prog g (Γj3 g) := ext_ok Γj2_ok implCm_pureC_ok

theorem specCm_pure (a : List Ints2) (b : List (List Int))  : Pure Try.prog 27 [.st [li cP a, li cL b]] (fr 1 cI (cmL a b)) := by
  refine Pure.of_walk Try.func27 rfl (by simp [Try.f27]) (by simp [-List.drop_one, go_sem]) fun B hK => ?_
  cases hg : Vm.B (GraphOk a b)
  all_goals (repeat' (first
    | refine AW_seq ?_
    | refine AW_region (id := 0) Γj3_ok [] (by kernel_rfl) ?_; simp  [-List.getD_eq_getElem?_getD, -List.drop_one, ↓splitB_true, ↓splitB_false, go_sem]; try (refine AW_data hK 1 ?_; simp [go_sem])
    | refine AW_region (id := 1) Γj3_ok [] (by kernel_rfl) ?_; simp  [-List.getD_eq_getElem?_getD, -List.drop_one, ↓splitB_true, ↓splitB_false, go_sem, hg]
    | refine AW_region (id := 2) Γj3_ok [] (by kernel_rfl) ?_; simp  [-List.getD_eq_getElem?_getD, -List.drop_one, ↓splitB_true, ↓splitB_false, go_sem, cmL_no hg]
    | (have hG : GraphOk a b := (by rw [B_iff] at hg; exact hg); obtain ⟨n1, n2, n3, n4, n5⟩ := hG.next); refine AW_region (id := 3) Γj3_ok [] (by kernel_rfl) ?_; simp  [-List.getD_eq_getElem?_getD, -List.drop_one, ↓splitB_true, ↓splitB_false, go_sem, n1, n2, n5, cmL_yes hg]
    | refine AW_condA (c := .tmp 5) ?_; simp [-List.getD_eq_getElem?_getD, -List.drop_one, ↓splitB_true, ↓splitB_false, go_sem]; try first | (refine ⟨?_, ?_⟩ <;> change AW _ _ _ _ _ _) | (refine ⟨fun c5 => ?_, fun c5 => ?_⟩ <;> (try simp [B_iff, B_not] at c5))
    | (refine AW_block ?_)
    | (refine AW_exit ?_; simp [-List.getD_eq_getElem?_getD, -List.drop_one, ↓splitB_true, ↓splitB_false, go_sem])
    | (refine AW_skip ?_; simp [-List.getD_eq_getElem?_getD, -List.drop_one, ↓splitB_true, ↓splitB_false, go_sem])
    | (refine AW_ret ?_; simp [-List.getD_eq_getElem?_getD, -List.drop_one, ↓splitB_true, ↓splitB_false, go_sem, Try.results27])
    | (intro hx; change AW _ _ _ _ _ _)
    | (refine ⟨?_, ?_⟩ <;> change AW _ _ _ _ _ _)
    | (intro hx; refine ⟨fun hs => ?_, fun hs => ?_⟩)
    | (refine ⟨fun hs => ?_, fun hs => ?_⟩)
    | (refine ⟨?_, fun hs => ?_⟩; change AW _ _ _ _ _ _)
    | (refine ⟨fun hs => ?_, ?_⟩; rotate_left; change AW _ _ _ _ _ _; rotate_left)))
noncomputable def specCm_pureC : Con := .pure fun
  | [.st [.list n_a c_a, .list n_b c_b]] => ((Is cP n_a c_a) ∧ (Is cL n_b c_b), fr 1 cI (cmL (de cP c_a) (de cL c_b)))
  | _ => (False, .any)
attribute [go_sem] specCm_pureC
theorem specCm_pureC_ok : ConOk Try.prog 27 specCm_pureC := by
  refine ⟨callable Try.func27 (by decide) rfl, fun args h => ?_⟩
  revert h
  dsimp only
  split
  · intro h
    obtain ⟨⟨a, rfl, rfl⟩, ⟨b, rfl, rfl⟩⟩ := h
    try simp only [de_cat] at *
    exact ⟨specCm_pure a b, by simp [go_sem]⟩
  · intro h
    exact h.elim
noncomputable def Γj4 : FuncId → Con := ext Γj3 27 specCm_pureC
attribute [go_sem] Γj4
theorem Γj4_ok : ∀ g, ConOk Try.prog g (Γj4 g) := ext_ok Γj3_ok specCm_pureC_ok

end Go.Proofs.Ytoklpofekcclhaa.Vm

