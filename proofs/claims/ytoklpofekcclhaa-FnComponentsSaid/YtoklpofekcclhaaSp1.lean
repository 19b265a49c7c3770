/-
  spec.l4Search: breadth-first search with what is met apart. No conditions.
-/
import Derived.Test.YtoklpofekcclhaaB2
import Derived.Test.YtoklpofekcclhaaQ1
namespace Go.Proofs.Ytoklpofekcclhaa.Vm
open Go
set_option linter.unusedVariables false
set_option linter.unusedSimpArgs false
set_option maxRecDepth 200000

/-- From where, in the reference's words: -1 for none. -/
def pmP (P : List Int) : List Int := P.map fun x => if x < 0 then -1 else x
/-- What is met. -/
def smP (P : List Int) : List Bool := P.map fun x => !decide (x = -2)
@[go_sem] theorem pmP_len (P : List Int) : (pmP P).length = P.length := by simp [pmP]
@[go_sem] theorem smP_len (P : List Int) : (smP P).length = P.length := by simp [smP]
theorem nth_pmP {P : List Int} {k : Nat} (h : k < P.length) : nth (pmP P) k = if nth P k < 0 then -1 else nth P k := by
  rw [nth_lt (by rw [pmP_len]; exact h), nth_lt h]; simp [pmP]
theorem nth_smP {P : List Int} {k : Nat} (h : k < P.length) : nth (smP P) k = !decide (nth P k = -2) := by
  rw [nth_lt (by rw [smP_len]; exact h), nth_lt h]; simp [smP]
theorem pmP_set (P : List Int) (k : Nat) {v : Int} (h : 0 ≤ v) : (pmP P).set k v = pmP (P.set k v) := by
  unfold pmP; rw [List.map_set]; congr 1; rw [if_neg (by omega)]
theorem smP_set (P : List Int) (k : Nat) {v : Int} (h : ¬ v = -2) : (smP P).set k true = smP (P.set k v) := by
  unfold smP; rw [List.map_set]; congr 1; simp [h]
theorem pmP_root (n : Nat) (a : Int) : pmP (roots n [a]) = List.replicate n (-1) := by
  have e : roots n [a] = (List.replicate n (-2 : Int)).set a.toNat (-1) := rfl
  rw [e]; unfold pmP; rw [List.map_set]
  apply List.ext_getElem (by simp)
  intro i h1 h2
  rw [List.getElem_set]
  split <;> simp
theorem smP_root (n : Nat) (a : Int) : smP (roots n [a]) = (List.replicate n false).set a.toNat true := by
  have e : roots n [a] = (List.replicate n (-2 : Int)).set a.toNat (-1) := rfl
  rw [e]; unfold smP; rw [List.map_set, List.map_replicate]; rfl
structure QMem (b6 b7 : Nat) (j6 j7 : List D) (x : SQ) : Prop where
  m6 : x.H b6 = some (cat cI (pmP x.s.1) ++ j6)
  m7 : x.H b7 = some (cat cB (smP x.s.1) ++ j7)
  mq : x.H x.q = some (cat cI x.s.2 ++ List.replicate x.j .any)
  n6 : ¬ x.q = b6
  n7 : ¬ x.q = b7
  r1 : x.s.2.length ≤ x.cp
  r2 : x.cp ≤ x.s.2.length + x.j

theorem rep_snoc (k : Nat) : cat cI (List.replicate k (-1 : Int)) ++ [.int .i64 (-1)] = cat cI (List.replicate (k + 1) (-1)) := by rw [snoc_cI, List.replicate_succ']
set_option maxHeartbeats 1000000 in

theorem l4Search_pure (nx : List (List Int)) (a : Int) (hx : NextOk nx) (hl : NextS nx) (h0 : 0 ≤ a) (h1 : a < nx.length) (hn : nx.length ≤ 1048576) : Pure Try.prog 146 [li cL nx, .int .i64 a] (.tup [fr 1 cI (pmP (bfsE nx [a]).1), fr 1 cI (bfsE nx [a]).2]) := by
  refine Pure.of_walk Try.func146 rfl (by simp [Try.f146]) (by simp [-List.drop_one, go_sem]) fun B hK => ?_
  (repeat' (first
    | refine AW_seq ?_
    | refine AW_region (id := 0) Γg17_ok [] (by kernel_rfl) ?_; simp  [-List.getD_eq_getElem?_getD, -List.drop_one, ↓splitB_true, ↓splitB_false, go_sem]
    | refine AW_region (id := 1) Γg17_ok [] (by kernel_rfl) ?_; simp  [-List.getD_eq_getElem?_getD, -List.drop_one, ↓splitB_true, ↓splitB_false, go_sem]
    | refine AW_region (id := 2) Γg17_ok [] (by kernel_rfl) ?_; simp  [-List.getD_eq_getElem?_getD, -List.drop_one, ↓splitB_true, ↓splitB_false, go_sem, (by omega : (nx.length : Int) ≤ 281474976710656), (by omega : (nx.length : Int) ≤ 9223372036854775807), make_cB]
    | refine AW_region (id := 3) Γg17_ok [] (by kernel_rfl) ?_; simp  [-List.getD_eq_getElem?_getD, -List.drop_one, ↓splitB_true, ↓splitB_false, go_sem]
    | refine AW_region (id := 4) Γg17_ok [] (by kernel_rfl) ?_; simp  [-List.getD_eq_getElem?_getD, -List.drop_one, ↓splitB_true, ↓splitB_false, go_sem]
    | refine AW_region (id := 6) Γg17_ok [] (by kernel_rfl) ?_; simp  [-List.getD_eq_getElem?_getD, -List.drop_one, ↓splitB_true, ↓splitB_false, go_sem, rep_snoc, (show k + 1 ≤ 9223372036854775807 by omega), (show 2 * (k + 1) * 8 ≤ 281474976710656 by omega)]
    | refine AW_region (id := 5) Γg17_ok [] (by kernel_rfl) ?_; simp  [-List.getD_eq_getElem?_getD, -List.drop_one, ↓splitB_true, ↓splitB_false, go_sem, wrapS (k := k) (by omega)]
    | refine AW_region (id := 7) Γg17_ok [] (by kernel_rfl) ?_; simp  [-List.getD_eq_getElem?_getD, -List.drop_one, ↓splitB_true, ↓splitB_false, go_sem]; try (have hkn : k = nx.length := (by omega); (subst hkn); (refine AW_mat 6 rfl fun b6 c6 j6 q6 hc6 hd6 => ?_); (refine AW_mat 7 rfl fun b7 c7 j7 q7 hc7 hd7 => ?_); (refine AW_mat 9 rfl fun q cq jq hq hcq hdq => ?_); (dsimp only at q7 hq); (have n76 : ¬ b7 = b6 := ne_of_fresh q7 (upd_eq ..)); (have nq7 : ¬ q = b7 := ne_of_fresh hq (upd_eq ..)); (have nq6 : ¬ q = b6 := ne_of_fresh hq (by rw [upd_ne (Ne.symm n76), upd_eq])); (clear q6 q7 hq); (have hS := Starts.one h0 h1); (simp [go_sem]))
    | refine AW_region (id := 8) Γg17_ok [] (by kernel_rfl) ?_; simp  [-List.getD_eq_getElem?_getD, -List.drop_one, ↓splitB_true, ↓splitB_false, go_sem, n76, Ne.symm n76, nq7, Ne.symm nq7, nq6, Ne.symm nq6, (show a.toNat < nx.length by omega), h0, h1, (show a.toNat < nx.length + j7 by omega), (show a.toNat + 1 ≤ nx.length + j7 by omega)]
    | refine AW_region (id := 9) Γg17_ok [] (by kernel_rfl) ?_; simp  [-List.getD_eq_getElem?_getD, -List.drop_one, ↓splitB_true, ↓splitB_false, go_sem]; try ((refine AW_gen (fun H1 => QMem b6 b7 (List.replicate j6 .any) (List.replicate j7 .any) ⟨0, bfs0 nx.length [a], q, cq, jq, H1⟩) ⟨by simp [upd, n76, Ne.symm n76, nq7, Ne.symm nq7, nq6, Ne.symm nq6, bfs0, pmP_root, smP_root, cat, cI], by simp [upd, n76, Ne.symm n76, nq7, Ne.symm nq7, nq6, Ne.symm nq6, bfs0, pmP_root, smP_root, cat, cI], by simp [upd, n76, Ne.symm n76, nq7, Ne.symm nq7, nq6, Ne.symm nq6, bfs0, pmP_root, smP_root, cat, cI], nq6, nq7, by simpa [bfs0] using hcq, by simpa [bfs0] using hdq⟩ fun H1 hH1 => ?_))
    | refine AW_region (id := 10) Γg17_ok [] (by kernel_rfl) ?_; simp  [-List.getD_eq_getElem?_getD, -List.drop_one, ↓splitB_true, ↓splitB_false, go_sem]
    | refine AW_region (id := 12) Γg17_ok [] (by kernel_rfl) ?_; simp  [-List.getD_eq_getElem?_getD, -List.drop_one, ↓splitB_true, ↓splitB_false, go_sem]; try ((have hu := hB.rng x.k c34); (have hxu := hx (nth x.s.2 x.k).toNat (by omega)); (have hul : (nth x.s.2 x.k).toNat < nx.length := (by omega)); (have hls := hl _ hul))
    | (have m6 := e3.m6; have m7 := e3.m7; have mq := e3.mq; have n6 := e3.n6; have n7 := e3.n7; have r1 := e3.r1; have r2 := e3.r2); refine AW_region (id := 13) Γg17_ok [] (by kernel_rfl) ?_; simp  [-List.getD_eq_getElem?_getD, -List.drop_one, ↓splitB_true, ↓splitB_false, go_sem, e6, ne_nil e6, Nat.sub_pos_of_lt e6, mq, e5, hu.1, hu.2, hul, ne_nil hul, Nat.sub_pos_of_lt hul, (show x.k < y.s.2.length + y.j by omega), (show x.k + 1 ≤ y.s.2.length + y.j by omega)]
    | ((generalize hv : nth (nth nx (nth x.s.2 x.k).toNat) y.k = v at *); have hvr := hxu y.k c46; (rw [hv] at hvr); have hvn : v.toNat < nx.length := (by omega)); refine AW_region (id := 15) Γg17_ok [] (by kernel_rfl) ?_; simp  [-List.getD_eq_getElem?_getD, -List.drop_one, ↓splitB_true, ↓splitB_false, go_sem, e6, ne_nil e6, Nat.sub_pos_of_lt e6, mq, e5, hu.1, hu.2, hul, ne_nil hul, Nat.sub_pos_of_lt hul, c46, ne_nil c46, Nat.sub_pos_of_lt c46, hv, (show x.k < y.s.2.length + y.j by omega), (show x.k + 1 ≤ y.s.2.length + y.j by omega)]
    | refine AW_region (id := 16) Γg17_ok [] (by kernel_rfl) ?_; simp  [-List.getD_eq_getElem?_getD, -List.drop_one, ↓splitB_true, ↓splitB_false, go_sem, m7, hvr.1, hvr.2, hvn, e7, nth_smP (P := y.s.1) (k := v.toNat) (by omega), (show v.toNat < nx.length + j7 by omega), (show v.toNat + 1 ≤ nx.length + j7 by omega)]
    | refine AW_region (id := 17) Γg17_ok [] (by kernel_rfl) ?_; simp  [-List.getD_eq_getElem?_getD, -List.drop_one, ↓splitB_true, ↓splitB_false, go_sem, m7, hvr.1, hvr.2, hvn, e7, (show v.toNat < nx.length + j7 by omega), (show v.toNat + 1 ≤ nx.length + j7 by omega)]
    | refine AW_region (id := 18) Γg17_ok [] (by kernel_rfl) ?_; simp  [-List.getD_eq_getElem?_getD, -List.drop_one, ↓splitB_true, ↓splitB_false, go_sem, m6, mq, n76, Ne.symm n76, n6, n7, Ne.symm n6, Ne.symm n7, hvr.1, hvr.2, hvn, e7, e6, ne_nil e6, Nat.sub_pos_of_lt e6, e5, (show v.toNat < nx.length + j6 by omega), (show v.toNat + 1 ≤ nx.length + j6 by omega), (show x.k < y.s.2.length + y.j by omega), (show x.k + 1 ≤ y.s.2.length + y.j by omega)]
    | refine AW_region (id := 19) Γg17_ok [] (by kernel_rfl) ?_; simp  [-List.getD_eq_getElem?_getD, -List.drop_one, ↓splitB_true, ↓splitB_false, go_sem, mq, n6, n7, Ne.symm n6, Ne.symm n7, snoc_cI, (show y.s.2.length ≤ y.s.2.length + y.j by omega), r2, (show y.s.2.length + 1 ≤ 9223372036854775807 by omega), (show 2 * (y.s.2.length + 1) * 8 ≤ 281474976710656 by omega), cat_take_app1]; try ((refine AW_mat 9 rfl fun q' cp' jj' hq' hc' hd' => ?_); (dsimp only at hq'); (have k7 : ¬ q' = b7 := (by rintro rfl; simp [upd, n7, Ne.symm n7, n76, Ne.symm n76] at hq')); (have k6 : ¬ q' = b6 := (by rintro rfl; simp [upd, n6, Ne.symm n6, n76, Ne.symm n76] at hq')); (refine AW_gen (fun H2 => QMem b6 b7 (List.replicate j6 .any) (List.replicate j7 .any) ⟨y.k + 1, ((y.s.1.set v.toNat (nth x.s.2 x.k), y.s.2 ++ [v]) : PQ), q', cp', jj', H2⟩) ⟨by simp [upd, n76, Ne.symm n76, k7, Ne.symm k7, k6, Ne.symm k6, n6, n7, Ne.symm n6, Ne.symm n7, pmP_set _ _ hu.1, smP_set y.s.1 v.toNat (show ¬ nth x.s.2 x.k = -2 by omega)], by simp [upd, n76, Ne.symm n76, k7, Ne.symm k7, k6, Ne.symm k6, n6, n7, Ne.symm n6, Ne.symm n7, pmP_set _ _ hu.1, smP_set y.s.1 v.toNat (show ¬ nth x.s.2 x.k = -2 by omega)], by simp [upd, n76, Ne.symm n76, k7, Ne.symm k7, k6, Ne.symm k6, n6, n7, Ne.symm n6, Ne.symm n7, pmP_set _ _ hu.1, smP_set y.s.1 v.toNat (show ¬ nth x.s.2 x.k = -2 by omega)], k6, k7, by simpa using hc', by simpa using hd'⟩ fun H2 hH2 => ?_))
    | refine AW_region (id := 14) Γg17_ok [] (by kernel_rfl) ?_; simp  [-List.getD_eq_getElem?_getD, -List.drop_one, ↓splitB_true, ↓splitB_false, go_sem, wrapS (k := y.k) (by omega)]
    | refine AW_region (id := 11) Γg17_ok [] (by kernel_rfl) ?_; simp  [-List.getD_eq_getElem?_getD, -List.drop_one, ↓splitB_true, ↓splitB_false, go_sem, wrapS (k := x.k) (by omega)]
    | ((obtain ⟨kx, sx, qx, cx, jx, Hx⟩ := x); (try dsimp only at *); (have hE : sx = bfsE nx [a] := (by rw [g2]; exact bfs_last (by rw [← g2]; omega) (by omega))); (subst hE); (have hle3 := hB.len); have m6 := g3.m6; have m7 := g3.m7; have mq := g3.mq; have n6 := g3.n6; have n7 := g3.n7; have r1 := g3.r1; have r2 := g3.r2; (try dsimp only at *); (refine AW_unmat 6 (b := b6) (all := cat cI (pmP (bfsE nx [a]).1) ++ List.replicate j6 .any) rfl m6 (by omega) (by simp [cat_length, pmP_len, hle3]) (by simp [cat_length, pmP_len, hle3]; omega) ?_); (refine AW_unmat 9 (b := qx) (all := cat cI (bfsE nx [a]).2 ++ List.replicate jx .any) rfl (by dsimp only; rw [upd_ne n6]; exact mq) (by omega) (by simp [cat_length]) (by simp [cat_length]; omega) ?_)); refine AW_region (id := 20) Γg17_ok [] (by kernel_rfl) ?_; simp  [-List.getD_eq_getElem?_getD, -List.drop_one, ↓splitB_true, ↓splitB_false, go_sem, hle3, cat_take_app1c (f := cI) (pmP (bfsE nx [a]).1) (List.replicate j6 .any) (n := nx.length) (by rw [pmP_len, hle3])]
    | refine AW_condA (c := .tmp 20) ?_; simp [-List.getD_eq_getElem?_getD, -List.drop_one, ↓splitB_true, ↓splitB_false, go_sem]; try first | (refine ⟨?_, ?_⟩ <;> change AW _ _ _ _ _ _) | (refine ⟨fun c20 => ?_, fun c20 => ?_⟩ <;> (try simp [B_iff, B_not] at c20))
    | refine AW_condA (c := .tmp 34) ?_; simp [-List.getD_eq_getElem?_getD, -List.drop_one, ↓splitB_true, ↓splitB_false, go_sem]; try first | (refine ⟨?_, ?_⟩ <;> change AW _ _ _ _ _ _) | (refine ⟨fun c34 => ?_, fun c34 => ?_⟩ <;> (try simp [B_iff, B_not] at c34))
    | refine AW_condA (c := .tmp 46) ?_; simp [-List.getD_eq_getElem?_getD, -List.drop_one, ↓splitB_true, ↓splitB_false, go_sem]; try first | (refine ⟨?_, ?_⟩ <;> change AW _ _ _ _ _ _) | (refine ⟨fun c46 => ?_, fun c46 => ?_⟩ <;> (try simp [B_iff, B_not] at c46))
    | refine AW_condA (c := .tmp 63) ?_; simp [-List.getD_eq_getElem?_getD, -List.drop_one, ↓splitB_true, ↓splitB_false, go_sem]; try first | (refine ⟨?_, ?_⟩ <;> change AW _ _ _ _ _ _) | (refine ⟨fun c63 => ?_, fun c63 => ?_⟩ <;> (try simp [B_iff, B_not] at c63))
    | (refine AW_block (id := 0) (AW_loop (ι := Nat) (fun k : Nat => ⟨(upd (upd (upd (upd (upd (fun _ => .any) 0 (li cL nx)) 1 (.int .i64 a)) 6 (.fr 1 k (cat cI (List.replicate k (-1))))) 7 (.fr 1 nx.length (cat cB (List.replicate nx.length false)))) 8 (.int .i64 k)), fun _ => none⟩) (fun k => k ≤ nx.length) (fun k => nx.length - k) (0) ?_ ?_ ?_); exact Nat.zero_le _; ((repeat' (first | exact sub_noneH (by assumption) | exact sub_none | refine sub_upd ?_ ?_ | refine sub_noneE ?_)) <;> simp [-List.getD_eq_getElem?_getD, -List.drop_one, ↓splitB_true, ↓splitB_false, go_sem]); rintro k hk)
    | (refine ⟨k + 1, by omega, by first | omega | (simp; done) | (simp; omega), ?_⟩; ((repeat' (first | exact sub_noneH (by assumption) | exact sub_none | refine sub_upd ?_ ?_ | refine sub_noneE ?_)) <;> simp [-List.getD_eq_getElem?_getD, -List.drop_one, ↓splitB_true, ↓splitB_false, go_sem]))
    | (refine AW_block (id := 2) (AW_loop (ι := SQ) (fun x : SQ => ⟨(upd (upd (upd (upd (upd (upd (fun _ => .any) 0 (li cL nx)) 1 (.int .i64 a)) 6 (.sl b6 1 0 nx.length c6)) 7 (.sl b7 1 0 nx.length c7)) 9 (.sl x.q 1 0 x.s.2.length x.cp)) 10 (.int .i64 x.k)), x.H⟩) (fun x => x.k ≤ x.s.2.length ∧ x.s = bfs nx x.k (bfs0 nx.length [a]) ∧ QMem b6 b7 (List.replicate j6 .any) (List.replicate j7 .any) x) (fun x => nx.length - x.k) (⟨0, bfs0 nx.length [a], q, cq, jq, H1⟩) ?_ ?_ ?_); exact ⟨Nat.zero_le _, rfl, hH1⟩; ((repeat' (first | exact sub_noneH (by assumption) | exact sub_none | refine sub_upd ?_ ?_ | refine sub_noneE ?_)) <;> simp [-List.getD_eq_getElem?_getD, -List.drop_one, ↓splitB_true, ↓splitB_false, go_sem, bfs0]); rintro x ⟨g1, g2, g3⟩; have hB := (bfs_ok hx (Bf.start hS) x.k).1; (rw [← g2] at hB); have hle := hB.le)
    | (refine ⟨⟨x.k + 1, y.s, y.q, y.cp, y.j, y.H⟩, ⟨by dsimp only; omega, by dsimp only; (have qe : y.k = (nth nx (nth x.s.2 x.k).toNat).length := by omega); rw [qe, List.take_length] at e2; rw [e2, bfs_succ (by rw [← g2]; exact c34), ← g2], ⟨e3.m6, e3.m7, e3.mq, e3.n6, e3.n7, e3.r1, e3.r2⟩⟩, by first | omega | (simp; done) | (simp; omega), ?_⟩; ((repeat' (first | exact sub_noneH (by assumption) | exact sub_none | refine sub_upd ?_ ?_ | refine sub_noneE ?_)) <;> simp [-List.getD_eq_getElem?_getD, -List.drop_one, ↓splitB_true, ↓splitB_false, go_sem, ]))
    | (refine AW_block (id := 4) (AW_loop (ι := SQ) (fun y : SQ => ⟨(upd (upd (upd (upd (upd (upd (upd (fun _ => .any) 0 (li cL nx)) 1 (.int .i64 a)) 6 (.sl b6 1 0 nx.length c6)) 7 (.sl b7 1 0 nx.length c7)) 9 (.sl y.q 1 0 y.s.2.length y.cp)) 10 (.int .i64 x.k)) 11 (.int .i64 y.k)), y.H⟩) (fun y => y.k ≤ (nth nx (nth x.s.2 x.k).toNat).length ∧ y.s = meets (nth x.s.2 x.k) ((nth nx (nth x.s.2 x.k).toNat).take y.k) x.s ∧ QMem b6 b7 (List.replicate j6 .any) (List.replicate j7 .any) y) (fun y => (nth nx (nth x.s.2 x.k).toNat).length - y.k) (⟨0, x.s, x.q, x.cp, x.j, x.H⟩) ?_ ?_ ?_); exact ⟨Nat.zero_le _, by simp [meets], ⟨g3.m6, g3.m7, g3.mq, g3.n6, g3.n7, g3.r1, g3.r2⟩⟩; ((repeat' (first | exact sub_noneH (by assumption) | exact sub_none | refine sub_upd ?_ ?_ | refine sub_noneE ?_)) <;> simp [-List.getD_eq_getElem?_getD, -List.drop_one, ↓splitB_true, ↓splitB_false, go_sem]); rintro y ⟨e1, e2, e3⟩; (obtain ⟨hC, hL⟩ := meets_ok hB c34 hxu y.k e1); (rw [← e2] at hC hL); have hl2 := hL.le; have e5 := hL.nth c34; have e6 : x.k < y.s.2.length := (by omega); have hle2 := hC.le; have e7 := hC.len)
    | (refine ⟨⟨y.k + 1, ((y.s.1.set v.toNat (nth x.s.2 x.k), y.s.2 ++ [v]) : PQ), q', cp', jj', H2⟩, ⟨by dsimp only; omega, by dsimp only; rw [meets_succ _ c46, ← e2, hv, meet1, if_pos (by assumption)], hH2⟩, by first | omega | (simp; done) | (simp; omega), ?_⟩; ((repeat' (first | exact sub_noneH (by assumption) | exact sub_none | refine sub_upd ?_ ?_ | refine sub_noneE ?_)) <;> simp [-List.getD_eq_getElem?_getD, -List.drop_one, ↓splitB_true, ↓splitB_false, go_sem]))
    | (refine AW_block ?_)
    | (refine AW_exit ?_; simp [-List.getD_eq_getElem?_getD, -List.drop_one, ↓splitB_true, ↓splitB_false, go_sem])
    | (refine AW_skip ?_; simp [-List.getD_eq_getElem?_getD, -List.drop_one, ↓splitB_true, ↓splitB_false, go_sem])
    | (refine AW_ret ?_; simp [-List.getD_eq_getElem?_getD, -List.drop_one, ↓splitB_true, ↓splitB_false, go_sem, Try.results146])
    | (intro hx; change AW _ _ _ _ _ _)
    | (refine ⟨?_, ?_⟩ <;> change AW _ _ _ _ _ _)
    | (intro hx; refine ⟨fun hs => ?_, fun hs => ?_⟩)
    | (refine ⟨fun hs => ?_, fun hs => ?_⟩)
    | (refine ⟨?_, fun hs => ?_⟩; change AW _ _ _ _ _ _)
    | (refine ⟨fun hs => ?_, ?_⟩; rotate_left; change AW _ _ _ _ _ _; rotate_left)
    | (refine ⟨⟨y.k + 1, y.s, y.q, y.cp, y.j, y.H⟩, ⟨by dsimp only; omega, by dsimp only; rw [meets_succ _ c46, ← e2, hv, meet1, if_neg (by assumption)], ⟨e3.m6, e3.m7, e3.mq, e3.n6, e3.n7, e3.r1, e3.r2⟩⟩, by dsimp only; omega, ?_⟩; ((repeat' (first | exact sub_noneH (by assumption) | exact sub_none | refine sub_upd ?_ ?_ | refine sub_noneE ?_)) <;> simp [-List.getD_eq_getElem?_getD, -List.drop_one, go_sem]))))
noncomputable def l4Search_pureC : Con := .pure fun
  | [.list n_nx c_nx, .int .i64 a] => ((Is cL n_nx c_nx) ∧ (NextOk (de cL c_nx)) ∧ (NextS (de cL c_nx)) ∧ (0 ≤ a) ∧ (a < (de cL c_nx).length) ∧ ((de cL c_nx).length ≤ 1048576), .tup [fr 1 cI (pmP (bfsE (de cL c_nx) [a]).1), fr 1 cI (bfsE (de cL c_nx) [a]).2])
  | _ => (False, .any)
attribute [go_sem] l4Search_pureC
theorem l4Search_pureC_ok : ConOk Try.prog 146 l4Search_pureC := by
  refine ⟨callable Try.func146 (by decide) rfl, fun args h => ?_⟩
  revert h
  dsimp only
  split
  · intro h
    obtain ⟨⟨nx, rfl, rfl⟩, hx, hl, h0, h1, hn⟩ := h
    try simp only [de_cat] at *
    exact ⟨l4Search_pure nx _ hx hl h0 h1 hn, by simp [go_sem]⟩
  · intro h
    exact h.elim
noncomputable def Γs1 : FuncId → Con := ext Γg17 146 l4Search_pureC
attribute [go_sem] Γs1
theorem Γs1_ok : ∀ g, ConOk Try.prog g (Γs1 g) := ext_ok Γg17_ok l4Search_pureC_ok

end Go.Proofs.Ytoklpofekcclhaa.Vm

