import Derived.Test.YtkjimmkemnmajaaN3
/-
  spec.l7Next. No conditions.
-/
namespace Go.Proofs.Ytkjimmkemnmajaa.Vm
open Go
open Nat renaming sub_pos_of_lt → zsP
open List renaming getD_eq_getElem?_getD → zg, drop_one → zd, replicate → zrP
open Ne renaming symm → zS
noncomputable section
set_option linter.unusedVariables false
set_option linter.unusedSimpArgs false
set_option maxRecDepth 200000

@[go_sem] def Γn4 : FuncId → Con := Γn3
theorem Zh : ∀ g, ConOk Try.prog g (Γn4 g) := Γn3_ok

theorem zamg (n : Nat) (ss : List Int) : ∀ k, k ≤ ss.length → Zj n ss k = smP (roots n (ss.take k))
  | 0, _ => by rw [zafw]; simp [roots, smP]
  | k + 1, h => by rw [← zafx (by omega), zamg n ss k (by omega), roots_take (by omega), smP_set _ _ (v := -1) (by omega)]
theorem marksK_fresh {nx : List (List Int)} {ss : List Int} (hS : Starts nx.length ss) {k : Nat} (h : k < ss.length) : nth (Zj nx.length ss k) (nth ss k).toNat = false := by
  have hs : ∀ x, x ∈ ss → Nd nx x := hS.1
  have := marksK_mk hs k (by omega) (nth ss k) (hs _ (Xl h))
  cases hb : nth (Zj nx.length ss k) (nth ss k).toNat with
  | false => rfl
  | true =>
    exfalso
    have hm := this.1 hb
    rw [Vn] at hm
    obtain ⟨i, h1, h2⟩ := hm
    rw [List.length_take] at h1
    rw [Zx (by omega), Qw (by omega), Qw h] at h2
    have := (List.nodup_iff_pairwise_ne.1 hS.2)
    rw [List.pairwise_iff_getElem] at this
    exact this i k (by omega) h (by omega) h2
structure QM5 (b5 : Nat) (j5 : List D) (x : SQ) : Prop where
  m5 : x.H b5 = some (cat cB (smP x.s.1) ++ j5)
  mq : x.H x.q = some (cat cI x.s.2 ++ zrP x.j .any)
  n5 : ¬ x.q = b5
  r1 : x.s.2.length ≤ x.cp
  r2 : x.cp ≤ x.s.2.length + x.j
set_option maxHeartbeats 2000000 in

theorem l7Reach_pure (nx : List (List Int)) (ss : List Int) (hx : Xh nx) (hl : NextS nx) (hn : nx.length ≤ 1048576) (hS : Starts nx.length ss) (hsl : ss.length ≤ nx.length) : Pure Try.prog 127 [li cL nx, li cI ss] (fr 1 cI (bfsE nx ss).2) := by
  refine Pure.of_walk Try.func127 rfl (by simp [Try.f127]) (by simp [-zd, go_sem]) fun B hK => ?_
  (repeat' (first
 | refine Qu ?_
 | refine Qc (id := 0) Zh [] (by kernel_rfl) ?_; simp [-zg, -zd, ↓Qb, ↓Qa, go_sem]
 | refine Qc (id := 1) Zh [] (by kernel_rfl) ?_; simp [-zg, -zd, ↓Qb, ↓Qa, go_sem, make_cB, (by omega : (nx.length : Int) ≤ 281474976710656), (by omega : (nx.length : Int) ≤ 9223372036854775807)]
 | refine Qc (id := 2) Zh [] (by kernel_rfl) ?_; simp [-zg, -zd, ↓Qb, ↓Qa, go_sem]
 | refine Qc (id := 3) Zh [] (by kernel_rfl) ?_; simp [-zg, -zd, ↓Qb, ↓Qa, go_sem]; try ((refine Zk 5 rfl fun b5 c5 j5 q5 hc5 hj5 => ?_); (clear q5); (refine Qx (fun H1 => H1 b5 = some (cat cB (Zj nx.length ss 0) ++ zrP j5 D.any)) (by simp [upd, zafw]) fun H1 w5 => ?_))
 | refine Qc (id := 4) Zh [] (by kernel_rfl) ?_; simp [-zg, -zd, ↓Qb, ↓Qa, go_sem]
 | ((obtain ⟨p0, p1⟩ := hS.1 (nth ss q.1) (Xl c18)); (have hml := zaex nx.length ss q.1); (have hst := zafx (n := nx.length) c18); (have hfr := marksK_fresh hS c18); (have hts := zalm c18)); refine Qc (id := 6) Zh [] (by kernel_rfl) ?_; simp [-zg, -zd, ↓Qb, ↓Qa, go_sem, c18, Qm c18, zsP c18, g2, hml, p0, p1, hfr, (show (nth ss q.1).toNat < nx.length by omega), (show (nth ss q.1).toNat < nx.length + j5 by omega), (show (nth ss q.1).toNat + 1 ≤ nx.length + j5 by omega)]
 | refine Qc (id := 7) Zh [] (by kernel_rfl) ?_; simp [-zg, -zd, ↓Qb, ↓Qa, go_sem, c18, Qm c18, zsP c18, g2, hml, p0, p1, (show (nth ss q.1).toNat < nx.length by omega), (show (nth ss q.1).toNat < nx.length + j5 by omega), (show (nth ss q.1).toNat + 1 ≤ nx.length + j5 by omega)]; try ((refine Qx (fun H1 => H1 b5 = some (cat cB (Zj nx.length ss (q.1 + 1)) ++ zrP j5 D.any)) (by simp [upd, hst]) fun H9 t5 => ?_))
 | refine Qc (id := 8) Zh [] (by kernel_rfl) ?_; simp [-zg, -zd, ↓Qb, ↓Qa, go_sem, c18, Qm c18, zsP c18, hts, (show q.1 ≤ 9223372036854775806 by omega), (show 2 * (q.1 + 1) * 8 ≤ 281474976710656 by omega), (show q.1 + 1 ≤ 9223372036854775807 by omega)]
 | refine Qc (id := 5) Zh [] (by kernel_rfl) ?_; simp [-zg, -zd, ↓Qb, ↓Qa, go_sem, wrapS (k := q.1) (by omega)]
 | ((obtain ⟨kx, H2⟩ := q); (dsimp only at *); (obtain rfl : kx = ss.length := by omega)); refine Qc (id := 9) Zh [] (by kernel_rfl) ?_; simp [-zg, -zd, ↓Qb, ↓Qa, go_sem]; try ((refine Zk 6 rfl fun q cq jq hq hcq hdq => ?_); (dsimp only at hq); (have n5 : ¬ q = b5 := (by rintro rfl; rw [g2] at hq; cases hq)); (clear hq); (have hmr := zamg nx.length ss ss.length (Nat.le_refl _)); (rw [List.take_length] at hmr); (refine Qx (fun H1 => QM5 b5 (zrP j5 D.any) ⟨0, bfs0 nx.length ss, q, cq, jq, H1⟩) ⟨by simp [upd, n5, zS n5, bfs0, g2, hmr], by simp [upd, bfs0], n5, by simpa [bfs0] using hcq, by simpa [bfs0] using hdq⟩ fun H3 hH1 => ?_))
 | refine Qc (id := 10) Zh [] (by kernel_rfl) ?_; simp [-zg, -zd, ↓Qb, ↓Qa, go_sem]
 | refine Qc (id := 12) Zh [] (by kernel_rfl) ?_; simp [-zg, -zd, ↓Qb, ↓Qa, go_sem]; try ((have hu := hB.rng x.k c45); (have hxu := hx (nth x.s.2 x.k).toNat (by omega)); (have hul : (nth x.s.2 x.k).toNat < nx.length := (by omega)); (have hls := hl _ hul))
 | (have m5 := e3.m5; have mq := e3.mq; have n5 := e3.n5; have r1 := e3.r1; have r2 := e3.r2); refine Qc (id := 13) Zh [] (by kernel_rfl) ?_; simp [-zg, -zd, ↓Qb, ↓Qa, go_sem, e6, Qm e6, zsP e6, mq, e5, hu.1, hu.2, hul, Qm hul, zsP hul, (show x.k < y.s.2.length + y.j by omega), (show x.k + 1 ≤ y.s.2.length + y.j by omega)]
 | ((generalize hv : nth (nth nx (nth x.s.2 x.k).toNat) y.k = v at *); have hvr := hxu y.k c57; (rw [hv] at hvr); have hvn : v.toNat < nx.length := (by omega)); refine Qc (id := 15) Zh [] (by kernel_rfl) ?_; simp [-zg, -zd, ↓Qb, ↓Qa, go_sem, e6, Qm e6, zsP e6, mq, e5, hu.1, hu.2, hul, Qm hul, zsP hul, c57, Qm c57, zsP c57, hv, (show x.k < y.s.2.length + y.j by omega), (show x.k + 1 ≤ y.s.2.length + y.j by omega)]
 | refine Qc (id := 16) Zh [] (by kernel_rfl) ?_; simp [-zg, -zd, ↓Qb, ↓Qa, go_sem, m5, hvr.1, hvr.2, hvn, e7, nth_smP (P := y.s.1) (k := v.toNat) (by omega), (show v.toNat < nx.length + j5 by omega), (show v.toNat + 1 ≤ nx.length + j5 by omega)]
 | refine Qc (id := 17) Zh [] (by kernel_rfl) ?_; simp [-zg, -zd, ↓Qb, ↓Qa, go_sem, m5, hvr.1, hvr.2, hvn, e7, (show v.toNat < nx.length + j5 by omega), (show v.toNat + 1 ≤ nx.length + j5 by omega)]
 | refine Qc (id := 18) Zh [] (by kernel_rfl) ?_; simp [-zg, -zd, ↓Qb, ↓Qa, go_sem, mq, n5, zS n5, Zg, (show y.s.2.length ≤ y.s.2.length + y.j by omega), r2, (show y.s.2.length + 1 ≤ 9223372036854775807 by omega), (show 2 * (y.s.2.length + 1) * 8 ≤ 281474976710656 by omega), Xw]; try ((refine Zk 6 rfl fun q' cp' jj' hq' hc' hd' => ?_); (dsimp only at hq'); (have k5 : ¬ q' = b5 := (by rintro rfl; simp [upd, n5, zS n5] at hq')); (refine Qx (fun H2 => QM5 b5 (zrP j5 D.any) ⟨y.k + 1, ((y.s.1.set v.toNat (nth x.s.2 x.k), y.s.2 ++ [v]) : PQ), q', cp', jj', H2⟩) ⟨by simp [upd, k5, zS k5, n5, zS n5, smP_set y.s.1 v.toNat (show ¬ nth x.s.2 x.k = -2 by omega)], by simp [upd, k5, zS k5, n5, zS n5], k5, by simpa using hc', by simpa using hd'⟩ fun H2 hH2 => ?_))
 | refine Qc (id := 14) Zh [] (by kernel_rfl) ?_; simp [-zg, -zd, ↓Qb, ↓Qa, go_sem, wrapS (k := y.k) (by omega)]
 | refine Qc (id := 11) Zh [] (by kernel_rfl) ?_; simp [-zg, -zd, ↓Qb, ↓Qa, go_sem, wrapS (k := x.k) (by omega)]
 | ((obtain ⟨kx, sx, qx, cx, jx, Hx⟩ := x); (try dsimp only at *); (have hE : sx = bfsE nx ss := (by rw [g2]; exact bfs_last (by rw [← g2]; omega) (by omega))); (subst hE); have mq := g3.mq; have r1 := g3.r1; have r2 := g3.r2; (try dsimp only at *); (refine Uf 6 (b := qx) (all := cat cI (bfsE nx ss).2 ++ zrP jx D.any) rfl mq (by omega) (by simp [Qy]) (by simp [Qy]; omega) ?_)); refine Qc (id := 19) Zh [] (by kernel_rfl) ?_; simp [-zg, -zd, ↓Qb, ↓Qa, go_sem, Xw]
 | refine Qd (c := .tmp 18) ?_; simp [-zg, -zd, ↓Qb, ↓Qa, go_sem]; try first | (refine ⟨?_, ?_⟩ <;> refine zA ?_) | (refine ⟨fun c18 => ?_, fun c18 => ?_⟩ <;> (try simp [B_iff, B_not] at c18))
 | refine Qd (c := .tmp 28) ?_; simp [-zg, -zd, ↓Qb, ↓Qa, go_sem]; try first | (refine ⟨?_, ?_⟩ <;> refine zA ?_) | (refine ⟨fun c28 => ?_, fun c28 => ?_⟩ <;> (try simp [B_iff, B_not] at c28))
 | refine Qd (c := .tmp 45) ?_; simp [-zg, -zd, ↓Qb, ↓Qa, go_sem]; try first | (refine ⟨?_, ?_⟩ <;> refine zA ?_) | (refine ⟨fun c45 => ?_, fun c45 => ?_⟩ <;> (try simp [B_iff, B_not] at c45))
 | refine Qd (c := .tmp 57) ?_; simp [-zg, -zd, ↓Qb, ↓Qa, go_sem]; try first | (refine ⟨?_, ?_⟩ <;> refine zA ?_) | (refine ⟨fun c57 => ?_, fun c57 => ?_⟩ <;> (try simp [B_iff, B_not] at c57))
 | refine Qd (c := .tmp 74) ?_; simp [-zg, -zd, ↓Qb, ↓Qa, go_sem]; try first | (refine ⟨?_, ?_⟩ <;> refine zA ?_) | (refine ⟨fun c74 => ?_, fun c74 => ?_⟩ <;> (try simp [B_iff, B_not] at c74))
 | (refine Qe (id := 0) (Xa (ι := Nat × Hp) (fun q : Nat × Hp => ⟨(upd (upd (upd (upd (upd (fun _ => .any) 0 (li cL nx)) 1 (li cI ss)) 5 (.sl b5 1 0 nx.length c5)) 6 (.fr 1 q.1 (cat cI (ss.take q.1)))) 7 (.int .i64 q.1)), q.2⟩) (fun q => q.1 ≤ ss.length ∧ q.2 b5 = some (cat cB (Zj nx.length ss q.1) ++ zrP j5 D.any)) (fun q => ss.length - q.1) ((0, H1)) ?_ ?_ ?_); exact ⟨Nat.zero_le _, w5⟩; ((repeat' (first | exact Qh (by assumption) | exact Qj | refine Qg ?_ ?_ | refine Qi ?_)) <;> simp [-zg, -zd, ↓Qb, ↓Qa, go_sem, List.take_zero, Xp]); rintro q ⟨g1, g2⟩)
 | (refine ⟨(q.1 + 1, H9), ⟨by dsimp only; omega, t5⟩, by first | omega | (simp; done) | (simp; omega), ?_⟩; ((repeat' (first | exact Qh (by assumption) | exact Qj | refine Qg ?_ ?_ | refine Qi ?_)) <;> simp [-zg, -zd, ↓Qb, ↓Qa, go_sem, ]))
 | (refine Qe (id := 2) (Xa (ι := SQ) (fun x : SQ => ⟨(upd (upd (upd (upd (upd (fun _ => .any) 0 (li cL nx)) 1 (li cI ss)) 5 (.sl b5 1 0 nx.length c5)) 6 (.sl x.q 1 0 x.s.2.length x.cp)) 8 (.int .i64 x.k)), x.H⟩) (fun x => x.k ≤ x.s.2.length ∧ x.s = bfs nx x.k (bfs0 nx.length ss) ∧ QM5 b5 (zrP j5 D.any) x) (fun x => nx.length - x.k) (⟨0, bfs0 nx.length ss, q, cq, jq, H3⟩) ?_ ?_ ?_); exact ⟨Nat.zero_le _, rfl, hH1⟩; ((repeat' (first | exact Qh (by assumption) | exact Qj | refine Qg ?_ ?_ | refine Qi ?_)) <;> simp [-zg, -zd, ↓Qb, ↓Qa, go_sem, bfs0, List.take_length]); rintro x ⟨g1, g2, g3⟩; have hB := (bfs_ok hx (Bf.start hS) x.k).1; (rw [← g2] at hB); have hle := hB.le)
 | (refine ⟨⟨x.k + 1, y.s, y.q, y.cp, y.j, y.H⟩, ⟨by dsimp only; omega, by dsimp only; (have qe : y.k = (nth nx (nth x.s.2 x.k).toNat).length := by omega); rw [qe, List.take_length] at e2; rw [e2, bfs_succ (by rw [← g2]; exact c45), ← g2], ⟨e3.m5, e3.mq, e3.n5, e3.r1, e3.r2⟩⟩, by first | omega | (simp; done) | (simp; omega), ?_⟩; ((repeat' (first | exact Qh (by assumption) | exact Qj | refine Qg ?_ ?_ | refine Qi ?_)) <;> simp [-zg, -zd, ↓Qb, ↓Qa, go_sem, ]))
 | (refine Qe (id := 4) (Xa (ι := SQ) (fun y : SQ => ⟨(upd (upd (upd (upd (upd (upd (fun _ => .any) 0 (li cL nx)) 1 (li cI ss)) 5 (.sl b5 1 0 nx.length c5)) 6 (.sl y.q 1 0 y.s.2.length y.cp)) 8 (.int .i64 x.k)) 9 (.int .i64 y.k)), y.H⟩) (fun y => y.k ≤ (nth nx (nth x.s.2 x.k).toNat).length ∧ y.s = meets (nth x.s.2 x.k) ((nth nx (nth x.s.2 x.k).toNat).take y.k) x.s ∧ QM5 b5 (zrP j5 D.any) y) (fun y => (nth nx (nth x.s.2 x.k).toNat).length - y.k) (⟨0, x.s, x.q, x.cp, x.j, x.H⟩) ?_ ?_ ?_); exact ⟨Nat.zero_le _, by simp [meets], ⟨g3.m5, g3.mq, g3.n5, g3.r1, g3.r2⟩⟩; ((repeat' (first | exact Qh (by assumption) | exact Qj | refine Qg ?_ ?_ | refine Qi ?_)) <;> simp [-zg, -zd, ↓Qb, ↓Qa, go_sem]); rintro y ⟨e1, e2, e3⟩; (obtain ⟨hC, hL⟩ := meets_ok hB c45 hxu y.k e1); (rw [← e2] at hC hL); have hl2 := hL.le; have e5 := hL.nth c45; have e6 : x.k < y.s.2.length := (by omega); have hle2 := hC.le; have e7 := hC.len)
 | (refine ⟨⟨y.k + 1, ((y.s.1.set v.toNat (nth x.s.2 x.k), y.s.2 ++ [v]) : PQ), q', cp', jj', H2⟩, ⟨by dsimp only; omega, by dsimp only; rw [zaht _ c57, ← e2, hv, meet1, if_pos (by assumption)], hH2⟩, by first | omega | (simp; done) | (simp; omega), ?_⟩; ((repeat' (first | exact Qh (by assumption) | exact Qj | refine Qg ?_ ?_ | refine Qi ?_)) <;> simp [-zg, -zd, ↓Qb, ↓Qa, go_sem]))
 | (refine Qe ?_)
 | (refine Qs ?_; simp [-zg, -zd, ↓Qb, ↓Qa, go_sem])
 | (refine Qr ?_; simp [-zg, -zd, ↓Qb, ↓Qa, go_sem])
 | (refine Qv ?_; simp [-zg, -zd, ↓Qb, ↓Qa, go_sem, Try.results127])
 | (intro hx; refine zA ?_)
 | (refine ⟨?_, ?_⟩ <;> refine zA ?_)
 | (intro hx; constructor <;> intro hs)
 | (constructor <;> intro hs)
 | (refine ⟨?_, fun hs => ?_⟩; refine zA ?_)
 | (refine ⟨fun hs => ?_, ?_⟩; rotate_left; refine zA ?_; rotate_left)
 | (refine ⟨⟨y.k + 1, y.s, y.q, y.cp, y.j, y.H⟩, ⟨by dsimp only; omega, by dsimp only; rw [zaht _ c57, ← e2, hv, meet1, if_neg (by assumption)], ⟨e3.m5, e3.mq, e3.n5, e3.r1, e3.r2⟩⟩, by dsimp only; omega, ?_⟩; ((repeat' (first | exact Qh (by assumption) | exact Qj | refine Qg ?_ ?_ | refine Qi ?_)) <;> simp [-zg, -zd, go_sem]))))
@[go_sem] def zafa : Con := .pure fun
  | [.list n_nx c_nx, .list n_ss c_ss] => ((Is cL n_nx c_nx) ∧ (Is cI n_ss c_ss) ∧ (Xh (de cL c_nx)) ∧ (NextS (de cL c_nx)) ∧ ((de cL c_nx).length ≤ 1048576) ∧ (Starts (de cL c_nx).length (de cI c_ss)) ∧ ((de cI c_ss).length ≤ (de cL c_nx).length), fr 1 cI (bfsE (de cL c_nx) (de cI c_ss)).2)
  | _ => (False, .any)
theorem zaml : ConOk Try.prog 127 zafa := by
  refine ⟨Qp Try.func127 (by decide) rfl, fun args h => ?_⟩
  revert h
  dsimp only
  split
  · intro h
    obtain ⟨⟨nx, rfl, rfl⟩, ⟨ss, rfl, rfl⟩, hx, hl, hn, hS, hsl⟩ := h
    try simp only [Qt] at *
    exact ⟨l7Reach_pure nx ss hx hl hn hS hsl, by simp [go_sem]⟩
  · intro h
    exact h.elim
@[go_sem] def Γn5 : FuncId → Con := ext Γn4 127 zafa
theorem Zr : ∀ g, ConOk Try.prog g (Γn5 g) := Qo Zh zaml


structure LQ where
  i : Nat
  m : List Bool
  q : List Int
  b : Nat
  cp : Nat
  j : Nat
  H : Hp
structure LQm (b6 j6 : Nat) (x : LQ) : Prop where
  m6 : x.H b6 = some (cat cB x.m ++ zrP j6 .any)
  mb : x.H x.b = some (cat cI x.q ++ zrP x.j .any)
  nb : ¬ x.b = b6
  r1 : x.q.length ≤ x.cp
  r2 : x.cp ≤ x.q.length + x.j
set_option maxHeartbeats 2000000 in

theorem l7Loop_pure (nx : List (List Int)) (a : Int) (hx : Xh nx) (hl : NextS nx) (hn : nx.length ≤ 1048576) (h0 : 0 ≤ a) (h1 : a < nx.length) : Pure Try.prog 128 [li cL nx, .int .i64 a] (.bool (B (Cyc nx a))) := by
  refine Pure.of_walk Try.func128 rfl (by simp [Try.f128]) (by simp [-zd, go_sem]) fun B hK => ?_
  have hal : a.toNat < nx.length := (by omega); have hrl := hl a.toNat hal; have hnd : Nd nx a := ⟨h0, h1⟩
  all_goals (repeat' (first
 | refine Qu ?_
 | refine Qc (id := 0) Zr [] (by kernel_rfl) ?_; simp [-zg, -zd, ↓Qb, ↓Qa, go_sem]
 | refine Qc (id := 1) Zr [] (by kernel_rfl) ?_; simp [-zg, -zd, ↓Qb, ↓Qa, go_sem]
 | refine Qc (id := 2) Zr [] (by kernel_rfl) ?_; simp [-zg, -zd, ↓Qb, ↓Qa, go_sem, h0, h1, hal, Qm hal, zsP hal]
 | refine Qc (id := 4) Zr [] (by kernel_rfl) ?_; simp [-zg, -zd, ↓Qb, ↓Qa, go_sem, h0, h1, hal, Qm hal, zsP hal, c16, Qm c16, zsP c16]
 | refine Qc (id := 5) Zr [] (by kernel_rfl) ?_; simp [-zg, -zd, ↓Qb, ↓Qa, go_sem]
 | refine Qc (id := 3) Zr [] (by kernel_rfl) ?_; simp [-zg, -zd, ↓Qb, ↓Qa, go_sem, wrapS (k := k) (by omega)]
 | refine Qc (id := 6) Zr [] (by kernel_rfl) ?_; simp [-zg, -zd, ↓Qb, ↓Qa, go_sem, make_cB, (by omega : (nx.length : Int) ≤ 281474976710656), (by omega : (nx.length : Int) ≤ 9223372036854775807)]
 | refine Qc (id := 7) Zr [] (by kernel_rfl) ?_; simp [-zg, -zd, ↓Qb, ↓Qa, go_sem, h0, h1, hal, Qm hal, zsP hal, (show (nth nx a.toNat).length ≤ 9223372036854775807 by omega), (show 2 * (nth nx a.toNat).length * 8 ≤ 281474976710656 by omega)]
 | refine Qc (id := 8) Zr [] (by kernel_rfl) ?_; simp [-zg, -zd, ↓Qb, ↓Qa, go_sem]; try ((refine Zk 6 rfl fun b6 c6 j6 q6 hc6 hj6 => ?_); (refine Zk 7 rfl fun q cq jq hq hcq hdq => ?_); (dsimp only at hq); (have nq : ¬ q = b6 := (by rintro rfl; simp [upd] at hq)); (clear q6 hq); (refine Qx (fun H1 => LQm b6 j6 ⟨0, zrP nx.length false, nth nx a.toNat, q, cq, jq, H1⟩) ⟨by simp [upd, nq, zS nq], by simp [upd, nq, zS nq], nq, hcq, by simpa using hdq⟩ fun H1 hH => ?_))
 | refine Qc (id := 9) Zr [] (by kernel_rfl) ?_; simp [-zg, -zd, ↓Qb, ↓Qa, go_sem]
 | ((have m6 := g3.m6); (have mb := g3.mb); (have nb := g3.nb); (have r1 := g3.r1); (have r2 := g3.r2); (have hbd := g2.bd); (have hun := un_le x.m); (have hml := g2.ln)); refine Qc (id := 11) Zr [] (by kernel_rfl) ?_; simp [-zg, -zd, ↓Qb, ↓Qa, go_sem, mb, c40, Qm c40, zsP c40, (show x.i < x.q.length + x.j by omega), (show x.i + 1 ≤ x.q.length + x.j by omega)]; try ((have hvn := (g2.rq _ (Xl c40)).1); (have hfound := fun e => g2.found c40 e); (have hskip := fun e hm => g2.skip c40 e hm); (have hstep := fun e hm => g2.step hx hl c40 e hm); (have hdec := fun k hk hm l hl2 => lms_step (nx := nx) (R := 1048576) (i := x.i) (m := x.m) (q := x.q) (l := l) c40 (k := k) hk hm hl2); (obtain ⟨v, hv⟩ : ∃ v, nth x.q x.i = v := ⟨_, rfl⟩); (rw [hv] at hvn hfound hskip hstep ⊢); (obtain ⟨v0, v1⟩ := id hvn); (have hvl : v.toNat < nx.length := (by omega)); (have hrv := hl v.toNat hvl))
 | refine Qc (id := 12) Zr [] (by kernel_rfl) ?_; simp [-zg, -zd, ↓Qb, ↓Qa, go_sem]
 | refine Qc (id := 13) Zr [] (by kernel_rfl) ?_; simp [-zg, -zd, ↓Qb, ↓Qa, go_sem]
 | refine Qc (id := 14) Zr [] (by kernel_rfl) ?_; simp [-zg, -zd, ↓Qb, ↓Qa, go_sem, m6, hml, v0, v1, hvl, (show v.toNat < nx.length + j6 by omega), (show v.toNat + 1 ≤ nx.length + j6 by omega)]
 | refine Qc (id := 15) Zr [] (by kernel_rfl) ?_; simp [-zg, -zd, ↓Qb, ↓Qa, go_sem, m6, hml, v0, v1, hvl, (show v.toNat < nx.length + j6 by omega), (show v.toNat + 1 ≤ nx.length + j6 by omega)]
 | refine Qc (id := 16) Zr [] (by kernel_rfl) ?_; simp [-zg, -zd, ↓Qb, ↓Qa, go_sem, mb, nb, zS nb, v0, v1, hvl, Qm hvl, zsP hvl, (Zt (f := cI) x.q (nth nx v.toNat)).symm, (show x.q.length ≤ x.q.length + x.j by omega), r2, (show x.q.length + (nth nx v.toNat).length ≤ 9223372036854775807 by omega), (show x.q.length ≤ 9223372036854775807 by omega), (show (nth nx v.toNat).length ≤ 9223372036854775807 by omega), (show 2 * (x.q.length + (nth nx v.toNat).length) * 8 ≤ 281474976710656 by omega), Xw]; try ((refine Zk 7 rfl fun q' cp' jj' hq' hc' hd' => ?_); (dsimp only at hq'); (have k6 : ¬ q' = b6 := (by rintro rfl; simp [upd, nb, zS nb] at hq')); (refine Qx (fun H2 => LQm b6 j6 ⟨x.i + 1, x.m.set v.toNat true, x.q ++ nth nx v.toNat, q', cp', jj', H2⟩) ⟨by simp [upd, k6, zS k6, nb, zS nb], by simp [upd, k6, zS k6, nb, zS nb], k6, by simpa using hc', by simpa using hd'⟩ fun H2 hH2 => ?_); (have hfal : nth x.m v.toNat = false := (by assumption)); (have hst := hstep (by assumption) hfal); (have hlt := hdec v.toNat (by rw [hml]; exact hvl) hfal _ hrv))
 | refine Qc (id := 10) Zr [] (by kernel_rfl) ?_; simp [-zg, -zd, ↓Qb, ↓Qa, go_sem, wrapS (k := x.i) (by omega)]
 | refine Qc (id := 17) Zr [] (by kernel_rfl) ?_; simp [-zg, -zd, ↓Qb, ↓Qa, go_sem]
 | refine Qd (c := .tmp 16) ?_; simp [-zg, -zd, ↓Qb, ↓Qa, go_sem]; try first | (refine ⟨?_, ?_⟩ <;> refine zA ?_) | (refine ⟨fun c16 => ?_, fun c16 => ?_⟩ <;> (try simp [B_iff, B_not] at c16))
 | refine Qd (c := .tmp 27) ?_; simp [-zg, -zd, ↓Qb, ↓Qa, go_sem]; try first | (refine ⟨?_, ?_⟩ <;> refine zA ?_) | (refine ⟨fun c27 => ?_, fun c27 => ?_⟩ <;> (try simp [B_iff, B_not] at c27))
 | refine Qd (c := .tmp 40) ?_; simp [-zg, -zd, ↓Qb, ↓Qa, go_sem]; try first | (refine ⟨?_, ?_⟩ <;> refine zA ?_) | (refine ⟨fun c40 => ?_, fun c40 => ?_⟩ <;> (try simp [B_iff, B_not] at c40))
 | refine Qd (c := .tmp 49) ?_; simp [-zg, -zd, ↓Qb, ↓Qa, go_sem]; try first | (refine ⟨?_, ?_⟩ <;> refine zA ?_) | (refine ⟨fun c49 => ?_, fun c49 => ?_⟩ <;> (try simp [B_iff, B_not] at c49))
 | refine Qd (c := .tmp 54) ?_; simp [-zg, -zd, ↓Qb, ↓Qa, go_sem]; try first | (refine ⟨?_, ?_⟩ <;> refine zA ?_) | (refine ⟨fun c54 => ?_, fun c54 => ?_⟩ <;> (try simp [B_iff, B_not] at c54))
 | (refine Qe (id := 0) (Xa (ι := Nat) (fun k : Nat => ⟨(upd (upd (upd (fun _ => .any) 0 (li cL nx)) 1 (.int .i64 a)) 5 (.int .i64 k)), fun _ => none⟩) (fun k => k ≤ (nth nx a.toNat).length ∧ AllTill (fun i => ¬ nth (nth nx a.toNat) i = a) k) (fun k => (nth nx a.toNat).length - k) (0) ?_ ?_ ?_); exact ⟨Nat.zero_le _, .zero _⟩; ((repeat' (first | exact Qh (by assumption) | exact Qj | refine Qg ?_ ?_ | refine Qi ?_)) <;> simp [-zg, -zd, ↓Qb, ↓Qa, go_sem]); rintro k ⟨hk, ht⟩)
 | (refine ⟨k + 1, ⟨by omega, ht.succ c27⟩, by first | omega | (simp; done) | (simp; omega), ?_⟩; ((repeat' (first | exact Qh (by assumption) | exact Qj | refine Qg ?_ ?_ | refine Qi ?_)) <;> simp [-zg, -zd, ↓Qb, ↓Qa, go_sem]))
 | (refine Qe (id := 2) (Xa (ι := LQ) (fun x : LQ => ⟨(upd (upd (upd (upd (upd (fun _ => .any) 0 (li cL nx)) 1 (.int .i64 a)) 6 (.sl b6 1 0 nx.length c6)) 7 (.sl x.b 1 0 x.q.length x.cp)) 8 (.int .i64 x.i)), x.H⟩) (fun x => x.i ≤ x.q.length ∧ LI nx a 1048576 x.i x.m x.q ∧ LQm b6 j6 x) (fun x => lms 1048576 x.i x.m x.q) (⟨0, zrP nx.length false, nth nx a.toNat, q, cq, jq, H1⟩) ?_ ?_ ?_); exact ⟨Nat.zero_le _, LI.start hx hnd hl, hH⟩; ((repeat' (first | exact Qh (by assumption) | exact Qj | refine Qg ?_ ?_ | refine Qi ?_)) <;> simp [-zg, -zd, ↓Qb, ↓Qa, go_sem]); rintro x ⟨g1, g2, g3⟩)
 | (refine ⟨⟨x.i + 1, x.m.set v.toNat true, x.q ++ nth nx v.toNat, q', cp', jj', H2⟩, ⟨by simp; omega, hst, hH2⟩, by first | omega | (simp; done) | (simp; omega), ?_⟩; ((repeat' (first | exact Qh (by assumption) | exact Qj | refine Qg ?_ ?_ | refine Qi ?_)) <;> simp [-zg, -zd, ↓Qb, ↓Qa, go_sem]))
 | (refine Qe ?_)
 | (refine Qs ?_; simp [-zg, -zd, ↓Qb, ↓Qa, go_sem])
 | (refine Qr ?_; simp [-zg, -zd, ↓Qb, ↓Qa, go_sem])
 | (refine Qv ?_; simp [-zg, -zd, ↓Qb, ↓Qa, go_sem, Try.results128])
 | (intro hx; refine zA ?_)
 | (refine ⟨?_, ?_⟩ <;> refine zA ?_)
 | (intro hx; constructor <;> intro hs)
 | (constructor <;> intro hs)
 | (refine ⟨?_, fun hs => ?_⟩; refine zA ?_)
 | (refine ⟨fun hs => ?_, ?_⟩; rotate_left; refine zA ?_; rotate_left)
 | (refine ⟨⟨x.i + 1, x.m, x.q, x.b, x.cp, x.j, x.H⟩, ⟨by dsimp only; omega, hskip (by assumption) (mkd_nth (by simp_all)), ⟨g3.m6, g3.mb, g3.nb, g3.r1, g3.r2⟩⟩, lms_skip c40, ?_⟩; ((repeat' (first | exact Qh (by assumption) | exact Qj | refine Qg ?_ ?_ | refine Qi ?_)) <;> simp [-zg, -zd, go_sem]))))
  all_goals (first
 | (refine B_yes ?_; exact ⟨a, by rw [Vn]; exact ⟨k, c16, by assumption⟩, .refl a⟩)
 | (exact B_yes (hfound (by assumption)))
 | (exact B_no (g2.done hx hnd (by omega)))
 | (rw [Vn]; exact ⟨k, c16, by assumption⟩)
 | (exact ⟨a, by rw [Vn]; exact ⟨k, c16, by assumption⟩, .refl a⟩)
 | (exact hfound (by assumption))
 | (exact g2.done hx hnd (by omega))
 | skip)
@[go_sem] def zagu : Con := .pure fun
  | [.list n_nx c_nx, .int .i64 a] => ((Is cL n_nx c_nx) ∧ (Xh (de cL c_nx)) ∧ (NextS (de cL c_nx)) ∧ ((de cL c_nx).length ≤ 1048576) ∧ (0 ≤ a) ∧ (a < (de cL c_nx).length), .bool (B (Cyc (de cL c_nx) a)))
  | _ => (False, .any)
theorem zaoh : ConOk Try.prog 128 zagu := by
  refine ⟨Qp Try.func128 (by decide) rfl, fun args h => ?_⟩
  revert h
  dsimp only
  split
  · intro h
    obtain ⟨⟨nx, rfl, rfl⟩, hx, hl, hn, h0, h1⟩ := h
    try simp only [Qt] at *
    exact ⟨l7Loop_pure nx _ hx hl hn h0 h1, by simp [go_sem]⟩
  · intro h
    exact h.elim
@[go_sem] def Γn6 : FuncId → Con := ext Γn5 128 zagu
theorem Jo : ∀ g, ConOk Try.prog g (Γn6 g) := Qo Zr zaoh

end
end Go.Proofs.Ytkjimmkemnmajaa.Vm

