/-
  FnAcceptsSuffix: the walk of the law. No conditions.
-/
import Derived.Test.YtkjimmkemnmajaaSX1
import Derived.Test.YtkjimmkemnmajaaY11
namespace Go.Proofs.Ytkjimmkemnmajaa.Vm
open Go
open List renaming getD_eq_getElem?_getD → zg, drop_one → zd
set_option linter.unusedVariables false
set_option linter.unusedSimpArgs false
set_option maxRecDepth 200000

noncomputable def Γl4 : FuncId → Con := ext Γx4 46 zade
attribute [go_sem] Γl4
theorem Zj : ∀ g, ConOk Try.prog g (Γl4 g) := Qo Γx4_ok zadq
theorem AutOk.edge {a : List Int} {n : Nat} {c : List Tr4} (h : AutOk a n c) {j : Nat} (hj : j < c.length) : EdgeOk (nth c j) n := h.2.2.2.2 j hj
theorem first_let {s l : List Int} (h : LasOk s l) : 0 ≤ nth (s ++ l) 0 ∧ nth (s ++ l) 0 ≤ 7 := by
  obtain ⟨h1, h2, h3, h4, h5⟩ := h
  by_cases e : 0 < s.length
  · rw [Xn e]; exact h1 0 e
  · rw [zaix (by omega)]
    have := h2 (0 - s.length) (by omega)
    exact this
theorem OkE_iff {a : List Int} {b : List Bool} {c : List Tr4} {s l : List Int} {e1 e2 e3 e4 : Int} : OkE a b c s l (e1, e2, e3, e4) ↔ e1 ∈ a ∧ bitsD .and .i64 (nth (s ++ l) 0) e2 = e3 ∧ acR [e4] b c (suS s l) (suL s l) = true := by
  unfold OkE tk; rw [decide_eq_true_eq]

set_option maxHeartbeats 8000000 in
theorem lawFnSuf (xs : List UInt8)  : Pure Try.prog 10 [li cY xs] (.bool true) := by
  refine Pure.of_walk Try.func10 rfl (by simp [Try.f10]) (by simp [-zd, go_sem]) fun B hK => ?_
  (repeat' (first
 | refine Qs ?_
 | refine Qc (id := 0) Zj [] (by kernel_rfl) ?_; simp [-zg, -zd, ↓Qb, ↓Qa, go_sem]
 | refine Qc (id := 1) Zj [] (by kernel_rfl) ?_; simp [-zg, -zd, ↓Qb, ↓Qa, go_sem]
 | refine Qc (id := 2) Zj [] (by kernel_rfl) ?_; simp [-zg, -zd, ↓Qb, ↓Qa, go_sem]
 | refine Qc (id := 3) Zj [] (by kernel_rfl) ?_; simp [-zg, -zd, ↓Qb, ↓Qa, go_sem]; try ((intro c3); (have x0 := zain xs c3); (generalize (zaaw xs c3) = v at *); (obtain ⟨⟨a, b, c⟩, ⟨s, l⟩⟩ := v); (obtain ⟨⟨y1, y2, y3, y4⟩, x1, x2⟩ := x0); (dsimp only at y1 y2 y3 y4 x1 x2 ⊢); (have hS : Xr c := y4); (refine Xb hK 3 ?_); (simp [go_sem]); (refine Xb hK 4 ?_); (simp [go_sem]); (by_cases hask : AcAsk a b c s l); (rotate_left); rotate_left)
 | refine Qc (id := 4) Zj [] (by kernel_rfl) ?_; simp [-zg, -zd, ↓Qb, ↓Qa, go_sem, hS, B_yes hask]
 | refine Qc (id := 4) Zj [] (by kernel_rfl) ?_; simp [-zg, -zd, ↓Qb, ↓Qa, go_sem, hS, B_no hask]
 | refine Qc (id := 5) Zj [] (by kernel_rfl) ?_; simp [-zg, -zd, ↓Qb, ↓Qa, go_sem, hS, B_yes hask]
 | refine Qc (id := 5) Zj [] (by kernel_rfl) ?_; simp [-zg, -zd, ↓Qb, ↓Qa, go_sem, hS, B_no hask]
 | refine Qc (id := 6) Zj [41, 46] (by kernel_rfl) ?_; simp [-zg, -zd, ↓Qb, ↓Qa, go_sem]; try (refine ⟨fun s6a => ?_, fun s6a => ?_⟩ <;> (try simp [B_iff, B_not] at s6a) <;> try (refine ⟨fun s6b => ?_, fun s6b => ?_⟩ <;> (try simp [B_iff, B_not] at s6b) <;> try (refine ⟨fun s6c => ?_, fun s6c => ?_⟩ <;> (try simp [B_iff, B_not] at s6c))))
 | refine Qc (id := 7) Zj [53] (by kernel_rfl) ?_; simp [-zg, -zd, ↓Qb, ↓Qa, go_sem]; try (refine ⟨fun s7a => ?_, fun s7a => ?_⟩ <;> (try simp [B_iff, B_not] at s7a) <;> try (refine ⟨fun s7b => ?_, fun s7b => ?_⟩ <;> (try simp [B_iff, B_not] at s7b)))
 | ((obtain ⟨hA, hL⟩ := id hask); (have hl0 : 0 < l.length := (by have := hL.2.2.2.1; omega)); (have hx7 : 0 ≤ nth (s ++ l) 0 ∧ nth (s ++ l) 0 ≤ 7 := first_let hL)); refine Qc (id := 8) Zj [] (by kernel_rfl) ?_; simp [-zg, -zd, ↓Qb, ↓Qa, go_sem, hL]; try (by_cases hi : (1 : Int) < (s.length : Int))
 | (first | (have e1 : suS s l = s.drop 1 := if_pos hi; have e2 : suL s l = l := if_pos hi) | (have e1 : suS s l = [] := if_neg hi; have e2 : suL s l = l.drop (turn s l 1) ++ l.take (turn s l 1) := (suL_turn hL).symm.trans (if_neg hi))); refine Qc (id := 9) Zj [] (by kernel_rfl) ?_; simp [-zg, -zd, ↓Qb, ↓Qa, go_sem, hL, hi]; try ((refine Xb hK 11 ?_); (simp [-zd, go_sem, dat, datL, Xd, Zg]))
 | refine Qc (id := 10) Zj [] (by kernel_rfl) ?_; simp [-zg, -zd, ↓Qb, ↓Qa, go_sem]
 | refine Qc (id := 11) Zj [] (by kernel_rfl) ?_; simp [-zg, -zd, ↓Qb, ↓Qa, go_sem]
 | refine Qc (id := 12) Zj [73] (by kernel_rfl) ?_; simp [-zg, -zd, ↓Qb, ↓Qa, go_sem]; try (refine ⟨fun s12a => ?_, fun s12a => ?_⟩ <;> (try simp [B_iff, B_not] at s12a) <;> try (refine ⟨fun s12b => ?_, fun s12b => ?_⟩ <;> (try simp [B_iff, B_not] at s12b)))
 | ((have hq0 : q.2 = false := (by simp_all)); (have hqc : q.1 < c.length := (by omega)); (have hE := hA.edge hqc); (have f3 : ¬ ∃ j, j < q.1 ∧ OkE a b c s l (nth c j) := (fun h => by have := f2.2 h; rw [hq0] at this; cases this)); (obtain ⟨⟨t1, t2, t3, t4⟩, he⟩ : ∃ e, nth c q.1 = e := ⟨_, rfl⟩); (rw [he] at hE); (obtain ⟨k1, k2, k3, k4, k5, k6, k7, k8⟩ := hE); (dsimp only at k1 k2 k3 k4 k5 k6 k7 k8); (have hnew : (∃ j, j < q.1 + 1 ∧ OkE a b c s l (nth c j)) ↔ t1 ∈ a ∧ bitsD .and .i64 (nth (s ++ l) 0) t2 = t3 ∧ acR [t4] b c (suS s l) (suL s l) = true := ⟨fun ⟨j, h1, h2⟩ => (by by_cases e : j = q.1; (subst e; rw [he] at h2; exact OkE_iff.1 h2); exact absurd ⟨j, by omega, h2⟩ f3), fun h => ⟨q.1, by omega, by rw [he]; exact OkE_iff.2 h⟩⟩); (have hask2 : AcAsk [t4] b c (suS s l) (suL s l) := ⟨hA.one k3 k4, suf_ok hL⟩)); refine Qc (id := 14) Zj [] (by kernel_rfl) ?_; simp [-zg, -zd, ↓Qb, ↓Qa, go_sem, hqc, Ql hqc, Nat.sub_pos_of_lt hqc, he]; try ((refine Xb hK 15 ?_); (simp [go_sem]))
 | refine Xp (id := 15) Zj mixed [89] [15] (by kernel_rfl) (by kernel_rfl) (by simp [-zg, -zd, ↓Qb, ↓Qa, go_sem, hx7, k5, k6]) ?_; simp [-zg, -zd, ↓Qb, ↓Qa, go_sem, hx7, k5, k6]; try (refine ⟨fun s15a => ?_, fun s15a => ?_⟩ <;> (try simp [B_iff, B_not] at s15a) <;> try (refine ⟨fun s15b => ?_, fun s15b => ?_⟩ <;> (try simp [B_iff, B_not] at s15b)))
 | refine Qc (id := 16) Zj [] (by kernel_rfl) ?_; simp [-zg, -zd, ↓Qb, ↓Qa, go_sem, hS, B_yes hask2, (show Is cI 1 [D.int .i64 t4] ↔ True by rw [one_cI, is_cat]; simp), (show de cI [D.int .i64 t4] = [t4] by rw [one_cI, Qu])]
 | refine Qc (id := 17) Zj [112, 114] (by kernel_rfl) ?_; simp [-zg, -zd, ↓Qb, ↓Qa, go_sem, hq0]; try (refine ⟨fun s17a => ?_, fun s17a => ?_⟩ <;> (try simp [B_iff, B_not] at s17a) <;> try (refine ⟨fun s17b => ?_, fun s17b => ?_⟩ <;> (try simp [B_iff, B_not] at s17b) <;> try (refine ⟨fun s17c => ?_, fun s17c => ?_⟩ <;> (try simp [B_iff, B_not] at s17c))))
 | ((try (have hv1 : acR [t4] b c (suS s l) (suL s l) = true ↔ ∃ j, j < q.1 + 1 ∧ OkE a b c s l (nth c j) := (by rw [hnew]; exact ⟨fun h => ⟨by assumption, by assumption, h⟩, fun h => h.2.2⟩)))); refine Qc (id := 13) Zj [] (by kernel_rfl) ?_; simp [-zg, -zd, ↓Qb, ↓Qa, go_sem, wrapS (k := q.1) (by omega), hq0]
 | ((have hfin : q.2 = acR a b c s l := (by rw [Bool.eq_iff_iff, acR_step hA hL, f2]; constructor; (rintro ⟨j, j1, j2⟩; exact ⟨j, by omega, j2⟩); (rintro ⟨j, j1, j2⟩; by_cases hl2 : q.2 = true; (exact f2.1 hl2); (exact ⟨j, by (have hl3 : ¬ q.1 < c.length := (fun h => by first | omega | (simp_all; done))); omega, j2⟩))))); refine Qc (id := 18) Zj [] (by kernel_rfl) ?_; simp [-zg, -zd, ↓Qb, ↓Qa, go_sem, hfin]
 | refine Qd (c := .tmp 20) ?_; simp [-zg, -zd, ↓Qb, ↓Qa, go_sem]; try first | (refine ⟨?_, ?_⟩ <;> refine zA ?_) | (refine ⟨fun c20 => ?_, fun c20 => ?_⟩ <;> (try simp [B_iff, B_not] at c20))
 | refine Qd (c := .tmp 49) ?_; simp [-zg, -zd, ↓Qb, ↓Qa, go_sem]; try first | (refine ⟨?_, ?_⟩ <;> refine zA ?_) | (refine ⟨fun c49 => ?_, fun c49 => ?_⟩ <;> (try simp [B_iff, B_not] at c49))
 | refine Qd (c := .tmp 76) ?_; simp [-zg, -zd, ↓Qb, ↓Qa, go_sem]; try first | (refine ⟨?_, ?_⟩ <;> refine zA ?_) | (refine ⟨fun c76 => ?_, fun c76 => ?_⟩ <;> (try simp [B_iff, B_not] at c76))
 | refine Qd (c := .tmp 97) ?_; simp [-zg, -zd, ↓Qb, ↓Qa, go_sem]; try first | (refine ⟨?_, ?_⟩ <;> refine zA ?_) | (refine ⟨fun c97 => ?_, fun c97 => ?_⟩ <;> (try simp [B_iff, B_not] at c97))
 | (refine Qe (id := 0) (Qz (ι := Nat × Bool) (fun q : Nat × Bool => ⟨(upd (upd (upd (upd (upd (upd (fun _ => .any) 3 (.pd [li cI a, li cB b, li cT c])) 5 (.bool (acR a b c s l))) 9 (.int .i64 (nth (s ++ l) 0))) 11 (.pd [li cI (suS s l), li cI (suL s l)])) 13 (.bool q.2)) 14 (.int .i64 q.1)), fun _ => none⟩) (fun q => q.1 ≤ c.length ∧ (q.2 = true ↔ ∃ j, j < q.1 ∧ OkE a b c s l (nth c j))) (fun q => c.length - q.1) ((0, false)) ?_ ?_ ?_); exact ⟨Nat.zero_le _, by simp⟩; ((repeat' (first | exact Qg (by assumption) | exact Qi | refine Qf ?_ ?_ | refine Qh ?_)) <;> simp [-zg, -zd, ↓Qb, ↓Qa, go_sem, e1, e2]); rintro q ⟨f1, f2⟩)
 | (refine ⟨(q.1 + 1, acR [t4] b c (suS s l) (suL s l)), ⟨by dsimp only; omega, hv1⟩, by first | omega | (simp; done) | (simp; omega), ?_⟩; ((repeat' (first | exact Qg (by assumption) | exact Qi | refine Qf ?_ ?_ | refine Qh ?_)) <;> simp [-zg, -zd, ↓Qb, ↓Qa, go_sem, ]))
 | (refine Qe ?_)
 | (refine Qr ?_; simp [-zg, -zd, ↓Qb, ↓Qa, go_sem])
 | (refine Qq ?_; simp [-zg, -zd, ↓Qb, ↓Qa, go_sem])
 | (refine Qt ?_; simp [-zg, -zd, ↓Qb, ↓Qa, go_sem, Try.results10])
 | (intro hx; refine zA ?_)
 | (refine ⟨?_, ?_⟩ <;> refine zA ?_)
 | (intro hx; constructor <;> intro hs)
 | (constructor <;> intro hs)
 | (refine ⟨?_, fun hs => ?_⟩; refine zA ?_)
 | (refine ⟨fun hs => ?_, ?_⟩; rotate_left; refine zA ?_; rotate_left)
 | (refine ⟨(q.1 + 1, false), ⟨by dsimp only; omega, by rw [hnew]; simp_all⟩, by dsimp only; omega, ?_⟩; ((repeat' (first | exact Qg (by assumption) | exact Qi | refine Qf ?_ ?_ | refine Qh ?_)) <;> simp [-zg, -zd, go_sem]); done)
 | (exfalso; apply hask; assumption)))

end Go.Proofs.Ytkjimmkemnmajaa.Vm

