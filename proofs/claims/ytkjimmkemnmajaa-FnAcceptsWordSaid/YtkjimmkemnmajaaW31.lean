/-
  FnAcceptsWord: the walk of the law. No conditions.
-/
import Derived.Test.YtkjimmkemnmajaaSW1
import Derived.Test.YtkjimmkemnmajaaY12
namespace Go.Proofs.Ytkjimmkemnmajaa.Vm
open Go
open List renaming getD_eq_getElem?_getD → zg, drop_one → zd
set_option linter.unusedVariables false
set_option linter.unusedSimpArgs false
set_option maxRecDepth 200000

noncomputable def Γl5 : FuncId → Con := ext (ext Γq35 46 zaeo) 56 zafq
attribute [go_sem] Γl5
theorem Vv : ∀ g, ConOk Try.prog g (Γl5 g) := Qo (Qo Γq35_ok zagp) zany
theorem same_ask {a : List Int} {b : List Bool} {c : List Tr4} {s l u v : List Int} (h : Same s l u v) : B (AcAsk a b c u v) = B (AcAsk a b c s l) :=
  congrArg (fun p : Prop => B p) (propext ⟨fun q => ⟨q.1, h.1⟩, fun q => ⟨q.1, h.2.1⟩⟩)
theorem same_acc {a : List Int} {b : List Bool} {c : List Tr4} {s l u v : List Int} (h : Same s l u v) : acR a b c u v = acR a b c s l := by
  by_cases hA : AutOk a b.length c
  · exact (same_acR hA h).symm
  · rw [acR_no (fun q => hA q.1), acR_no (fun q => hA q.1)]

set_option maxHeartbeats 8000000 in
theorem lawFnAcW (xs : List UInt8) (ys : List UInt8)  : Pure Try.prog 11 [li cY xs, li cY ys] (.bool true) := by
  refine Pure.of_walk Try.func11 rfl (by simp [Try.f11]) (by simp [-zd, go_sem]) fun B hK => ?_
  (repeat' (first
 | refine Qu ?_
 | refine Qc (id := 0) Vv [] (by kernel_rfl) ?_; simp [-zg, -zd, ↓Qb, ↓Qa, go_sem]
 | refine Qc (id := 1) Vv [18] (by kernel_rfl) ?_; simp [-zg, -zd, ↓Qb, ↓Qa, go_sem]; try (refine ⟨fun s1a => ?_, fun s1a => ?_⟩ <;> (try simp [B_iff, B_not] at s1a) <;> try (refine ⟨fun s1b => ?_, fun s1b => ?_⟩ <;> (try simp [B_iff, B_not] at s1b)))
 | refine Qc (id := 2) Vv [] (by kernel_rfl) ?_; simp [-zg, -zd, ↓Qb, ↓Qa, go_sem]
 | refine Qc (id := 3) Vv [] (by kernel_rfl) ?_; simp [-zg, -zd, ↓Qb, ↓Qa, go_sem]; try ((intro c3); (have x0 := DrawAccepts_ok xs c3); (generalize (zado xs c3) = w at *); (obtain ⟨⟨a, b, c⟩, ⟨wa, wb⟩⟩ := w); (obtain ⟨⟨y1, y2, y3, y4⟩, x1, x2⟩ := x0); (dsimp only at y1 y2 y3 y4 x1 x2 ⊢); (have hS : Va c := y4); (clear y1 y2 y3 y4 x1 x2); (refine Xd hK 5 ?_); (simp [go_sem]); (refine Xd hK 6 ?_); (simp [go_sem]))
 | refine Qc (id := 4) Vv [] (by kernel_rfl) ?_; simp [-zg, -zd, ↓Qb, ↓Qa, go_sem]; try ((intro c4); (generalize (zafo ys c4) = z at *); (obtain ⟨⟨s, l⟩, ⟨u, v⟩⟩ := z); (dsimp only); (refine Xd hK 7 ?_); (simp [go_sem]); (refine Xd hK 8 ?_); (simp [go_sem]); (cases hW : Vm.B (Same s l u v)))
 | refine Qc (id := 5) Vv [] (by kernel_rfl) ?_; simp [-zg, -zd, ↓Qb, ↓Qa, go_sem, hS]
 | refine Qc (id := 6) Vv [] (by kernel_rfl) ?_; simp [-zg, -zd, ↓Qb, ↓Qa, go_sem, hS]
 | refine Qc (id := 7) Vv [48, 53] (by kernel_rfl) ?_; simp [-zg, -zd, ↓Qb, ↓Qa, go_sem, hW]; try (refine ⟨fun s7a => ?_, fun s7a => ?_⟩ <;> (try simp [B_iff, B_not] at s7a) <;> try (refine ⟨fun s7b => ?_, fun s7b => ?_⟩ <;> (try simp [B_iff, B_not] at s7b) <;> try (refine ⟨fun s7c => ?_, fun s7c => ?_⟩ <;> (try simp [B_iff, B_not] at s7c))))
 | refine Qc (id := 8) Vv [62] (by kernel_rfl) ?_; simp [-zg, -zd, ↓Qb, ↓Qa, go_sem]; try (refine ⟨fun s8a => ?_, fun s8a => ?_⟩ <;> (try simp [B_iff, B_not] at s8a) <;> try (refine ⟨fun s8b => ?_, fun s8b => ?_⟩ <;> (try simp [B_iff, B_not] at s8b)))
 | ((have hW' : Same s l u v := (by rw [B_iff] at hW; exact hW)); (have e1 : Vm.B (AcAsk a b c u v) = Vm.B (AcAsk a b c s l) := same_ask hW'); (have e2 : acR a b c u v = acR a b c s l := same_acc hW')); refine Qc (id := 9) Vv [] (by kernel_rfl) ?_; simp [-zg, -zd, ↓Qb, ↓Qa, go_sem, hS, e1, e2]
 | refine Qc (id := 10) Vv [76] (by kernel_rfl) ?_; simp [-zg, -zd, ↓Qb, ↓Qa, go_sem, e1, e2]; try (refine ⟨fun s10a => ?_, fun s10a => ?_⟩ <;> (try simp [B_iff, B_not] at s10a) <;> try (refine ⟨fun s10b => ?_, fun s10b => ?_⟩ <;> (try simp [B_iff, B_not] at s10b)))
 | refine Qd (c := .tmp 22) ?_; simp [-zg, -zd, ↓Qb, ↓Qa, go_sem]; try first | (refine ⟨?_, ?_⟩ <;> refine zA ?_) | (refine ⟨fun c22 => ?_, fun c22 => ?_⟩ <;> (try simp [B_iff, B_not] at c22))
 | refine Qd (c := .tmp 58) ?_; simp [-zg, -zd, ↓Qb, ↓Qa, go_sem]; try first | (refine ⟨?_, ?_⟩ <;> refine zA ?_) | (refine ⟨fun c58 => ?_, fun c58 => ?_⟩ <;> (try simp [B_iff, B_not] at c58))
 | (refine Qe ?_)
 | (refine Qs ?_; simp [-zg, -zd, ↓Qb, ↓Qa, go_sem])
 | (refine Qr ?_; simp [-zg, -zd, ↓Qb, ↓Qa, go_sem])
 | (refine Qv ?_; simp [-zg, -zd, ↓Qb, ↓Qa, go_sem, Try.results11])
 | (intro hx; refine zA ?_)
 | (refine ⟨?_, ?_⟩ <;> refine zA ?_)
 | (intro hx; constructor <;> intro hs)
 | (constructor <;> intro hs)
 | (refine ⟨?_, fun hs => ?_⟩; refine zA ?_)
 | (refine ⟨fun hs => ?_, ?_⟩; rotate_left; refine zA ?_; rotate_left)))
  all_goals (first
 | (simp_all; done)
 | skip)

end Go.Proofs.Ytkjimmkemnmajaa.Vm

