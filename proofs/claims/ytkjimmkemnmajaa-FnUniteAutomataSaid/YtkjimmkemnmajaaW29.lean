/-
  FnUniteAutomata: the walk of the law. No conditions.
-/
import Derived.Test.YtkjimmkemnmajaaU4
import Derived.Test.YtkjimmkemnmajaaY11
import Derived.Test.YtkjimmkemnmajaaSM6
namespace Go.Proofs.Ytkjimmkemnmajaa.Vm
open Go
open List renaming getD_eq_getElem?_getD → zg, drop_one → zd
set_option linter.unusedVariables false
set_option linter.unusedSimpArgs false
set_option maxRecDepth 200000

noncomputable def Γl3 : FuncId → Con := ext (ext (ext Γu13 50 zaem) 45 zabx) 46 zade
attribute [go_sem] Γl3
theorem Vb : ∀ g, ConOk Try.prog g (Γl3 g) := Qo (Qo (Qo Γu13_ok zagk) zagg) zadq

set_option maxHeartbeats 8000000 in
theorem lawFnUn (xs : List UInt8) (ys : List UInt8)  : Pure Try.prog 8 [li cY xs, li cY ys] (.bool true) := by
  refine Pure.of_walk Try.func8 rfl (by simp [Try.f8]) (by simp [-zd, go_sem]) fun B hK => ?_
  (repeat' (first
 | refine Qs ?_
 | refine Qc (id := 0) Vb [] (by kernel_rfl) ?_; simp [-zg, -zd, ↓Qb, ↓Qa, go_sem]
 | refine Qc (id := 1) Vb [22] (by kernel_rfl) ?_; simp [-zg, -zd, ↓Qb, ↓Qa, go_sem]; try (refine ⟨fun s1a => ?_, fun s1a => ?_⟩ <;> (try simp [B_iff, B_not] at s1a) <;> try (refine ⟨fun s1b => ?_, fun s1b => ?_⟩ <;> (try simp [B_iff, B_not] at s1b)))
 | refine Qc (id := 2) Vb [] (by kernel_rfl) ?_; simp [-zg, -zd, ↓Qb, ↓Qa, go_sem]
 | refine Qc (id := 3) Vb [] (by kernel_rfl) ?_; simp [-zg, -zd, ↓Qb, ↓Qa, go_sem]; try ((intro c3); (have y0 : AuM (zaae xs c3).1 ∧ AuM (zaae xs c3).2 := zaho xs c3); (generalize (zaae xs c3) = z at *); (obtain ⟨⟨a, b, c⟩, ⟨a', b', c'⟩⟩ := z); (obtain ⟨⟨y1, y2, y3, y4⟩, ⟨z1, z2, z3, z4⟩⟩ := y0); (dsimp only at y1 y2 y3 y4 z1 z2 z3 z4 ⊢); (have hS : Xr c := y4); (have hS' : Xr c' := z4); (refine Xb hK 5 ?_); (simp [go_sem]); (refine Xb hK 6 ?_); (simp [go_sem]))
 | refine Qc (id := 4) Vb [] (by kernel_rfl) ?_; simp [-zg, -zd, ↓Qb, ↓Qa, go_sem]; try ((intro c4); (have x0 : AuM (zaaw ys c4).1 ∧ _ := zain ys c4); (clear x0); (generalize (zaaw ys c4) = v at *); (obtain ⟨⟨va, vb, vc⟩, ⟨s, l⟩⟩ := v); (dsimp only); (refine Xb hK 7 ?_); (simp [go_sem]); (refine Xb hK 8 ?_); (simp [go_sem]); (cases hU : Vm.B (UnOk a b c a' b' c')))
 | refine Qc (id := 5) Vb [] (by kernel_rfl) ?_; simp [-zg, -zd, ↓Qb, ↓Qa, go_sem, hU, hS, hS']; try ((refine Xb hK 9 ?_); (simp [go_sem, dat, datL, Xd, Zg]))
 | refine Qc (id := 6) Vb [] (by kernel_rfl) ?_; simp [-zg, -zd, ↓Qb, ↓Qa, go_sem, hU, hS, hS']; try ((refine Xb hK 11 ?_); (simp [go_sem, dat, datL, Xd, Zg]))
 | refine Qc (id := 7) Vb [52, 58] (by kernel_rfl) ?_; simp [-zg, -zd, ↓Qb, ↓Qa, go_sem]; try (refine ⟨fun s7a => ?_, fun s7a => ?_⟩ <;> (try simp [B_iff, B_not] at s7a) <;> try (refine ⟨fun s7b => ?_, fun s7b => ?_⟩ <;> (try simp [B_iff, B_not] at s7b) <;> try (refine ⟨fun s7c => ?_, fun s7c => ?_⟩ <;> (try simp [B_iff, B_not] at s7c))))
 | refine Qc (id := 8) Vb [65] (by kernel_rfl) ?_; simp [-zg, -zd, ↓Qb, ↓Qa, go_sem]; try (refine ⟨fun s8a => ?_, fun s8a => ?_⟩ <;> (try simp [B_iff, B_not] at s8a) <;> try (refine ⟨fun s8b => ?_, fun s8b => ?_⟩ <;> (try simp [B_iff, B_not] at s8b)))
 | ((have hUn : UnOk a b c a' b' c' := (by rw [B_iff] at hU; exact hU)); (have e1 := ask_las (s := s) (l := l) hUn.1); (have e2 := ask_las (s := s) (l := l) hUn.2.1); (have e3 := ask_las (s := s) (l := l) hUn.third); (have e4 := acR_uni hUn s l); (have hu := uT_small hS hS' b.length); (have hbl := hUn.2.2.2.1)); refine Qc (id := 9) Vb [] (by kernel_rfl) ?_; simp [-zg, -zd, ↓Qb, ↓Qa, go_sem, hS]
 | refine Qc (id := 10) Vb [] (by kernel_rfl) ?_; simp [-zg, -zd, ↓Qb, ↓Qa, go_sem, hS']
 | refine Qc (id := 11) Vb [] (by kernel_rfl) ?_; simp [-zg, -zd, ↓Qb, ↓Qa, go_sem, hu, Vo, Vn]
 | refine Qc (id := 12) Vb [91, 96, 99, 104] (by kernel_rfl) ?_; simp [-zg, -zd, ↓Qb, ↓Qa, go_sem, e1, e2, e3, e4, Qj (x := (b.length : Int) + (b'.length : Int)) (by omega) (by omega)]; try (refine ⟨fun s12a => ?_, fun s12a => ?_⟩ <;> (try simp [B_iff, B_not] at s12a) <;> try (refine ⟨fun s12b => ?_, fun s12b => ?_⟩ <;> (try simp [B_iff, B_not] at s12b) <;> try (refine ⟨fun s12c => ?_, fun s12c => ?_⟩ <;> (try simp [B_iff, B_not] at s12c) <;> try (refine ⟨fun s12d => ?_, fun s12d => ?_⟩ <;> (try simp [B_iff, B_not] at s12d) <;> try (refine ⟨fun s12e => ?_, fun s12e => ?_⟩ <;> (try simp [B_iff, B_not] at s12e))))))
 | refine Qd (c := .tmp 26) ?_; simp [-zg, -zd, ↓Qb, ↓Qa, go_sem]; try first | (refine ⟨?_, ?_⟩ <;> refine zA ?_) | (refine ⟨fun c26 => ?_, fun c26 => ?_⟩ <;> (try simp [B_iff, B_not] at c26))
 | refine Qd (c := .tmp 61) ?_; simp [-zg, -zd, ↓Qb, ↓Qa, go_sem]; try first | (refine ⟨?_, ?_⟩ <;> refine zA ?_) | (refine ⟨fun c61 => ?_, fun c61 => ?_⟩ <;> (try simp [B_iff, B_not] at c61))
 | (refine Qe ?_)
 | (refine Qr ?_; simp [-zg, -zd, ↓Qb, ↓Qa, go_sem])
 | (refine Qq ?_; simp [-zg, -zd, ↓Qb, ↓Qa, go_sem])
 | (refine Qt ?_; simp [-zg, -zd, ↓Qb, ↓Qa, go_sem, Try.results8])
 | (intro hx; refine zA ?_)
 | (refine ⟨?_, ?_⟩ <;> refine zA ?_)
 | (intro hx; constructor <;> intro hs)
 | (constructor <;> intro hs)
 | (refine ⟨?_, fun hs => ?_⟩; refine zA ?_)
 | (refine ⟨fun hs => ?_, ?_⟩; rotate_left; refine zA ?_; rotate_left)))
  all_goals (first
 | (simp_all; done)
 | skip)

end Go.Proofs.Ytkjimmkemnmajaa.Vm

