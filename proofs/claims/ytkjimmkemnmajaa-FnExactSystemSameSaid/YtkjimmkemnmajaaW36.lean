/-
  FnExactSystemSame: the walk of the law. No conditions.
-/
import Derived.Test.YtkjimmkemnmajaaSY4
namespace Go.Proofs.Ytkjimmkemnmajaa.Vm
open Go
open List renaming getD_eq_getElem?_getD → zg,drop_one → zd
set_option linter.unusedVariables false
set_option linter.unusedSimpArgs false
set_option maxRecDepth 200000

attribute [go_sem] VS stepS isLoad isApp snH AGL
theorem lawSystemSame (a:List Int) (b:List Pr) (c:List Int) (d:List Pr)  : Pure Try.prog 6 [.st [li cI a,li cR b],.st [li cI c,li cR d]] (.bool true):=by
  refine Pure.of_walk Try.func6 rfl (by simp [Try.f6]) (by simp [-zd,go_sem]) fun B hK=>?_
  (repeat' (first
 | refine Qx ?_
 | refine Qc (id:=0) Xe [] (by kernel_rfl) ?_;simp [-zg,-zd,↓Qb,↓Qa,go_sem];try (refine Qt hK 2 ?_;simp [go_sem];refine Qt hK 3 ?_;simp [go_sem])
 | refine Qc (id:=1) Xe [] (by kernel_rfl) ?_;simp [-zg,-zd,↓Qb,↓Qa,go_sem]
 | refine Qc (id:=2) Xe [] (by kernel_rfl) ?_;simp [-zg,-zd,↓Qb,↓Qa,go_sem]
 | refine Qc (id:=3) Xe [] (by kernel_rfl) ?_;simp [-zg,-zd,↓Qb,↓Qa,go_sem]
 | refine Qc (id:=4) Xe [] (by kernel_rfl) ?_;simp [-zg,-zd,↓Qb,↓Qa,go_sem]
 | refine Qc (id:=5) Xe [] (by kernel_rfl) ?_;simp [-zg,-zd,↓Qb,↓Qa,go_sem,zahm (left:=1048576) (by omega),zafm (left:=1048576) (by omega)]
 | refine Qc (id:=6) Xe [] (by kernel_rfl) ?_;simp [-zg,-zd,↓Qb,↓Qa,go_sem]
 | refine Qc (id:=7) Xe [] (by kernel_rfl) ?_;simp [-zg,-zd,↓Qb,↓Qa,go_sem]
 | (have q1:=szOf_le c14;have q2:=szOf_le c19;have q3:=zafm (left:=1048576) (by omega) (a.length + (b.length + msum mR b b.length));have hA:a.length ≤ 1048576:=(by omega);have hB:b.length + msum mR b b.length ≤ 1048576:=(by omega);have hC:c.length ≤ 1048576:=(by omega);have hD:d.length + msum mR d d.length ≤ 1048576:=(by omega));refine zabq (id:=8) Xe mixed [] [] [] (by kernel_rfl) (by kernel_rfl) (by simp [-zg,-zd,↓Qb,↓Qa,go_sem,hA,hB,hC,hD]) (by simp [-zg,-zd,↓Qb,↓Qa,go_sem,hA,hB,hC,hD]) ?_;simp [-zg,-zd,↓Qb,↓Qa,go_sem,hA,hB,hC,hD]
 | refine Qc (id:=9) Xe [] (by kernel_rfl) ?_;simp [-zg,-zd,↓Qb,↓Qa,go_sem,hA,hB,hC,hD];try (refine Qt hK 7 ?_;simp [go_sem])
 | refine Qc (id:=10) Xe [] (by kernel_rfl) ?_;simp [-zg,-zd,↓Qb,↓Qa,go_sem,hA,hB,hC,hD];try (refine Qt hK 8 ?_;simp [go_sem])
 | refine Qc (id:=11) Xe [] (by kernel_rfl) ?_;simp [-zg,-zd,↓Qb,↓Qa,go_sem]
 | refine Qc (id:=12) Xe [] (by kernel_rfl) ?_;simp [-zg,-zd,↓Qb,↓Qa,go_sem]
 | refine Qc (id:=13) Xe [] (by kernel_rfl) ?_;simp [-zg,-zd,↓Qb,↓Qa,go_sem]
 | refine zabq (id:=14) Xe mixed [] [] [] (by kernel_rfl) (by kernel_rfl) (by simp [-zg,-zd,↓Qb,↓Qa,go_sem,hA,hB,hC,hD]) (by simp [-zg,-zd,↓Qb,↓Qa,go_sem,hA,hB,hC,hD]) ?_;simp [-zg,-zd,↓Qb,↓Qa,go_sem,hA,hB,hC,hD]
 | refine Qc (id:=15) Xe [] (by kernel_rfl) ?_;simp [-zg,-zd,↓Qb,↓Qa,go_sem]
 | refine zabq (id:=16) Xe mixed [] [] [] (by kernel_rfl) (by kernel_rfl) (by simp [-zg,-zd,↓Qb,↓Qa,go_sem,hA,hB,hC,hD]) (by simp [-zg,-zd,↓Qb,↓Qa,go_sem,hA,hB,hC,hD]) ?_;simp [-zg,-zd,↓Qb,↓Qa,go_sem,hA,hB,hC,hD]
 | refine Qc (id:=17) Xe [] (by kernel_rfl) ?_;simp [-zg,-zd,↓Qb,↓Qa,go_sem]
 | refine Qc (id:=18) Xe [] (by kernel_rfl) ?_;simp [-zg,-zd,↓Qb,↓Qa,go_sem]
 | refine Qd (c:=.tmp 14) ?_;simp [-zg,-zd,↓Qb,↓Qa,go_sem];try first | (refine ⟨?_,?_⟩ <;> refine zA ?_) | (refine ⟨fun c14=>?_,fun c14=>?_⟩ <;> (try simp [B_iff,B_not] at c14))
 | refine Qd (c:=.tmp 19) ?_;simp [-zg,-zd,↓Qb,↓Qa,go_sem];try first | (refine ⟨?_,?_⟩ <;> refine zA ?_) | (refine ⟨fun c19=>?_,fun c19=>?_⟩ <;> (try simp [B_iff,B_not] at c19))
 | refine Qd (c:=.tmp 34) ?_;simp [-zg,-zd,↓Qb,↓Qa,go_sem];try first | (refine ⟨?_,?_⟩ <;> refine zA ?_) | (refine ⟨fun c34=>?_,fun c34=>?_⟩ <;> (try simp [B_iff,B_not] at c34))
 | refine Qd (c:=.tmp 39) ?_;simp [-zg,-zd,↓Qb,↓Qa,go_sem];try first | (refine ⟨?_,?_⟩ <;> refine zA ?_) | (refine ⟨fun c39=>?_,fun c39=>?_⟩ <;> (try simp [B_iff,B_not] at c39))
 | refine Qd (c:=.tmp 44) ?_;simp [-zg,-zd,↓Qb,↓Qa,go_sem];try first | (refine ⟨?_,?_⟩ <;> refine zA ?_) | (refine ⟨fun c44=>?_,fun c44=>?_⟩ <;> (try simp [B_iff,B_not] at c44))
 | (refine Qh ?_)
 | (refine Qv ?_;simp [-zg,-zd,↓Qb,↓Qa,go_sem])
 | (refine Qu ?_;simp [-zg,-zd,↓Qb,↓Qa,go_sem])
 | (refine Qy ?_;simp [-zg,-zd,↓Qb,↓Qa,go_sem,Try.results6])
 | (intro hx;refine zA ?_)
 | (refine ⟨?_,?_⟩ <;> refine zA ?_)
 | (intro hx;constructor <;> intro hs)
 | (constructor <;> intro hs)
 | (refine ⟨?_,fun hs=>?_⟩;refine zA ?_)
 | (refine ⟨fun hs=>?_,?_⟩;rotate_left;refine zA ?_;rotate_left)))

end Go.Proofs.Ytkjimmkemnmajaa.Vm

