/-
  FnAutomatonSame: the walk of the law. No conditions.
-/
import Derived.Test.YtnfldmfamnhpcaaDoorW43
import Derived.Test.YtnfldmfamnhpcaaDoorFA6
import Derived.Test.YtnfldmfamnhpcaaDoorY13
namespace Go.Proofs.YtnfldmfamnhpcaaDoor.Vm
open Go
open List renaming getD_eq_getElem?_getD → zg,drop_one → zd
set_option linter.unusedVariables false
set_option linter.unusedSimpArgs false
set_option maxRecDepth 200000

noncomputable def Γas1:FuncId → Con:=ext Γfa4 16 zabm
attribute [go_sem] Γas1
theorem Jg:∀ g,ConOk Tryd.prog g (Γas1 g):=Qp Γfa4_ok zaes

set_option maxHeartbeats 8000000 in
theorem lawFnAS (xs:List UInt8)  : Pure Tryd.prog 5 [li cY xs] (.bool true):=by
  refine Pure.of_walk Tryd.func5 rfl (by simp [Tryd.f5]) (by simp [-zd,go_sem]) fun B hK=>?_
  (repeat' (first
 | refine Qu ?_
 | refine Qc (id:=0) Jg [] (by kernel_rfl) ?_;simp [-zg,-zd,↓Qb,↓Qa,go_sem]
 | refine Qc (id:=1) Jg [] (by kernel_rfl) ?_;simp [-zg,-zd,↓Qb,↓Qa,go_sem]
 | refine Qc (id:=2) Jg [] (by kernel_rfl) ?_;simp [-zg,-zd,↓Qb,↓Qa,go_sem]
 | refine Qc (id:=3) Jg [] (by kernel_rfl) ?_;simp [-zg,-zd,↓Qb,↓Qa,go_sem];try ((intro c3);(have y0:=zafi xs c3);(generalize (zaar xs c3) = z at *);(obtain ⟨⟨a,b,c⟩,⟨a',b',c'⟩⟩:=z);(obtain ⟨y1,y2⟩:=y0);(dsimp only at y1 y2 ⊢);(have hS:Zc c:=y1);(have hS':Zc c':=y2);(refine Xn hK 3 ?_);(simp [go_sem]);(refine Xn hK 4 ?_);(simp [go_sem]))
 | refine Qc (id:=4) Jg [] (by kernel_rfl) ?_;simp [-zg,-zd,↓Qb,↓Qa,go_sem]
 | refine Qc (id:=5) Jg [24,31] (by kernel_rfl) ?_;simp [-zg,-zd,↓Qb,↓Qa,go_sem,(show (a' = a) = (a = a') from propext eq_comm),(show (b' = b) = (b = b') from propext eq_comm),(show (c' = c) = (c = c') from propext eq_comm)];try (refine ⟨fun s5a=>?_,fun s5a=>?_⟩ <;> (try simp [B_iff,B_not] at s5a) <;> try (refine ⟨fun s5b=>?_,fun s5b=>?_⟩ <;> (try simp [B_iff,B_not] at s5b) <;> try (refine ⟨fun s5c=>?_,fun s5c=>?_⟩ <;> (try simp [B_iff,B_not] at s5c))))
 | refine Qc (id:=6) Jg [] (by kernel_rfl) ?_;simp [-zg,-zd,↓Qb,↓Qa,go_sem]
 | refine Qc (id:=7) Jg [] (by kernel_rfl) ?_;simp [-zg,-zd,↓Qb,↓Qa,go_sem,hS]
 | refine Qc (id:=8) Jg [] (by kernel_rfl) ?_;simp [-zg,-zd,↓Qb,↓Qa,go_sem,hS']
 | ((have hlaw:=autT_law a a' b b' c c'));refine Qc (id:=9) Jg [43,47] (by kernel_rfl) ?_;simp [-zg,-zd,↓Qb,↓Qa,go_sem];try (refine ⟨fun s9a=>?_,fun s9a=>?_⟩ <;> (try simp [B_iff,B_not] at s9a) <;> try (refine ⟨fun s9b=>?_,fun s9b=>?_⟩ <;> (try simp [B_iff,B_not] at s9b) <;> try (refine ⟨fun s9c=>?_,fun s9c=>?_⟩ <;> (try simp [B_iff,B_not] at s9c))))
 | refine Qd (c:=.tmp 10) ?_;simp [-zg,-zd,↓Qb,↓Qa,go_sem];try first | (refine ⟨?_,?_⟩ <;> refine zA ?_) | (refine ⟨fun c10=>?_,fun c10=>?_⟩ <;> (try simp [B_iff,B_not] at c10))
 | refine Qd (c:=.tmp 36) ?_;simp [-zg,-zd,↓Qb,↓Qa,go_sem];try first | (refine ⟨?_,?_⟩ <;> refine zA ?_) | (refine ⟨fun c36=>?_,fun c36=>?_⟩ <;> (try simp [B_iff,B_not] at c36))
 | (refine Qh ?_)
 | (refine Qt ?_;simp [-zg,-zd,↓Qb,↓Qa,go_sem])
 | (refine Qs ?_;simp [-zg,-zd,↓Qb,↓Qa,go_sem])
 | (refine Qv ?_;simp [-zg,-zd,↓Qb,↓Qa,go_sem,Tryd.results5])
 | (intro hx;refine zA ?_)
 | (refine ⟨?_,?_⟩ <;> refine zA ?_)
 | (intro hx;constructor <;> intro hs)
 | (constructor <;> intro hs)
 | (refine ⟨?_,fun hs=>?_⟩;refine zA ?_)
 | (refine ⟨fun hs=>?_,?_⟩;rotate_left;refine zA ?_;rotate_left)))
  all_goals (first
 | (have e:=(hlaw.resolve_left s9a).resolve_left s9b;rw [Bool.eq_iff_iff,decide_eq_true_eq,← e];simp [and_assoc];done)
 | skip)

end Go.Proofs.YtnfldmfamnhpcaaDoor.Vm

