/-
  FnIntersectAutomata: the walk of the law. No conditions.
-/
import Derived.Test.YtnfldmfamnhpcaaW41
import Derived.Test.YtnfldmfamnhpcaaY11
import Derived.Test.YtnfldmfamnhpcaaIX2
namespace Go.Proofs.Ytnfldmfamnhpcaa.Vm
open Go
open List renaming getD_eq_getElem?_getD → zg,drop_one → zd
set_option linter.unusedVariables false
set_option linter.unusedSimpArgs false
set_option maxRecDepth 200000

theorem j_third {a:List Int} {b:List Bool} {c:List Tr4} {a':List Int} {b':List Bool} {c':List Tr4} (h:JnOk a b c a' b' c'):AutOk (jI a b c a' b' c') (jB a b c a' b' c').length (jT a b c a' b' c'):=by
  unfold jI jB jT
  rw [B_yes h]
  simp only [if_true]
  exact h.2
theorem j_law {a:List Int} {b:List Bool} {c:List Tr4} {a':List Int} {b':List Bool} {c':List Tr4} (h:JnOk a b c a' b' c') (s l:List Int):acR (jI a b c a' b' c') (jB a b c a' b' c') (jT a b c a' b' c') s l = (acR a b c s l && acR a' b' c' s l):=by
  have e:=acR_ix h.1 h.2 s l
  unfold jI jB jT
  rw [B_yes h]
  simpa using e
theorem j_small {a:List Int} {b:List Bool} {c:List Tr4} {a':List Int} {b':List Bool} {c':List Tr4} (h:JnOk a b c a' b' c'):Xn (jT a b c a' b' c'):=by
  unfold jT
  rw [B_yes h]
  simpa using ixF_small h.1
noncomputable def Γjx1:FuncId → Con:=ext (ext (ext Γi9 15 zagf) 12 zaaq) 13 zaee
attribute [go_sem] Γjx1
theorem Jx:∀ g,ConOk Try.prog g (Γjx1 g):=Qo (Qo (Qo Γi9_ok zani) zadn) zafr

set_option maxHeartbeats 8000000 in
theorem lawFnIx (xs:List UInt8) (ys:List UInt8)  : Pure Try.prog 4 [li cY xs,li cY ys] (.bool true):=by
  refine Pure.of_walk Try.func4 rfl (by simp [Try.f4]) (by simp [-zd,go_sem]) fun B hK=>?_
  (repeat' (first
 | refine Qu ?_
 | refine Qc (id:=0) Jx [] (by kernel_rfl) ?_;simp [-zg,-zd,↓Qb,↓Qa,go_sem]
 | refine Qc (id:=1) Jx [22] (by kernel_rfl) ?_;simp [-zg,-zd,↓Qb,↓Qa,go_sem];try (refine ⟨fun s1a=>?_,fun s1a=>?_⟩ <;> (try simp [B_iff,B_not] at s1a) <;> try (refine ⟨fun s1b=>?_,fun s1b=>?_⟩ <;> (try simp [B_iff,B_not] at s1b)))
 | refine Qc (id:=2) Jx [] (by kernel_rfl) ?_;simp [-zg,-zd,↓Qb,↓Qa,go_sem]
 | refine Qc (id:=3) Jx [] (by kernel_rfl) ?_;simp [-zg,-zd,↓Qb,↓Qa,go_sem];try ((intro c3);(have y0:AuM (zaaa xs c3).1 ∧ AuM (zaaa xs c3).2:=zaed xs c3);(generalize (zaaa xs c3) = z at *);(obtain ⟨⟨a,b,c⟩,⟨a',b',c'⟩⟩:=z);(obtain ⟨⟨y1,y2,y3,y4⟩,⟨z1,z2,z3,z4⟩⟩:=y0);(dsimp only at y1 y2 y3 y4 z1 z2 z3 z4 ⊢);(have hS:Xn c:=y4);(have hS':Xn c':=z4);(refine Xb hK 5 ?_);(simp [go_sem]);(refine Xb hK 6 ?_);(simp [go_sem]))
 | refine Qc (id:=4) Jx [] (by kernel_rfl) ?_;simp [-zg,-zd,↓Qb,↓Qa,go_sem];try ((intro c4);(have x0:AuM (zabs ys c4).1 ∧ _:=DrawAccepts_ok ys c4);(clear x0);(generalize (zabs ys c4) = v at *);(obtain ⟨⟨va,vb,vc⟩,⟨s,l⟩⟩:=v);(dsimp only);(refine Xb hK 7 ?_);(simp [go_sem]);(refine Xb hK 8 ?_);(simp [go_sem]);(cases hU:Vm.B (JnOk a b c a' b' c')))
 | refine Qc (id:=5) Jx [] (by kernel_rfl) ?_;simp [-zg,-zd,↓Qb,↓Qa,go_sem,hU,hS,hS'];try ((refine Xb hK 9 ?_);(simp [go_sem,dat,datL,Xd,Zj]))
 | refine Qc (id:=6) Jx [] (by kernel_rfl) ?_;simp [-zg,-zd,↓Qb,↓Qa,go_sem,hU,hS,hS'];try ((refine Xb hK 11 ?_);(simp [go_sem,dat,datL,Xd,Zj]))
 | refine Qc (id:=7) Jx [52,58] (by kernel_rfl) ?_;simp [-zg,-zd,↓Qb,↓Qa,go_sem];try (refine ⟨fun s7a=>?_,fun s7a=>?_⟩ <;> (try simp [B_iff,B_not] at s7a) <;> try (refine ⟨fun s7b=>?_,fun s7b=>?_⟩ <;> (try simp [B_iff,B_not] at s7b) <;> try (refine ⟨fun s7c=>?_,fun s7c=>?_⟩ <;> (try simp [B_iff,B_not] at s7c))))
 | refine Qc (id:=8) Jx [65] (by kernel_rfl) ?_;simp [-zg,-zd,↓Qb,↓Qa,go_sem];try (refine ⟨fun s8a=>?_,fun s8a=>?_⟩ <;> (try simp [B_iff,B_not] at s8a) <;> try (refine ⟨fun s8b=>?_,fun s8b=>?_⟩ <;> (try simp [B_iff,B_not] at s8b)))
 | ((have hUn:JnOk a b c a' b' c':=(by rw [B_iff] at hU;exact hU));(have e1:=ask_las (a:=a) (b:=b) (c:=c) (s:=s) (l:=l) hUn.1.1);(have e2:=ask_las (a:=a') (b:=b') (c:=c') (s:=s) (l:=l) hUn.1.2);(have e3:=ask_las (s:=s) (l:=l) (j_third hUn));(have e4:=j_law hUn s l);(have hu:=j_small hUn));refine Qc (id:=9) Jx [] (by kernel_rfl) ?_;simp [-zg,-zd,↓Qb,↓Qa,go_sem,hS]
 | refine Qc (id:=10) Jx [] (by kernel_rfl) ?_;simp [-zg,-zd,↓Qb,↓Qa,go_sem,hS']
 | refine Qc (id:=11) Jx [] (by kernel_rfl) ?_;simp [-zg,-zd,↓Qb,↓Qa,go_sem,hu]
 | refine Qc (id:=12) Jx [91,96,99] (by kernel_rfl) ?_;simp [-zg,-zd,↓Qb,↓Qa,go_sem,e1,e2,e3,e4];try (refine ⟨fun s12a=>?_,fun s12a=>?_⟩ <;> (try simp [B_iff,B_not] at s12a) <;> try (refine ⟨fun s12b=>?_,fun s12b=>?_⟩ <;> (try simp [B_iff,B_not] at s12b) <;> try (refine ⟨fun s12c=>?_,fun s12c=>?_⟩ <;> (try simp [B_iff,B_not] at s12c) <;> try (refine ⟨fun s12d=>?_,fun s12d=>?_⟩ <;> (try simp [B_iff,B_not] at s12d)))))
 | refine Qd (c:=.tmp 26) ?_;simp [-zg,-zd,↓Qb,↓Qa,go_sem];try first | (refine ⟨?_,?_⟩ <;> refine zA ?_) | (refine ⟨fun c26=>?_,fun c26=>?_⟩ <;> (try simp [B_iff,B_not] at c26))
 | refine Qd (c:=.tmp 61) ?_;simp [-zg,-zd,↓Qb,↓Qa,go_sem];try first | (refine ⟨?_,?_⟩ <;> refine zA ?_) | (refine ⟨fun c61=>?_,fun c61=>?_⟩ <;> (try simp [B_iff,B_not] at c61))
 | (refine Qe ?_)
 | (refine Qt ?_;simp [-zg,-zd,↓Qb,↓Qa,go_sem])
 | (refine Qs ?_;simp [-zg,-zd,↓Qb,↓Qa,go_sem])
 | (refine Qv ?_;simp [-zg,-zd,↓Qb,↓Qa,go_sem,Try.results4])
 | (intro hx;refine zA ?_)
 | (refine ⟨?_,?_⟩ <;> refine zA ?_)
 | (intro hx;constructor <;> intro hs)
 | (constructor <;> intro hs)
 | (refine ⟨?_,fun hs=>?_⟩;refine zA ?_)
 | (refine ⟨fun hs=>?_,?_⟩;rotate_left;refine zA ?_;rotate_left)))
  all_goals (first
 | (simp_all;done)
 | skip)

end Go.Proofs.Ytnfldmfamnhpcaa.Vm

