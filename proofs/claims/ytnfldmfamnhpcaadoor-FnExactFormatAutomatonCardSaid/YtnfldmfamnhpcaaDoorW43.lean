/-
  FnExactFormatAutomaton: the walk of the law. No conditions.
-/
import Derived.Test.YtnfldmfamnhpcaaDoorFA5
namespace Go.Proofs.YtnfldmfamnhpcaaDoor.Vm
open Go
open List renaming getD_eq_getElem?_getD → zg,drop_one → zd
set_option linter.unusedVariables false
set_option linter.unusedSimpArgs false
set_option maxRecDepth 200000

theorem zabl (a:List Int) (b:List Bool) (c:List Tr4) (hS:Xj c):Pure Tryd.prog 14 [.st [li cI a,li cB b,li cT c]] (.str (autT a b c)):=fun μ w vs _ hr=>by
  obtain ⟨v,rfl⟩:∃ v,vs = [v]:=by
    have:=hr.length
    match vs,this with
    | [v],_=>exact ⟨v,rfl⟩
  have h1:Rep (fun b=>b) (fun x=>x < w.heap.size) w (.st [li cI a,li cB b,li cT c]) v []:=Rep.ren (N:=0) (fun b hb=>absurd hb (by omega)) (by simp [bnd,bndL,cat_bnd,li]) hr.one
  refine (zabo w v a b c h1 hS).mono fun e w' ⟨he,hg⟩=>?_
  exact ⟨_,[],he,by simp [Rep,mkS,tx],.nil,by simp,⟨hg.os,hg.tape,hg.output,hg.size,fun b hb _=>hg.block b hb⟩⟩

noncomputable def zaab:Con:=.pure fun
  | [.st [.list n_a c_a,.list n_b c_b,.list n_c c_c]]=>((Is cI n_a c_a) ∧ (Is cB n_b c_b) ∧ (Is cT n_c c_c) ∧ (Xj (de cT c_c)),.str (autT (de cI c_a) (de cB c_b) (de cT c_c)))
  | _=>(False,.any)
attribute [go_sem] zaab
theorem zaay:ConOk Tryd.prog 14 zaab:=by
  refine ⟨Qt Tryd.func14 (by decide) rfl,fun args h=>?_⟩
  revert h
  dsimp only
  split
  · intro h
    obtain ⟨⟨a,rfl,rfl⟩,⟨b,rfl,rfl⟩,⟨c,rfl,rfl⟩,hS⟩:=h
    try simp only [Xd] at *
    exact ⟨zabl a b c hS,by simp [go_sem]⟩
  · intro h
    exact h.elim
noncomputable def Γfa4:FuncId → Con:=ext Γfa3 14 zaab
attribute [go_sem] Γfa4
theorem Xr:∀ g,ConOk Tryd.prog g (Γfa4 g):=Qu Γfa3_ok zaay

theorem lawFA (a:List Int) (b:List Bool) (c:List Tr4) (hS:Xj c):Pure Tryd.prog 4 [.st [li cI a,li cB b,li cT c]] (.bool true):=by
  refine Pure.of_walk Tryd.func4 rfl (by simp [Tryd.f4]) (by simp [-zd,go_sem]) fun B hK=>?_
  (repeat' (first
 | refine Qy ?_
 | refine Qc (id:=0) Xr [] (by kernel_rfl) ?_;simp [-zg,-zd,↓Qb,↓Qa,go_sem];try (refine Xi hK 1 ?_;simp [go_sem])
 | refine Qc (id:=1) Xr [] (by kernel_rfl) ?_;simp [-zg,-zd,↓Qb,↓Qa,go_sem]
 | refine Qc (id:=2) Xr [] (by kernel_rfl) ?_;simp [-zg,-zd,↓Qb,↓Qa,go_sem]
 | refine Qc (id:=3) Xr [] (by kernel_rfl) ?_;simp [-zg,-zd,↓Qb,↓Qa,go_sem]
 | refine Qc (id:=4) Xr [] (by kernel_rfl) ?_;simp [-zg,-zd,↓Qb,↓Qa,go_sem]
 | (have q1:=szOf_le c11;have hA:a.length ≤ 1048576:=(by omega);have hB:b.length ≤ 1048576:=(by omega);have hC:c.length ≤ 1048576:=(by omega));refine Qc (id:=5) Xr [] (by kernel_rfl) ?_;simp [-zg,-zd,↓Qb,↓Qa,go_sem,hA,hB,hC,hS]
 | refine Qc (id:=6) Xr [] (by kernel_rfl) ?_;simp [-zg,-zd,↓Qb,↓Qa,go_sem,hA,hB,hC];try (refine Xi hK 5 ?_;simp [go_sem])
 | refine Qc (id:=7) Xr [] (by kernel_rfl) ?_;simp [-zg,-zd,↓Qb,↓Qa,go_sem,hS]
 | refine Qc (id:=8) Xr [] (by kernel_rfl) ?_;simp [-zg,-zd,↓Qb,↓Qa,go_sem]
 | refine Qc (id:=9) Xr [] (by kernel_rfl) ?_;simp [-zg,-zd,↓Qb,↓Qa,go_sem]
 | refine zaae (id:=10) Xr mixed [] [] (by kernel_rfl) (by kernel_rfl) (by simp [-zg,-zd,↓Qb,↓Qa,go_sem,hA,hB,hC]) ?_;simp [-zg,-zd,↓Qb,↓Qa,go_sem,hA,hB,hC]
 | refine Qc (id:=11) Xr [] (by kernel_rfl) ?_;simp [-zg,-zd,↓Qb,↓Qa,go_sem]
 | refine Qc (id:=12) Xr [] (by kernel_rfl) ?_;simp [-zg,-zd,↓Qb,↓Qa,go_sem]
 | refine Qh (c:=.tmp 11) ?_;simp [-zg,-zd,↓Qb,↓Qa,go_sem];try first | (refine ⟨?_,?_⟩ <;> refine zA ?_) | (refine ⟨fun c11=>?_,fun c11=>?_⟩ <;> (try simp [B_iff,B_not] at c11))
 | refine Qh (c:=.tmp 21) ?_;simp [-zg,-zd,↓Qb,↓Qa,go_sem];try first | (refine ⟨?_,?_⟩ <;> refine zA ?_) | (refine ⟨fun c21=>?_,fun c21=>?_⟩ <;> (try simp [B_iff,B_not] at c21))
 | refine Qh (c:=.tmp 26) ?_;simp [-zg,-zd,↓Qb,↓Qa,go_sem];try first | (refine ⟨?_,?_⟩ <;> refine zA ?_) | (refine ⟨fun c26=>?_,fun c26=>?_⟩ <;> (try simp [B_iff,B_not] at c26))
 | (refine Qj ?_)
 | (refine Qw ?_;simp [-zg,-zd,↓Qb,↓Qa,go_sem])
 | (refine Qv ?_;simp [-zg,-zd,↓Qb,↓Qa,go_sem])
 | (refine Qz ?_;simp [-zg,-zd,↓Qb,↓Qa,go_sem,Tryd.results4])
 | (intro hx;refine zA ?_)
 | (refine ⟨?_,?_⟩ <;> refine zA ?_)
 | (intro hx;constructor <;> intro hs)
 | (constructor <;> intro hs)
 | (refine ⟨?_,fun hs=>?_⟩;refine zA ?_)
 | (refine ⟨fun hs=>?_,?_⟩;rotate_left;refine zA ?_;rotate_left)))

end Go.Proofs.YtnfldmfamnhpcaaDoor.Vm

