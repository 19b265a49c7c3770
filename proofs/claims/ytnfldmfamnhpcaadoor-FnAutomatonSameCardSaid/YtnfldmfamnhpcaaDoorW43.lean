/-
  FnExactFormatAutomaton: the walk of the law. No conditions.
-/
import Derived.Test.YtnfldmfamnhpcaaDoorFA5
namespace Go.Proofs.YtnfldmfamnhpcaaDoor.Vm
open Go
set_option linter.unusedVariables false
set_option linter.unusedSimpArgs false
set_option maxRecDepth 200000

theorem zadl (a:List Int) (b:List Bool) (c:List Tr4) (hS:Zc c):Pure Tryd.prog 14 [.st [li cI a,li cB b,li cT c]] (.str (autT a b c)):=fun μ w vs _ hr=>by
  obtain ⟨v,rfl⟩:∃ v,vs = [v]:=by
    have:=hr.length
    match vs,this with
    | [v],_=>exact ⟨v,rfl⟩
  have h1:Rep (fun b=>b) (fun x=>x < w.heap.size) w (.st [li cI a,li cB b,li cT c]) v []:=Rep.ren (N:=0) (fun b hb=>absurd hb (by omega)) (by simp [bnd,bndL,cat_bnd,li]) hr.one
  refine (zadr w v a b c h1 hS).mono fun e w' ⟨he,hg⟩=>?_
  exact ⟨_,[],he,by simp [Rep,mkS,tx],.nil,by simp,⟨hg.os,hg.tape,hg.output,hg.size,fun b hb _=>hg.block b hb⟩⟩

noncomputable def zaaf:Con:=.pure fun
  | [.st [.list n_a c_a,.list n_b c_b,.list n_c c_c]]=>((Is cI n_a c_a) ∧ (Is cB n_b c_b) ∧ (Is cT n_c c_c) ∧ (Zc (de cT c_c)),.str (autT (de cI c_a) (de cB c_b) (de cT c_c)))
  | _=>(False,.any)
attribute [go_sem] zaaf
theorem zacl:ConOk Tryd.prog 14 zaaf:=by
  refine ⟨Qq Tryd.func14 (by decide) rfl,fun args h=>?_⟩
  revert h
  dsimp only
  split
  · intro h
    obtain ⟨⟨a,rfl,rfl⟩,⟨b,rfl,rfl⟩,⟨c,rfl,rfl⟩,hS⟩:=h
    try simp only [Qj] at *
    exact ⟨zadl a b c hS,by simp [go_sem]⟩
  · intro h
    exact h.elim
noncomputable def Γfa4:FuncId → Con:=ext Γfa3 14 zaaf
attribute [go_sem] Γfa4
theorem Γfa4_ok:∀ g,ConOk Tryd.prog g (Γfa4 g):=Qp Γfa3_ok zacl

end Go.Proofs.YtnfldmfamnhpcaaDoor.Vm

