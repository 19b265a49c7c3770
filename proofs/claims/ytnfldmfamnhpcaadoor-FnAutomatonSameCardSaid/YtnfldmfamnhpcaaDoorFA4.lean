/-
  The specification's text of an automaton. Its condition: the edges' values are of 64 bits.
-/
import Derived.Test.YtnfldmfamnhpcaaDoorFA3
namespace Go.Proofs.YtnfldmfamnhpcaaDoor.Vm
open Go
set_option linter.unusedVariables false
set_option linter.unusedSimpArgs false
set_option maxRecDepth 200000

theorem l16Dec_pure (n:Int) (h0:0 ≤ n) (h:n ≤ 1000000000):Pure Tryd.prog 21 [.int .i64 n] (.str (decN n.toNat)):=fun μ w vs _ hr=>by
  obtain ⟨v,rfl⟩:∃ v,vs = [v]:=by
    have:=hr.length
    match vs,this with
    | [v],_=>exact ⟨v,rfl⟩
  have h1:=hr.one
  simp only [Rep] at h1
  obtain ⟨_,rfl⟩:=h1
  obtain ⟨x,rfl⟩:=Int.eq_ofNat_of_zero_le h0
  refine (l16Dec_any w x (by omega)).mono fun e w' ⟨he,hg⟩=>?_
  exact ⟨_,[],he,by simp [Rep,mkS,tx],.nil,by simp,⟨hg.os,hg.tape,hg.output,hg.size,fun b hb _=>hg.block b hb⟩⟩
noncomputable def l16DecC:Con:=.pure fun
  | [.int .i64 n]=>(0 ≤ n ∧ n ≤ 1000000000,.str (decN n.toNat))
  | _=>(False,.any)
attribute [go_sem] l16DecC
theorem l16DecC_ok:ConOk Tryd.prog 21 l16DecC:=by
  refine ⟨Qq Tryd.func21 (by decide) rfl,fun args h=>?_⟩
  revert h
  dsimp only
  split
  · rintro ⟨h0,h1⟩
    exact ⟨l16Dec_pure _ h0 h1,by simp [bnd]⟩
  · intro h
    exact h.elim
noncomputable def Γfa2:FuncId → Con:=ext Γfa1 21 l16DecC
attribute [go_sem] Γfa2
theorem Γfa2_ok:∀ g,ConOk Tryd.prog g (Γfa2 g):=Qp Γfa1_ok l16DecC_ok

noncomputable def Γfa3:FuncId → Con:=Γfa2
attribute [go_sem] Γfa3
theorem Γfa3_ok:∀ g,ConOk Tryd.prog g (Γfa3 g):=Γfa2_ok
end Go.Proofs.YtnfldmfamnhpcaaDoor.Vm

