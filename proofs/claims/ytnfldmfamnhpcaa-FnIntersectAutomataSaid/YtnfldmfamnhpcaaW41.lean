/-
  FnExactIntersectAutomata: the walk of the law. No conditions.
-/
import Derived.Test.YtnfldmfamnhpcaaIX7c
namespace Go.Proofs.Ytnfldmfamnhpcaa.Vm
open Go
noncomputable section
set_option linter.unusedVariables false
set_option linter.unusedSimpArgs false
set_option maxRecDepth 200000

def JnOk (a:List Int) (b:List Bool) (c:List Tr4) (a':List Int) (b':List Bool) (c':List Tr4):Prop:=IxP.Ok ⟨a,b,c,a',b',c'⟩ ∧ Zd ⟨a,b,c,a',b',c'⟩
def jI (a:List Int) (b:List Bool) (c:List Tr4) (a':List Int) (b':List Bool) (c':List Tr4):List Int:=if Vm.B (JnOk a b c a' b' c') = true then ups (ixI ⟨a,b,c,a',b',c'⟩).length else []
def jB (a:List Int) (b:List Bool) (c:List Tr4) (a':List Int) (b':List Bool) (c':List Tr4):List Bool:=if Vm.B (JnOk a b c a' b' c') = true then (ixF ⟨a,b,c,a',b',c'⟩).a else []
def jT (a:List Int) (b:List Bool) (c:List Tr4) (a':List Int) (b':List Bool) (c':List Tr4):List Tr4:=if Vm.B (JnOk a b c a' b' c') = true then (ixF ⟨a,b,c,a',b',c'⟩).e else []
theorem zaem {sz:Nat} {μ:Nat → Nat} {I:Nat → Prop} {w:World} {v:Value} {f:List Nat} (h:Rep μ I w .nil v f):Rep μ I w (.fr sz 0 []) v f:=by
  simp only [Rep] at h ⊢
  exact ⟨Nat.zero_le _,by simp,.inl ⟨trivial,h.1,h.2⟩⟩
theorem un_nilfr {f:FuncId} {args:List D} {bo:Bool} (h:Pure Try.prog f args (.tup [.st [.nil,.nil,.nil],.bool bo])):Pure Try.prog f args (.tup [.st [.fr 1 0 [],.fr 1 0 [],.fr 4 0 []],.bool bo]):=by
  intro μ w vs hb hr
  refine (h μ w vs hb hr).mono fun ex w' hq=>?_
  obtain ⟨v,fl,h1,h2,h3⟩:=hq
  refine ⟨v,fl,h1,?_,h3⟩
  rw [Rep] at h2 ⊢
  obtain ⟨vs,e1,h2⟩:=h2
  refine ⟨vs,e1,?_⟩
  rw [RepL] at h2 ⊢
  obtain ⟨v1,vs1,f1,f2,e2,e3,r1,r2⟩:=h2
  refine ⟨v1,vs1,f1,f2,e2,e3,?_,r2⟩
  rw [Rep] at r1 ⊢
  obtain ⟨us,e4,r1⟩:=r1
  refine ⟨us,e4,?_⟩
  rw [RepL] at r1 ⊢
  obtain ⟨u1,us1,g1,g2,k1,k2,s1,r1⟩:=r1
  refine ⟨u1,us1,g1,g2,k1,k2,zaem s1,?_⟩
  rw [RepL] at r1 ⊢
  obtain ⟨u2,us2,g3,g4,k3,k4,s2,r1⟩:=r1
  refine ⟨u2,us2,g3,g4,k3,k4,zaem s2,?_⟩
  rw [RepL] at r1 ⊢
  obtain ⟨u3,us3,g5,g6,k5,k6,s3,r1⟩:=r1
  exact ⟨u3,us3,g5,g6,k5,k6,zaem s3,r1⟩
theorem ix_nilfr {f:FuncId} {args:List D} {bo:Bool} {xs:List Bool} (h:Pure Try.prog f args (.tup [.st [.nil,fr 1 cB xs,.nil],.bool bo])):Pure Try.prog f args (.tup [.st [.fr 1 0 [],fr 1 cB xs,.fr 4 0 []],.bool bo]):=by
  intro μ w vs hb hr
  refine (h μ w vs hb hr).mono fun ex w' hq=>?_
  obtain ⟨v,fl,h1,h2,h3⟩:=hq
  refine ⟨v,fl,h1,?_,h3⟩
  rw [Rep] at h2 ⊢
  obtain ⟨vs,e1,h2⟩:=h2
  refine ⟨vs,e1,?_⟩
  rw [RepL] at h2 ⊢
  obtain ⟨v1,vs1,f1,f2,e2,e3,r1,r2⟩:=h2
  refine ⟨v1,vs1,f1,f2,e2,e3,?_,r2⟩
  rw [Rep] at r1 ⊢
  obtain ⟨us,e4,r1⟩:=r1
  refine ⟨us,e4,?_⟩
  rw [RepL] at r1 ⊢
  obtain ⟨u1,us1,g1,g2,k1,k2,s1,r1⟩:=r1
  refine ⟨u1,us1,g1,g2,k1,k2,zaem s1,?_⟩
  rw [RepL] at r1 ⊢
  obtain ⟨u2,us2,g3,g4,k3,k4,s2,r1⟩:=r1
  refine ⟨u2,us2,g3,g4,k3,k4,s2,?_⟩
  rw [RepL] at r1 ⊢
  obtain ⟨u3,us3,g5,g6,k5,k6,s3,r1⟩:=r1
  exact ⟨u3,us3,g5,g6,k5,k6,zaem s3,r1⟩
theorem j_no (a:List Int) (b:List Bool) (c:List Tr4) (a':List Int) (b':List Bool) (c':List Tr4) {f:FuncId} {args:List D} (hn:¬ JnOk a b c a' b' c') (h:Pure Try.prog f args (.tup [.st [.nil,.nil,.nil],.bool false])):Pure Try.prog f args (.tup [.st [fr 1 cI (jI a b c a' b' c'),fr 1 cB (jB a b c a' b' c'),fr 4 cT (jT a b c a' b' c')],.bool (Vm.B (JnOk a b c a' b' c'))]):=by
  unfold jI jB jT
  rw [B_no hn]
  have:=un_nilfr h
  simpa [fr,cat] using this
theorem j_yes (a:List Int) (b:List Bool) (c:List Tr4) (a':List Int) (b':List Bool) (c':List Tr4) {f:FuncId} {args:List D} (hn:JnOk a b c a' b' c') (h:Pure Try.prog f args (.tup [.st [fr 1 cI (ups (ixI ⟨a,b,c,a',b',c'⟩).length),fr 1 cB (ixF ⟨a,b,c,a',b',c'⟩).a,fr 4 cT (ixF ⟨a,b,c,a',b',c'⟩).e],.bool true])):Pure Try.prog f args (.tup [.st [fr 1 cI (jI a b c a' b' c'),fr 1 cB (jB a b c a' b' c'),fr 4 cT (jT a b c a' b' c')],.bool (Vm.B (JnOk a b c a' b' c'))]):=by
  unfold jI jB jT
  rw [B_yes hn]
  simpa using h
theorem implIxF (a:List Int) (b:List Bool) (c:List Tr4) (a':List Int) (b':List Bool) (c':List Tr4) (hS:Xn c) (hS':Xn c'):Pure Try.prog 8 [.st [li cI a,li cB b,li cT c],.st [li cI a',li cB b',li cT c']] (.tup [.st [fr 1 cI (jI a b c a' b' c'),fr 1 cB (jB a b c a' b' c'),fr 4 cT (jT a b c a' b' c')],.bool (Vm.B (JnOk a b c a' b' c'))]):=by
  have h:=zaoi a b c a' b' c' hS hS'
  by_cases hO:IxP.Ok ⟨a,b,c,a',b',c'⟩
  · rw [if_pos (B_yes hO)] at h
    by_cases hG:Zd ⟨a,b,c,a',b',c'⟩
    · refine j_yes a b c a' b' c' ⟨hO,hG⟩ ?_
      by_cases hI:ixI ⟨a,b,c,a',b',c'⟩ = []
      · rw [ixRes_none hG hI] at h
        have h2:=ix_nilfr h
        have e:=(ix_none hO hI).1
        rw [e,hI]
        simpa [fr,cat,ups] using h2
      · rw [ixRes_some hG hI] at h
        exact h
    · rw [ixRes_no hG] at h
      exact j_no a b c a' b' c' (fun k=>hG k.2) h
  · rw [if_neg (by simp [B_no hO])] at h
    exact j_no a b c a' b' c' (fun k=>hO k.1) h
theorem specIxF (a:List Int) (b:List Bool) (c:List Tr4) (a':List Int) (b':List Bool) (c':List Tr4) (hS:Xn c) (hS':Xn c'):Pure Try.prog 6 [.st [li cI a,li cB b,li cT c],.st [li cI a',li cB b',li cT c']] (.tup [.st [fr 1 cI (jI a b c a' b' c'),fr 1 cB (jB a b c a' b' c'),fr 4 cT (jT a b c a' b' c')],.bool (Vm.B (JnOk a b c a' b' c'))]):=by
  have h:=zany a b c a' b' c' hS hS'
  by_cases hO:JnOk a b c a' b' c'
  · rw [ixRes2_yes hO.1 hO.2] at h
    exact j_yes a b c a' b' c' hO h
  · rw [zadx hO] at h
    exact j_no a b c a' b' c' hO h

@[go_sem] def implIxFC:Con:=.pure fun
  | [.st [.list n_a c_a,.list n_b c_b,.list n_c c_c],.st [.list n_a' c_a',.list n_b' c_b',.list n_c' c_c']]=>((Is cI n_a c_a) ∧ (Is cB n_b c_b) ∧ (Is cT n_c c_c) ∧ (Is cI n_a' c_a') ∧ (Is cB n_b' c_b') ∧ (Is cT n_c' c_c') ∧ (Xn (de cT c_c)) ∧ (Xn (de cT c_c')),.tup [.st [fr 1 cI (jI (de cI c_a) (de cB c_b) (de cT c_c) (de cI c_a') (de cB c_b') (de cT c_c')),fr 1 cB (jB (de cI c_a) (de cB c_b) (de cT c_c) (de cI c_a') (de cB c_b') (de cT c_c')),fr 4 cT (jT (de cI c_a) (de cB c_b) (de cT c_c) (de cI c_a') (de cB c_b') (de cT c_c'))],.bool (Vm.B (JnOk (de cI c_a) (de cB c_b) (de cT c_c) (de cI c_a') (de cB c_b') (de cT c_c')))])
  | _=>(False,.any)
theorem implIxFC_ok:ConOk Try.prog 8 implIxFC:=by
  refine ⟨Qp Try.func8 (by decide) rfl,fun args h=>?_⟩
  revert h
  dsimp only
  split
  · intro h
    obtain ⟨⟨a,rfl,rfl⟩,⟨b,rfl,rfl⟩,⟨c,rfl,rfl⟩,⟨a',rfl,rfl⟩,⟨b',rfl,rfl⟩,⟨c',rfl,rfl⟩,hS,hS'⟩:=h
    try simp only [Qr] at *
    exact ⟨implIxF a b c a' b' c' hS hS',by simp [go_sem]⟩
  · intro h
    exact h.elim
@[go_sem] def Γi8:FuncId → Con:=ext Γi7 8 implIxFC
theorem Γi8_ok:∀ g,ConOk Try.prog g (Γi8 g):=Qo Γi7_ok implIxFC_ok

@[go_sem] def specIxFC:Con:=.pure fun
  | [.st [.list n_a c_a,.list n_b c_b,.list n_c c_c],.st [.list n_a' c_a',.list n_b' c_b',.list n_c' c_c']]=>((Is cI n_a c_a) ∧ (Is cB n_b c_b) ∧ (Is cT n_c c_c) ∧ (Is cI n_a' c_a') ∧ (Is cB n_b' c_b') ∧ (Is cT n_c' c_c') ∧ (Xn (de cT c_c)) ∧ (Xn (de cT c_c')),.tup [.st [fr 1 cI (jI (de cI c_a) (de cB c_b) (de cT c_c) (de cI c_a') (de cB c_b') (de cT c_c')),fr 1 cB (jB (de cI c_a) (de cB c_b) (de cT c_c) (de cI c_a') (de cB c_b') (de cT c_c')),fr 4 cT (jT (de cI c_a) (de cB c_b) (de cT c_c) (de cI c_a') (de cB c_b') (de cT c_c'))],.bool (Vm.B (JnOk (de cI c_a) (de cB c_b) (de cT c_c) (de cI c_a') (de cB c_b') (de cT c_c')))])
  | _=>(False,.any)
theorem specIxFC_ok:ConOk Try.prog 6 specIxFC:=by
  refine ⟨Qp Try.func6 (by decide) rfl,fun args h=>?_⟩
  revert h
  dsimp only
  split
  · intro h
    obtain ⟨⟨a,rfl,rfl⟩,⟨b,rfl,rfl⟩,⟨c,rfl,rfl⟩,⟨a',rfl,rfl⟩,⟨b',rfl,rfl⟩,⟨c',rfl,rfl⟩,hS,hS'⟩:=h
    try simp only [Qr] at *
    exact ⟨specIxF a b c a' b' c' hS hS',by simp [go_sem]⟩
  · intro h
    exact h.elim
@[go_sem] def Γi9:FuncId → Con:=ext Γi8 6 specIxFC
theorem Γi9_ok:∀ g,ConOk Try.prog g (Γi9 g):=Qo Γi8_ok specIxFC_ok

end
end Go.Proofs.Ytnfldmfamnhpcaa.Vm

