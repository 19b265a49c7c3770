/-
  Rows of Bools and of transitions cloned; an automaton copied. No conditions.
-/
import Derived.Test.YtnfldmfamnhpcaaN9
namespace Go.Proofs.Ytnfldmfamnhpcaa.Vm
open Go
open List renaming getD_eq_getElem?_getD → zg,drop_one → zd
noncomputable section
set_option linter.unusedVariables false
set_option linter.unusedSimpArgs false
set_option maxRecDepth 200000

@[go_sem] def Γu0:FuncId → Con:=Γn13
theorem Γu0_ok:∀ g,ConOk Try.prog g (Γu0 g):=Γn13_ok

theorem clipB_spec (xs:List Bool) (H:Hp):Spec Try.prog 88 [fr 1 cB xs] H (fr 1 cB xs) H:=by
  refine Spec.of_walk Try.func88 rfl (by simp [Try.f88]) fun B=>?_
  refine Zk 0 rfl fun b cp j hb hcp hj=>?_
  (repeat' (first
 | refine Qu ?_
 | refine Qc (id:=0) Γu0_ok [] (by kernel_rfl) ?_;simp [-zg,-zd,↓Qb,↓Qa,go_sem]
 | refine Qc (id:=1) Γu0_ok [] (by kernel_rfl) ?_;simp [-zg,-zd,↓Qb,↓Qa,go_sem,hcp,Zl];try (refine Jz 2 (b:=b) (all:=cat cB xs ++ List.replicate j .any) rfl (by simp [go_sem]) (by omega) (by simp [Qx]) (by simp [Qx]) ?_)
 | (refine Qe ?_)
 | (refine Qt ?_;simp [-zg,-zd,↓Qb,↓Qa,go_sem])
 | (refine Qs ?_;simp [-zg,-zd,↓Qb,↓Qa,go_sem])
 | (refine Qv ?_;simp [-zg,-zd,↓Qb,↓Qa,go_sem,Try.results88])
 | (intro hx;refine zA ?_)
 | (refine ⟨?_,?_⟩ <;> refine zA ?_)
 | (intro hx;constructor <;> intro hs)
 | (constructor <;> intro hs)
 | (refine ⟨?_,fun hs=>?_⟩;refine zA ?_)
 | (refine ⟨fun hs=>?_,?_⟩;rotate_left;refine zA ?_;rotate_left)))
  all_goals (intro b' cs' h;refine ⟨?_,h⟩;rintro rfl;dsimp only at hb;rw [h] at hb;cases hb)
@[go_sem] def clipBC:Con:=.gen fun args H=>match args with
  | [.fr 1 n cs]=>(Is cB n cs,fr 1 cB (de cB cs),H)
  | _=>(False,.any,H)
theorem clipBC_ok:ConOk Try.prog 88 clipBC:=by
  refine ⟨Qp Try.func88 (by decide) rfl,fun args H h=>?_⟩
  revert h
  dsimp only
  split
  · rintro ⟨xs,rfl,rfl⟩
    rw [Qr]
    exact clipB_spec xs H
  · intro h
    exact h.elim
@[go_sem] def Γu1:FuncId → Con:=ext Γu0 88 clipBC
theorem Γu1_ok:∀ g,ConOk Try.prog g (Γu1 g):=Qo Γu0_ok clipBC_ok

theorem CloneB_pure (xs:List Bool) (h0:xs.length ≤ 1048576):Pure Try.prog 89 [li cB xs] (fr 1 cB xs):=by
  refine Pure.of_walk Try.func89 rfl (by simp [Try.f89]) (by simp [-zd,go_sem]) fun B hK=>?_
  by_cases hn:xs = []
  all_goals (repeat' (first
 | refine Qu ?_
 | refine Qc (id:=0) Γu1_ok [] (by kernel_rfl) ?_;simp [-zg,-zd,↓Qb,↓Qa,go_sem,hn]
 | refine Qc (id:=1) Γu1_ok [] (by kernel_rfl) ?_;simp [-zg,-zd,↓Qb,↓Qa,go_sem,hn]
 | refine Qc (id:=2) Γu1_ok [] (by kernel_rfl) ?_;simp [-zg,-zd,↓Qb,↓Qa,go_sem,hn];try (try (refine Wq 2 1 rfl ?_))
 | refine Qc (id:=3) Γu1_ok [] (by kernel_rfl) ?_;simp [-zg,-zd,↓Qb,↓Qa,go_sem,(by omega:xs.length ≤ 9223372036854775807),(by omega:2 * xs.length * 1 ≤ 281474976710656),(by omega:2 * xs.length ≤ 281474976710656),hn]
 | refine Qd (c:=.tmp 4) ?_;simp [-zg,-zd,↓Qb,↓Qa,go_sem,hn];try first | (refine ⟨?_,?_⟩ <;> refine zA ?_) | (refine ⟨fun c4=>?_,fun c4=>?_⟩ <;> (try simp [B_iff,B_not] at c4))
 | (refine Qe ?_)
 | (refine Qt ?_;simp [-zg,-zd,↓Qb,↓Qa,go_sem])
 | (refine Qs ?_;simp [-zg,-zd,↓Qb,↓Qa,go_sem])
 | (refine Qv ?_;simp [-zg,-zd,↓Qb,↓Qa,go_sem,Try.results89,hn])
 | (intro hx;refine zA ?_)
 | (refine ⟨?_,?_⟩ <;> refine zA ?_)
 | (intro hx;constructor <;> intro hs)
 | (constructor <;> intro hs)
 | (refine ⟨?_,fun hs=>?_⟩;refine zA ?_)
 | (refine ⟨fun hs=>?_,?_⟩;rotate_left;refine zA ?_;rotate_left)))
@[go_sem] def zagq:Con:=.pure fun
  | [.list n_xs c_xs]=>((Is cB n_xs c_xs) ∧ ((de cB c_xs).length ≤ 1048576),fr 1 cB (de cB c_xs))
  | _=>(False,.any)
theorem zans:ConOk Try.prog 89 zagq:=by
  refine ⟨Qp Try.func89 (by decide) rfl,fun args h=>?_⟩
  revert h
  dsimp only
  split
  · intro h
    obtain ⟨⟨xs,rfl,rfl⟩,h0⟩:=h
    try simp only [Qr] at *
    exact ⟨CloneB_pure xs h0,by simp [go_sem]⟩
  · intro h
    exact h.elim
@[go_sem] def Γu2:FuncId → Con:=ext Γu1 89 zagq
theorem Γu2_ok:∀ g,ConOk Try.prog g (Γu2 g):=Qo Γu1_ok zans

theorem cloneB_pure (xs:List Bool) (h0:xs.length ≤ 1048576):Pure Try.prog 70 [li cB xs] (fr 1 cB xs):=by
  refine Pure.of_walk Try.func70 rfl (by simp [Try.f70]) (by simp [-zd,go_sem]) fun B hK=>?_
  (repeat' (first
 | refine Qu ?_
 | refine Qc (id:=0) Γu2_ok [] (by kernel_rfl) ?_;simp [-zg,-zd,↓Qb,↓Qa,go_sem]
 | refine Qc (id:=1) Γu2_ok [] (by kernel_rfl) ?_;simp [-zg,-zd,↓Qb,↓Qa,go_sem,h0]
 | (refine Qe ?_)
 | (refine Qt ?_;simp [-zg,-zd,↓Qb,↓Qa,go_sem])
 | (refine Qs ?_;simp [-zg,-zd,↓Qb,↓Qa,go_sem])
 | (refine Qv ?_;simp [-zg,-zd,↓Qb,↓Qa,go_sem,Try.results70])
 | (intro hx;refine zA ?_)
 | (refine ⟨?_,?_⟩ <;> refine zA ?_)
 | (intro hx;constructor <;> intro hs)
 | (constructor <;> intro hs)
 | (refine ⟨?_,fun hs=>?_⟩;refine zA ?_)
 | (refine ⟨fun hs=>?_,?_⟩;rotate_left;refine zA ?_;rotate_left)))
@[go_sem] def zagl:Con:=.pure fun
  | [.list n_xs c_xs]=>((Is cB n_xs c_xs) ∧ ((de cB c_xs).length ≤ 1048576),fr 1 cB (de cB c_xs))
  | _=>(False,.any)
theorem zann:ConOk Try.prog 70 zagl:=by
  refine ⟨Qp Try.func70 (by decide) rfl,fun args h=>?_⟩
  revert h
  dsimp only
  split
  · intro h
    obtain ⟨⟨xs,rfl,rfl⟩,h0⟩:=h
    try simp only [Qr] at *
    exact ⟨cloneB_pure xs h0,by simp [go_sem]⟩
  · intro h
    exact h.elim
@[go_sem] def Γu3:FuncId → Con:=ext Γu2 70 zagl
theorem Γu3_ok:∀ g,ConOk Try.prog g (Γu3 g):=Qo Γu2_ok zann

theorem clipT_spec (xs:List Tr4) (H:Hp):Spec Try.prog 90 [fr 4 cT xs] H (fr 4 cT xs) H:=by
  refine Spec.of_walk Try.func90 rfl (by simp [Try.f90]) fun B=>?_
  refine Zk 0 rfl fun b cp j hb hcp hj=>?_
  (repeat' (first
 | refine Qu ?_
 | refine Qc (id:=0) Γu3_ok [] (by kernel_rfl) ?_;simp [-zg,-zd,↓Qb,↓Qa,go_sem]
 | refine Qc (id:=1) Γu3_ok [] (by kernel_rfl) ?_;simp [-zg,-zd,↓Qb,↓Qa,go_sem,hcp,Zl];try (refine Jz 2 (b:=b) (all:=cat cT xs ++ List.replicate j .any) rfl (by simp [go_sem]) (by omega) (by simp [Qx]) (by simp [Qx]) ?_)
 | (refine Qe ?_)
 | (refine Qt ?_;simp [-zg,-zd,↓Qb,↓Qa,go_sem])
 | (refine Qs ?_;simp [-zg,-zd,↓Qb,↓Qa,go_sem])
 | (refine Qv ?_;simp [-zg,-zd,↓Qb,↓Qa,go_sem,Try.results90])
 | (intro hx;refine zA ?_)
 | (refine ⟨?_,?_⟩ <;> refine zA ?_)
 | (intro hx;constructor <;> intro hs)
 | (constructor <;> intro hs)
 | (refine ⟨?_,fun hs=>?_⟩;refine zA ?_)
 | (refine ⟨fun hs=>?_,?_⟩;rotate_left;refine zA ?_;rotate_left)))
  all_goals (intro b' cs' h;refine ⟨?_,h⟩;rintro rfl;dsimp only at hb;rw [h] at hb;cases hb)
@[go_sem] def clipTC:Con:=.gen fun args H=>match args with
  | [.fr 4 n cs]=>(Is cT n cs,fr 4 cT (de cT cs),H)
  | _=>(False,.any,H)
theorem clipTC_ok:ConOk Try.prog 90 clipTC:=by
  refine ⟨Qp Try.func90 (by decide) rfl,fun args H h=>?_⟩
  revert h
  dsimp only
  split
  · rintro ⟨xs,rfl,rfl⟩
    rw [Qr]
    exact clipT_spec xs H
  · intro h
    exact h.elim
@[go_sem] def Γu4:FuncId → Con:=ext Γu3 90 clipTC
theorem Γu4_ok:∀ g,ConOk Try.prog g (Γu4 g):=Qo Γu3_ok clipTC_ok

theorem CloneT_pure (xs:List Tr4) (h0:xs.length ≤ 1048576):Pure Try.prog 91 [li cT xs] (fr 4 cT xs):=by
  refine Pure.of_walk Try.func91 rfl (by simp [Try.f91]) (by simp [-zd,go_sem]) fun B hK=>?_
  by_cases hn:xs = []
  all_goals (repeat' (first
 | refine Qu ?_
 | refine Qc (id:=0) Γu4_ok [] (by kernel_rfl) ?_;simp [-zg,-zd,↓Qb,↓Qa,go_sem,hn]
 | refine Qc (id:=1) Γu4_ok [] (by kernel_rfl) ?_;simp [-zg,-zd,↓Qb,↓Qa,go_sem,hn]
 | refine Qc (id:=2) Γu4_ok [] (by kernel_rfl) ?_;simp [-zg,-zd,↓Qb,↓Qa,go_sem,hn];try (try (refine Wq 2 4 rfl ?_))
 | refine Qc (id:=3) Γu4_ok [] (by kernel_rfl) ?_;simp [-zg,-zd,↓Qb,↓Qa,go_sem,(by omega:xs.length ≤ 9223372036854775807),(by omega:2 * xs.length * 32 ≤ 281474976710656),(by omega:2 * xs.length ≤ 281474976710656),hn]
 | refine Qd (c:=.tmp 4) ?_;simp [-zg,-zd,↓Qb,↓Qa,go_sem,hn];try first | (refine ⟨?_,?_⟩ <;> refine zA ?_) | (refine ⟨fun c4=>?_,fun c4=>?_⟩ <;> (try simp [B_iff,B_not] at c4))
 | (refine Qe ?_)
 | (refine Qt ?_;simp [-zg,-zd,↓Qb,↓Qa,go_sem])
 | (refine Qs ?_;simp [-zg,-zd,↓Qb,↓Qa,go_sem])
 | (refine Qv ?_;simp [-zg,-zd,↓Qb,↓Qa,go_sem,Try.results91,hn])
 | (intro hx;refine zA ?_)
 | (refine ⟨?_,?_⟩ <;> refine zA ?_)
 | (intro hx;constructor <;> intro hs)
 | (constructor <;> intro hs)
 | (refine ⟨?_,fun hs=>?_⟩;refine zA ?_)
 | (refine ⟨fun hs=>?_,?_⟩;rotate_left;refine zA ?_;rotate_left)))
@[go_sem] def zagp:Con:=.pure fun
  | [.list n_xs c_xs]=>((Is cT n_xs c_xs) ∧ ((de cT c_xs).length ≤ 1048576),fr 4 cT (de cT c_xs))
  | _=>(False,.any)
theorem zanr:ConOk Try.prog 91 zagp:=by
  refine ⟨Qp Try.func91 (by decide) rfl,fun args h=>?_⟩
  revert h
  dsimp only
  split
  · intro h
    obtain ⟨⟨xs,rfl,rfl⟩,h0⟩:=h
    try simp only [Qr] at *
    exact ⟨CloneT_pure xs h0,by simp [go_sem]⟩
  · intro h
    exact h.elim
@[go_sem] def Γu5:FuncId → Con:=ext Γu4 91 zagp
theorem Γu5_ok:∀ g,ConOk Try.prog g (Γu5 g):=Qo Γu4_ok zanr

theorem cloneT_pure (xs:List Tr4) (h0:xs.length ≤ 1048576):Pure Try.prog 71 [li cT xs] (fr 4 cT xs):=by
  refine Pure.of_walk Try.func71 rfl (by simp [Try.f71]) (by simp [-zd,go_sem]) fun B hK=>?_
  (repeat' (first
 | refine Qu ?_
 | refine Qc (id:=0) Γu5_ok [] (by kernel_rfl) ?_;simp [-zg,-zd,↓Qb,↓Qa,go_sem]
 | refine Qc (id:=1) Γu5_ok [] (by kernel_rfl) ?_;simp [-zg,-zd,↓Qb,↓Qa,go_sem,h0]
 | (refine Qe ?_)
 | (refine Qt ?_;simp [-zg,-zd,↓Qb,↓Qa,go_sem])
 | (refine Qs ?_;simp [-zg,-zd,↓Qb,↓Qa,go_sem])
 | (refine Qv ?_;simp [-zg,-zd,↓Qb,↓Qa,go_sem,Try.results71])
 | (intro hx;refine zA ?_)
 | (refine ⟨?_,?_⟩ <;> refine zA ?_)
 | (intro hx;constructor <;> intro hs)
 | (constructor <;> intro hs)
 | (refine ⟨?_,fun hs=>?_⟩;refine zA ?_)
 | (refine ⟨fun hs=>?_,?_⟩;rotate_left;refine zA ?_;rotate_left)))
@[go_sem] def zagk:Con:=.pure fun
  | [.list n_xs c_xs]=>((Is cT n_xs c_xs) ∧ ((de cT c_xs).length ≤ 1048576),fr 4 cT (de cT c_xs))
  | _=>(False,.any)
theorem zanm:ConOk Try.prog 71 zagk:=by
  refine ⟨Qp Try.func71 (by decide) rfl,fun args h=>?_⟩
  revert h
  dsimp only
  split
  · intro h
    obtain ⟨⟨xs,rfl,rfl⟩,h0⟩:=h
    try simp only [Qr] at *
    exact ⟨cloneT_pure xs h0,by simp [go_sem]⟩
  · intro h
    exact h.elim
@[go_sem] def Γu6:FuncId → Con:=ext Γu5 71 zagk
theorem Γu6_ok:∀ g,ConOk Try.prog g (Γu6 g):=Qo Γu5_ok zanm

theorem copyOf_pure (a:List Int) (b:List Bool) (c:List Tr4) (h0:a.length ≤ 1048576) (h1:b.length ≤ 1048576) (h2:c.length ≤ 1048576):Pure Try.prog 55 [.st [li cI a,li cB b,li cT c]] (.st [fr 1 cI a,fr 1 cB b,fr 4 cT c]):=by
  refine Pure.of_walk Try.func55 rfl (by simp [Try.f55]) (by simp [-zd,go_sem]) fun B hK=>?_
  (repeat' (first
 | refine Qu ?_
 | refine Qc (id:=0) Γu6_ok [] (by kernel_rfl) ?_;simp [-zg,-zd,↓Qb,↓Qa,go_sem,h0,h1,h2];try (refine Xb hK 1 ?_;simp [go_sem])
 | refine Xr (id:=1) Γu6_ok mixed [] [1] (by kernel_rfl) (by kernel_rfl) (by simp [-zg,-zd,↓Qb,↓Qa,go_sem,h0,h1,h2]) ?_;simp [-zg,-zd,↓Qb,↓Qa,go_sem,h0,h1,h2]
 | (refine Qe ?_)
 | (refine Qt ?_;simp [-zg,-zd,↓Qb,↓Qa,go_sem])
 | (refine Qs ?_;simp [-zg,-zd,↓Qb,↓Qa,go_sem])
 | (refine Qv ?_;simp [-zg,-zd,↓Qb,↓Qa,go_sem,Try.results55,h0,h1,h2])
 | (intro hx;refine zA ?_)
 | (refine ⟨?_,?_⟩ <;> refine zA ?_)
 | (intro hx;constructor <;> intro hs)
 | (constructor <;> intro hs)
 | (refine ⟨?_,fun hs=>?_⟩;refine zA ?_)
 | (refine ⟨fun hs=>?_,?_⟩;rotate_left;refine zA ?_;rotate_left)))
@[go_sem] def zagh:Con:=.pure fun
  | [.st [.list n_a c_a,.list n_b c_b,.list n_c c_c]]=>((Is cI n_a c_a) ∧ (Is cB n_b c_b) ∧ (Is cT n_c c_c) ∧ ((de cI c_a).length ≤ 1048576) ∧ ((de cB c_b).length ≤ 1048576) ∧ ((de cT c_c).length ≤ 1048576),.st [fr 1 cI (de cI c_a),fr 1 cB (de cB c_b),fr 4 cT (de cT c_c)])
  | _=>(False,.any)
theorem zank:ConOk Try.prog 55 zagh:=by
  refine ⟨Qp Try.func55 (by decide) rfl,fun args h=>?_⟩
  revert h
  dsimp only
  split
  · intro h
    obtain ⟨⟨a,rfl,rfl⟩,⟨b,rfl,rfl⟩,⟨c,rfl,rfl⟩,h0,h1,h2⟩:=h
    try simp only [Qr] at *
    exact ⟨copyOf_pure a b c h0 h1 h2,by simp [go_sem]⟩
  · intro h
    exact h.elim
@[go_sem] def Γu7:FuncId → Con:=ext Γu6 55 zagh
theorem Jr:∀ g,ConOk Try.prog g (Γu7 g):=Qo Γu6_ok zank

end
end Go.Proofs.Ytnfldmfamnhpcaa.Vm

