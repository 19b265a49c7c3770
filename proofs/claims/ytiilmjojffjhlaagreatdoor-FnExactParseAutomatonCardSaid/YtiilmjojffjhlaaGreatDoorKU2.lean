import Derived.Test.YtiilmjojffjhlaaGreatDoorKN9
/-
  Rows of Bools and of transitions cloned; an automaton copied. No conditions.
-/
namespace Go.Proofs.YtiilmjojffjhlaaGreatDoor.Vm
open Go
open Nat renaming sub_pos_of_lt → zsP
open List renaming getD_eq_getElem?_getD → zg,drop_one → zd
open Ne renaming symm → zS
noncomputable section
set_option linter.unusedVariables false
set_option linter.unusedSimpArgs false
set_option maxRecDepth 200000

@[go_sem] def Γu0:FuncId → Con:=Γn13
theorem Γu0_ok:∀ g,ConOk Tryz.prog g (Γu0 g):=Γn13_ok

theorem clipB_spec (xs:List Bool) (H:Hp):Spec Tryz.prog 89 [fr 1 cB xs] H (fr 1 cB xs) H:=by
  refine Spec.of_walk Tryz.func89 rfl (by simp [Tryz.f89]) fun B=>?_
  refine AW_mat 0 rfl fun b cp j hb hcp hj=>?_
  (repeat' (first
 | refine Qr ?_
 | refine Qc (id:=0) Γu0_ok [] (by kernel_rfl) ?_;simp [-zg,-zd,↓Qb,↓Qa,go_sem]
 | refine Qc (id:=1) Γu0_ok [] (by kernel_rfl) ?_;simp [-zg,-zd,↓Qb,↓Qa,go_sem,hcp,zaax];try (refine AW_unmat 2 (b:=b) (all:=cat cB xs ++ List.replicate j .any) rfl (by simp [go_sem]) (by omega) (by simp [Qz]) (by simp [Qz]) ?_)
 | (refine Qg ?_)
 | (refine Qq ?_;simp [-zg,-zd,↓Qb,↓Qa,go_sem])
 | (refine Qp ?_;simp [-zg,-zd,↓Qb,↓Qa,go_sem])
 | (refine Qs ?_;simp [-zg,-zd,↓Qb,↓Qa,go_sem,Tryz.results89])
 | (intro hx;refine zA ?_)
 | (refine ⟨?_,?_⟩ <;> refine zA ?_)
 | (intro hx;constructor <;> intro hs)
 | (constructor <;> intro hs)
 | (refine ⟨?_,fun hs=>?_⟩;refine zA ?_)
 | (refine ⟨fun hs=>?_,?_⟩;rotate_left;refine zA ?_;rotate_left)))
  all_goals (intro b' cs' h;refine ⟨?_,h⟩;rintro rfl;dsimp only at hb;rw [h] at hb;cases hb)
@[go_sem] def clipBC:Con:=.gen fun args H=>match args with
  | [.fr 1 n cs]=>(Is cB n cs,fr 1 cB (de cB cs),H)
  | _=>(False,.any,H)
theorem clipBC_ok:ConOk Tryz.prog 89 clipBC:=by
  refine ⟨Qn Tryz.func89 (by decide) rfl,fun args H h=>?_⟩
  revert h
  dsimp only
  split
  · rintro ⟨xs,rfl,rfl⟩
    rw [Xb]
    exact clipB_spec xs H
  · intro h
    exact h.elim
@[go_sem] def Γu1:FuncId → Con:=ext Γu0 89 clipBC
theorem Γu1_ok:∀ g,ConOk Tryz.prog g (Γu1 g):=Qu Γu0_ok clipBC_ok

theorem CloneB_pure (xs:List Bool) (h0:xs.length ≤ 1048576):Pure Tryz.prog 90 [li cB xs] (fr 1 cB xs):=by
  refine Pure.of_walk Tryz.func90 rfl (by simp [Tryz.f90]) (by simp [-zd,go_sem]) fun B hK=>?_
  by_cases hn:xs = []
  all_goals (repeat' (first
 | refine Qr ?_
 | refine Qc (id:=0) Γu1_ok [] (by kernel_rfl) ?_;simp [-zg,-zd,↓Qb,↓Qa,go_sem,hn]
 | refine Qc (id:=1) Γu1_ok [] (by kernel_rfl) ?_;simp [-zg,-zd,↓Qb,↓Qa,go_sem,hn]
 | refine Qc (id:=2) Γu1_ok [] (by kernel_rfl) ?_;simp [-zg,-zd,↓Qb,↓Qa,go_sem,hn];try (try (refine AW_nilfr 2 1 rfl ?_))
 | refine Qc (id:=3) Γu1_ok [] (by kernel_rfl) ?_;simp [-zg,-zd,↓Qb,↓Qa,go_sem,(by omega:xs.length ≤ 9223372036854775807),(by omega:2 * xs.length * 1 ≤ 281474976710656),(by omega:2 * xs.length ≤ 281474976710656),hn]
 | refine Qf (c:=.tmp 4) ?_;simp [-zg,-zd,↓Qb,↓Qa,go_sem,hn];try first | (refine ⟨?_,?_⟩ <;> refine zA ?_) | (refine ⟨fun c4=>?_,fun c4=>?_⟩ <;> (try simp [B_iff,B_not] at c4))
 | (refine Qg ?_)
 | (refine Qq ?_;simp [-zg,-zd,↓Qb,↓Qa,go_sem])
 | (refine Qp ?_;simp [-zg,-zd,↓Qb,↓Qa,go_sem])
 | (refine Qs ?_;simp [-zg,-zd,↓Qb,↓Qa,go_sem,Tryz.results90,hn])
 | (intro hx;refine zA ?_)
 | (refine ⟨?_,?_⟩ <;> refine zA ?_)
 | (intro hx;constructor <;> intro hs)
 | (constructor <;> intro hs)
 | (refine ⟨?_,fun hs=>?_⟩;refine zA ?_)
 | (refine ⟨fun hs=>?_,?_⟩;rotate_left;refine zA ?_;rotate_left)))
@[go_sem] def zadc:Con:=.pure fun
  | [.list n_xs c_xs]=>((Is cB n_xs c_xs) ∧ ((de cB c_xs).length ≤ 1048576),fr 1 cB (de cB c_xs))
  | _=>(False,.any)
theorem zaha:ConOk Tryz.prog 90 zadc:=by
  refine ⟨Qn Tryz.func90 (by decide) rfl,fun args h=>?_⟩
  revert h
  dsimp only
  split
  · intro h
    obtain ⟨⟨xs,rfl,rfl⟩,h0⟩:=h
    try simp only [Xb] at *
    exact ⟨CloneB_pure xs h0,by simp [go_sem]⟩
  · intro h
    exact h.elim
@[go_sem] def Γu2:FuncId → Con:=ext Γu1 90 zadc
theorem Γu2_ok:∀ g,ConOk Tryz.prog g (Γu2 g):=Qu Γu1_ok zaha

theorem cloneB_pure (xs:List Bool) (h0:xs.length ≤ 1048576):Pure Tryz.prog 67 [li cB xs] (fr 1 cB xs):=by
  refine Pure.of_walk Tryz.func67 rfl (by simp [Tryz.f67]) (by simp [-zd,go_sem]) fun B hK=>?_
  (repeat' (first
 | refine Qr ?_
 | refine Qc (id:=0) Γu2_ok [] (by kernel_rfl) ?_;simp [-zg,-zd,↓Qb,↓Qa,go_sem]
 | refine Qc (id:=1) Γu2_ok [] (by kernel_rfl) ?_;simp [-zg,-zd,↓Qb,↓Qa,go_sem,h0]
 | (refine Qg ?_)
 | (refine Qq ?_;simp [-zg,-zd,↓Qb,↓Qa,go_sem])
 | (refine Qp ?_;simp [-zg,-zd,↓Qb,↓Qa,go_sem])
 | (refine Qs ?_;simp [-zg,-zd,↓Qb,↓Qa,go_sem,Tryz.results67])
 | (intro hx;refine zA ?_)
 | (refine ⟨?_,?_⟩ <;> refine zA ?_)
 | (intro hx;constructor <;> intro hs)
 | (constructor <;> intro hs)
 | (refine ⟨?_,fun hs=>?_⟩;refine zA ?_)
 | (refine ⟨fun hs=>?_,?_⟩;rotate_left;refine zA ?_;rotate_left)))
@[go_sem] def zacz:Con:=.pure fun
  | [.list n_xs c_xs]=>((Is cB n_xs c_xs) ∧ ((de cB c_xs).length ≤ 1048576),fr 1 cB (de cB c_xs))
  | _=>(False,.any)
theorem zagx:ConOk Tryz.prog 67 zacz:=by
  refine ⟨Qn Tryz.func67 (by decide) rfl,fun args h=>?_⟩
  revert h
  dsimp only
  split
  · intro h
    obtain ⟨⟨xs,rfl,rfl⟩,h0⟩:=h
    try simp only [Xb] at *
    exact ⟨cloneB_pure xs h0,by simp [go_sem]⟩
  · intro h
    exact h.elim
@[go_sem] def Γu3:FuncId → Con:=ext Γu2 67 zacz
theorem Γu3_ok:∀ g,ConOk Tryz.prog g (Γu3 g):=Qu Γu2_ok zagx

theorem clipT_spec (xs:List Tr4) (H:Hp):Spec Tryz.prog 91 [fr 4 cT xs] H (fr 4 cT xs) H:=by
  refine Spec.of_walk Tryz.func91 rfl (by simp [Tryz.f91]) fun B=>?_
  refine AW_mat 0 rfl fun b cp j hb hcp hj=>?_
  (repeat' (first
 | refine Qr ?_
 | refine Qc (id:=0) Γu3_ok [] (by kernel_rfl) ?_;simp [-zg,-zd,↓Qb,↓Qa,go_sem]
 | refine Qc (id:=1) Γu3_ok [] (by kernel_rfl) ?_;simp [-zg,-zd,↓Qb,↓Qa,go_sem,hcp,zaax];try (refine AW_unmat 2 (b:=b) (all:=cat cT xs ++ List.replicate j .any) rfl (by simp [go_sem]) (by omega) (by simp [Qz]) (by simp [Qz]) ?_)
 | (refine Qg ?_)
 | (refine Qq ?_;simp [-zg,-zd,↓Qb,↓Qa,go_sem])
 | (refine Qp ?_;simp [-zg,-zd,↓Qb,↓Qa,go_sem])
 | (refine Qs ?_;simp [-zg,-zd,↓Qb,↓Qa,go_sem,Tryz.results91])
 | (intro hx;refine zA ?_)
 | (refine ⟨?_,?_⟩ <;> refine zA ?_)
 | (intro hx;constructor <;> intro hs)
 | (constructor <;> intro hs)
 | (refine ⟨?_,fun hs=>?_⟩;refine zA ?_)
 | (refine ⟨fun hs=>?_,?_⟩;rotate_left;refine zA ?_;rotate_left)))
  all_goals (intro b' cs' h;refine ⟨?_,h⟩;rintro rfl;dsimp only at hb;rw [h] at hb;cases hb)
@[go_sem] def clipTC:Con:=.gen fun args H=>match args with
  | [.fr 4 n cs]=>(Is cT n cs,fr 4 cT (de cT cs),H)
  | _=>(False,.any,H)
theorem clipTC_ok:ConOk Tryz.prog 91 clipTC:=by
  refine ⟨Qn Tryz.func91 (by decide) rfl,fun args H h=>?_⟩
  revert h
  dsimp only
  split
  · rintro ⟨xs,rfl,rfl⟩
    rw [Xb]
    exact clipT_spec xs H
  · intro h
    exact h.elim
@[go_sem] def Γu4:FuncId → Con:=ext Γu3 91 clipTC
theorem Γu4_ok:∀ g,ConOk Tryz.prog g (Γu4 g):=Qu Γu3_ok clipTC_ok

theorem CloneT_pure (xs:List Tr4) (h0:xs.length ≤ 1048576):Pure Tryz.prog 92 [li cT xs] (fr 4 cT xs):=by
  refine Pure.of_walk Tryz.func92 rfl (by simp [Tryz.f92]) (by simp [-zd,go_sem]) fun B hK=>?_
  by_cases hn:xs = []
  all_goals (repeat' (first
 | refine Qr ?_
 | refine Qc (id:=0) Γu4_ok [] (by kernel_rfl) ?_;simp [-zg,-zd,↓Qb,↓Qa,go_sem,hn]
 | refine Qc (id:=1) Γu4_ok [] (by kernel_rfl) ?_;simp [-zg,-zd,↓Qb,↓Qa,go_sem,hn]
 | refine Qc (id:=2) Γu4_ok [] (by kernel_rfl) ?_;simp [-zg,-zd,↓Qb,↓Qa,go_sem,hn];try (try (refine AW_nilfr 2 4 rfl ?_))
 | refine Qc (id:=3) Γu4_ok [] (by kernel_rfl) ?_;simp [-zg,-zd,↓Qb,↓Qa,go_sem,(by omega:xs.length ≤ 9223372036854775807),(by omega:2 * xs.length * 32 ≤ 281474976710656),(by omega:2 * xs.length ≤ 281474976710656),hn]
 | refine Qf (c:=.tmp 4) ?_;simp [-zg,-zd,↓Qb,↓Qa,go_sem,hn];try first | (refine ⟨?_,?_⟩ <;> refine zA ?_) | (refine ⟨fun c4=>?_,fun c4=>?_⟩ <;> (try simp [B_iff,B_not] at c4))
 | (refine Qg ?_)
 | (refine Qq ?_;simp [-zg,-zd,↓Qb,↓Qa,go_sem])
 | (refine Qp ?_;simp [-zg,-zd,↓Qb,↓Qa,go_sem])
 | (refine Qs ?_;simp [-zg,-zd,↓Qb,↓Qa,go_sem,Tryz.results92,hn])
 | (intro hx;refine zA ?_)
 | (refine ⟨?_,?_⟩ <;> refine zA ?_)
 | (intro hx;constructor <;> intro hs)
 | (constructor <;> intro hs)
 | (refine ⟨?_,fun hs=>?_⟩;refine zA ?_)
 | (refine ⟨fun hs=>?_,?_⟩;rotate_left;refine zA ?_;rotate_left)))
@[go_sem] def zadb:Con:=.pure fun
  | [.list n_xs c_xs]=>((Is cT n_xs c_xs) ∧ ((de cT c_xs).length ≤ 1048576),fr 4 cT (de cT c_xs))
  | _=>(False,.any)
theorem zagz:ConOk Tryz.prog 92 zadb:=by
  refine ⟨Qn Tryz.func92 (by decide) rfl,fun args h=>?_⟩
  revert h
  dsimp only
  split
  · intro h
    obtain ⟨⟨xs,rfl,rfl⟩,h0⟩:=h
    try simp only [Xb] at *
    exact ⟨CloneT_pure xs h0,by simp [go_sem]⟩
  · intro h
    exact h.elim
@[go_sem] def Γu5:FuncId → Con:=ext Γu4 92 zadb
theorem Γu5_ok:∀ g,ConOk Tryz.prog g (Γu5 g):=Qu Γu4_ok zagz

theorem cloneT_pure (xs:List Tr4) (h0:xs.length ≤ 1048576):Pure Tryz.prog 68 [li cT xs] (fr 4 cT xs):=by
  refine Pure.of_walk Tryz.func68 rfl (by simp [Tryz.f68]) (by simp [-zd,go_sem]) fun B hK=>?_
  (repeat' (first
 | refine Qr ?_
 | refine Qc (id:=0) Γu5_ok [] (by kernel_rfl) ?_;simp [-zg,-zd,↓Qb,↓Qa,go_sem]
 | refine Qc (id:=1) Γu5_ok [] (by kernel_rfl) ?_;simp [-zg,-zd,↓Qb,↓Qa,go_sem,h0]
 | (refine Qg ?_)
 | (refine Qq ?_;simp [-zg,-zd,↓Qb,↓Qa,go_sem])
 | (refine Qp ?_;simp [-zg,-zd,↓Qb,↓Qa,go_sem])
 | (refine Qs ?_;simp [-zg,-zd,↓Qb,↓Qa,go_sem,Tryz.results68])
 | (intro hx;refine zA ?_)
 | (refine ⟨?_,?_⟩ <;> refine zA ?_)
 | (intro hx;constructor <;> intro hs)
 | (constructor <;> intro hs)
 | (refine ⟨?_,fun hs=>?_⟩;refine zA ?_)
 | (refine ⟨fun hs=>?_,?_⟩;rotate_left;refine zA ?_;rotate_left)))
@[go_sem] def zacy:Con:=.pure fun
  | [.list n_xs c_xs]=>((Is cT n_xs c_xs) ∧ ((de cT c_xs).length ≤ 1048576),fr 4 cT (de cT c_xs))
  | _=>(False,.any)
theorem zagw:ConOk Tryz.prog 68 zacy:=by
  refine ⟨Qn Tryz.func68 (by decide) rfl,fun args h=>?_⟩
  revert h
  dsimp only
  split
  · intro h
    obtain ⟨⟨xs,rfl,rfl⟩,h0⟩:=h
    try simp only [Xb] at *
    exact ⟨cloneT_pure xs h0,by simp [go_sem]⟩
  · intro h
    exact h.elim
@[go_sem] def Γu6:FuncId → Con:=ext Γu5 68 zacy
theorem Γu6_ok:∀ g,ConOk Tryz.prog g (Γu6 g):=Qu Γu5_ok zagw

theorem copyOf_pure (a:List Int) (b:List Bool) (c:List Tr4) (h0:a.length ≤ 1048576) (h1:b.length ≤ 1048576) (h2:c.length ≤ 1048576):Pure Tryz.prog 32 [.st [li cI a,li cB b,li cT c]] (.st [fr 1 cI a,fr 1 cB b,fr 4 cT c]):=by
  refine Pure.of_walk Tryz.func32 rfl (by simp [Tryz.f32]) (by simp [-zd,go_sem]) fun B hK=>?_
  (repeat' (first
 | refine Qr ?_
 | refine Qc (id:=0) Γu6_ok [] (by kernel_rfl) ?_;simp [-zg,-zd,↓Qb,↓Qa,go_sem,h0,h1,h2];try (refine Xm hK 1 ?_;simp [go_sem])
 | refine Zf (id:=1) Γu6_ok mixed [] [1] (by kernel_rfl) (by kernel_rfl) (by simp [-zg,-zd,↓Qb,↓Qa,go_sem,h0,h1,h2]) ?_;simp [-zg,-zd,↓Qb,↓Qa,go_sem,h0,h1,h2]
 | (refine Qg ?_)
 | (refine Qq ?_;simp [-zg,-zd,↓Qb,↓Qa,go_sem])
 | (refine Qp ?_;simp [-zg,-zd,↓Qb,↓Qa,go_sem])
 | (refine Qs ?_;simp [-zg,-zd,↓Qb,↓Qa,go_sem,Tryz.results32,h0,h1,h2])
 | (intro hx;refine zA ?_)
 | (refine ⟨?_,?_⟩ <;> refine zA ?_)
 | (intro hx;constructor <;> intro hs)
 | (constructor <;> intro hs)
 | (refine ⟨?_,fun hs=>?_⟩;refine zA ?_)
 | (refine ⟨fun hs=>?_,?_⟩;rotate_left;refine zA ?_;rotate_left)))
@[go_sem] def zacx:Con:=.pure fun
  | [.st [.list n_a c_a,.list n_b c_b,.list n_c c_c]]=>((Is cI n_a c_a) ∧ (Is cB n_b c_b) ∧ (Is cT n_c c_c) ∧ ((de cI c_a).length ≤ 1048576) ∧ ((de cB c_b).length ≤ 1048576) ∧ ((de cT c_c).length ≤ 1048576),.st [fr 1 cI (de cI c_a),fr 1 cB (de cB c_b),fr 4 cT (de cT c_c)])
  | _=>(False,.any)
theorem zagv:ConOk Tryz.prog 32 zacx:=by
  refine ⟨Qn Tryz.func32 (by decide) rfl,fun args h=>?_⟩
  revert h
  dsimp only
  split
  · intro h
    obtain ⟨⟨a,rfl,rfl⟩,⟨b,rfl,rfl⟩,⟨c,rfl,rfl⟩,h0,h1,h2⟩:=h
    try simp only [Xb] at *
    exact ⟨copyOf_pure a b c h0 h1 h2,by simp [go_sem]⟩
  · intro h
    exact h.elim
@[go_sem] def Γu7:FuncId → Con:=ext Γu6 32 zacx
theorem Zc:∀ g,ConOk Tryz.prog g (Γu7 g):=Qu Γu6_ok zagv


def tm (k:Int) (i:Nat):Tr4:=(k + 4 * i,k + 4 * i + 1,k + 4 * i + 1 + 1,k + 4 * i + 1 + 1 + 1)
def Xe (k:Int) (n:Nat):List Tr4:=(List.range n).map fun (i:Nat)=>tm k i
@[go_sem] theorem zabl (k:Int) (n:Nat):(Xe k n).length = n:=by simp [Xe]
theorem nth_marksT {k:Int} {n i:Nat} (h:i < n):nth (Xe k n) i = tm k i:=by rw [nth_lt (by rw [zabl];exact h)];simp [Xe]
def mkT (k:Int) (xs:List Tr4) (i:Nat):List Tr4:=Xe k i ++ xs.drop i
theorem mkT_zero (k:Int) (xs:List Tr4):mkT k xs 0 = xs:=by simp [mkT,Xe]
theorem mkT_all (k:Int) (xs:List Tr4):mkT k xs xs.length = Xe k xs.length:=by simp [mkT]
theorem mkT_len {k:Int} {xs:List Tr4} {i:Nat} (h:i ≤ xs.length):(mkT k xs i).length = xs.length:=by simp [mkT,zabl];omega
theorem mkT_set {k:Int} {xs:List Tr4} {i:Nat} (h:i < xs.length):(mkT k xs i).set i (tm k i) = mkT k xs (i + 1):=by
  have m:Xe k (i + 1) = Xe k i ++ [tm k i]:=by simp [Xe,List.range_succ]
  unfold mkT
  rw [List.drop_eq_getElem_cons h,set_mid (by rw [zabl]),m]
  simp
theorem cat_set4:∀ {xs:List Tr4} {i:Nat} {ys:List D} {x:Tr4},i < xs.length → ((((cat cT xs ++ ys).set (i * 4) (.int .i64 x.1)).set (i * 4 + 1) (.int .i64 x.2.1)).set (i * 4 + 2) (.int .i64 x.2.2.1)).set (i * 4 + 3) (.int .i64 x.2.2.2) = cat cT (xs.set i x) ++ ys
  | [],i,ys,x,h=>by simp at h
  | z :: xs,0,ys,x,h=>by
    rw [Xx,List.set_cons_zero,Xx];rfl
  | z :: xs,i + 1,ys,x,h=>by
    rw [Xx,List.set_cons_succ,Xx,List.append_assoc,List.append_assoc]
    have:=cat_set4 (xs:=xs) (i:=i) (ys:=ys) (x:=x) (by simpa using h)
    have e:(i + 1) * 4 = i * 4 + 1 + 1 + 1 + 1:=by omega
    rw [e]
    simp only [cT,List.cons_append,List.nil_append,List.set_cons_succ]
    rw [this]
structure ME (b:Nat) (cs:List D) (H H1:Hp):Prop where
  here:H1 b = some cs
  rest:∀ z,¬ z = b → H1 z = H z
theorem ME.set {b:Nat} {cs cs':List D} {H H1 H2:Hp} (h:ME b cs H H1) (h2:H2 b = some cs') (h3:∀ z,¬ z = b → H2 z = H1 z):ME b cs' H H2:=⟨h2,fun z hz=>by rw [h3 z hz];exact h.rest z hz⟩
set_option maxHeartbeats 1000000 in
theorem markTx_spec (xs:List Tr4) (k:Int) (b cp:Nat) (junk:List D) (H:Hp) (hH:H b = some (cat cT xs ++ junk)) (h0:0 ≤ k) (h1:k + 4 * xs.length ≤ 1099511627776) :
    Spec Tryz.prog 38 [.sl b 4 0 xs.length cp,.int .i64 k] H (.int .i64 (k + 4 * xs.length)) (upd H b (some (cat cT (Xe k xs.length) ++ junk))):=by
  refine Spec.of_walk Tryz.func38 rfl (by simp [Tryz.f38]) fun B=>?_
  (repeat' (first
 | refine Qr ?_
 | refine Qc (id:=0) Zc [] (by kernel_rfl) ?_;simp [-zg,-zd,↓Qb,↓Qa,go_sem]
 | refine Qc (id:=1) Zc [] (by kernel_rfl) ?_;simp [-zg,-zd,↓Qb,↓Qa,go_sem]
 | refine Qc (id:=2) Zc [] (by kernel_rfl) ?_;simp [-zg,-zd,↓Qb,↓Qa,go_sem]
 | ((have w1:=g2.here);(have hml:=mkT_len (k:=k) (xs:=xs) (i:=q.1) (by omega));(have hst:=cat_set4 (xs:=mkT k xs q.1) (i:=q.1) (ys:=junk) (x:=tm k q.1) (by omega));(rw [mkT_set (by omega)] at hst);(simp only [tm] at hst);(have hcl:(cat cT (mkT k xs q.1) ++ junk).length = xs.length * 4 + junk.length:=(by rw [List.length_append,Qz,hml]));(obtain ⟨c0,hc0⟩:∃ c0,cat cT (mkT k xs q.1) ++ junk = c0:=⟨_,rfl⟩);(rw [hc0] at w1 hst hcl g2));refine Qc (id:=4) Zc [] (by kernel_rfl) ?_;simp [-zg,-zd,↓Qb,↓Qa,go_sem,w1,hcl,c9,(show q.1 * 4 + 4 ≤ xs.length * 4 + junk.length by omega),(show q.1 * 4 < xs.length * 4 + junk.length by omega),(show q.1 * 4 + 1 ≤ xs.length * 4 + junk.length by omega)];try ((obtain ⟨c1,hc1⟩:∃ c1,c0.set (q.1 * 4) (.int .i64 (k + 4 * (q.1:Int))) = c1:=⟨_,rfl⟩);(have hl1:c1.length = xs.length * 4 + junk.length:=(by rw [← hc1,List.length_set];exact hcl));(rw [hc1] at hst);(refine Xq (fun H1=>ME b c1 H H1) (ME.set g2 (by simp [upd,Va,hc1]) (by intro z hz;simp [upd,hz])) fun H1 t1=>?_);(have w2:=t1.here))
 | refine Qc (id:=5) Zc [] (by kernel_rfl) ?_;simp [-zg,-zd,↓Qb,↓Qa,go_sem,wrap_in (x:=k + 4 * (q.1:Int) + 1) (by omega) (by omega)]
 | refine Qc (id:=6) Zc [] (by kernel_rfl) ?_;simp [-zg,-zd,↓Qb,↓Qa,go_sem,w2,hl1,c9,(show q.1 * 4 + 4 ≤ xs.length * 4 + junk.length by omega),(show q.1 * 4 + 1 < xs.length * 4 + junk.length by omega),(show q.1 * 4 + 1 + 1 ≤ xs.length * 4 + junk.length by omega)];try ((obtain ⟨c2,hc2⟩:∃ c2,c1.set (q.1 * 4 + 1) (.int .i64 (k + 4 * (q.1:Int) + 1)) = c2:=⟨_,rfl⟩);(have hl2:c2.length = xs.length * 4 + junk.length:=(by rw [← hc2,List.length_set];exact hl1));(rw [hc2] at hst);(refine Xq (fun H1=>ME b c2 H H1) (ME.set t1 (by simp [upd,Va,hc2]) (by intro z hz;simp [upd,hz])) fun H2 t2=>?_);(have w3:=t2.here))
 | refine Qc (id:=7) Zc [] (by kernel_rfl) ?_;simp [-zg,-zd,↓Qb,↓Qa,go_sem,wrap_in (x:=k + 4 * (q.1:Int) + 1 + 1) (by omega) (by omega)]
 | refine Qc (id:=8) Zc [] (by kernel_rfl) ?_;simp [-zg,-zd,↓Qb,↓Qa,go_sem,w3,hl2,c9,(show q.1 * 4 + 4 ≤ xs.length * 4 + junk.length by omega),(show q.1 * 4 + 2 < xs.length * 4 + junk.length by omega),(show q.1 * 4 + 2 + 1 ≤ xs.length * 4 + junk.length by omega)];try ((obtain ⟨c3,hc3⟩:∃ c3,c2.set (q.1 * 4 + 2) (.int .i64 (k + 4 * (q.1:Int) + 1 + 1)) = c3:=⟨_,rfl⟩);(have hl3:c3.length = xs.length * 4 + junk.length:=(by rw [← hc3,List.length_set];exact hl2));(rw [hc3] at hst);(refine Xq (fun H1=>ME b c3 H H1) (ME.set t2 (by simp [upd,Va,hc3]) (by intro z hz;simp [upd,hz])) fun H3 t3=>?_);(have w4:=t3.here))
 | refine Qc (id:=9) Zc [] (by kernel_rfl) ?_;simp [-zg,-zd,↓Qb,↓Qa,go_sem,wrap_in (x:=k + 4 * (q.1:Int) + 1 + 1 + 1) (by omega) (by omega)]
 | refine Qc (id:=10) Zc [] (by kernel_rfl) ?_;simp [-zg,-zd,↓Qb,↓Qa,go_sem,w4,hl3,c9,(show q.1 * 4 + 4 ≤ xs.length * 4 + junk.length by omega),(show q.1 * 4 + 3 < xs.length * 4 + junk.length by omega),(show q.1 * 4 + 3 + 1 ≤ xs.length * 4 + junk.length by omega)];try ((refine Xq (fun H1=>ME b (cat cT (mkT k xs (q.1 + 1)) ++ junk) H H1) (ME.set t3 (by simp [upd,Va,hst]) (by intro z hz;simp [upd,hz])) fun H9 t5=>?_))
 | refine Qc (id:=11) Zc [] (by kernel_rfl) ?_;simp [-zg,-zd,↓Qb,↓Qa,go_sem,wrap_in (x:=k + 4 * (q.1:Int) + 1 + 1 + 1 + 1) (by omega) (by omega)]
 | refine Qc (id:=3) Zc [] (by kernel_rfl) ?_;simp [-zg,-zd,↓Qb,↓Qa,go_sem,wrapS (k:=q.1) (by omega)]
 | refine Qc (id:=12) Zc [] (by kernel_rfl) ?_;simp [-zg,-zd,↓Qb,↓Qa,go_sem]
 | refine Qf (c:=.tmp 9) ?_;simp [-zg,-zd,↓Qb,↓Qa,go_sem];try first | (refine ⟨?_,?_⟩ <;> refine zA ?_) | (refine ⟨fun c9=>?_,fun c9=>?_⟩ <;> (try simp [B_iff,B_not] at c9))
 | (refine Qg (id:=0) (Xc (ι:=Nat × Hp) (fun q:Nat × Hp=>⟨(upd (upd (upd (fun _=>.any) 0 (.sl b 4 0 xs.length cp)) 1 (.int .i64 (k + 4 * q.1))) 5 (.int .i64 q.1)),q.2⟩) (fun q=>q.1 ≤ xs.length ∧ ME b (cat cT (mkT k xs q.1) ++ junk) H q.2) (fun q=>xs.length - q.1) ((0,H)) ?_ ?_ ?_);exact ⟨Nat.zero_le _,⟨by rw [mkT_zero];exact hH,fun z hz=>rfl⟩⟩;((repeat' (first | exact Qj (by assumption) | exact Ql | refine Qm ?_ ?_ | refine Qk ?_)) <;> simp [-zg,-zd,↓Qb,↓Qa,go_sem]);rintro q ⟨g1,g2⟩)
 | (refine ⟨(q.1 + 1,H9),⟨by dsimp only;omega,t5⟩,by first | omega | (simp;done) | (simp;omega),?_⟩;((repeat' (first | exact Qj (by assumption) | exact Ql | refine Qm ?_ ?_ | refine Qk ?_)) <;> simp [-zg,-zd,↓Qb,↓Qa,go_sem,(show k + 4 * ((q.1:Int) + 1) = k + 4 * (q.1:Int) + 1 + 1 + 1 + 1 by omega),(show k + 4 * ((q.1 + 1:Nat):Int) = k + 4 * (q.1:Int) + 1 + 1 + 1 + 1 by omega)]))
 | (refine Qg ?_)
 | (refine Qq ?_;simp [-zg,-zd,↓Qb,↓Qa,go_sem])
 | (refine Qp ?_;simp [-zg,-zd,↓Qb,↓Qa,go_sem])
 | (refine Qs ?_;simp [-zg,-zd,↓Qb,↓Qa,go_sem,Tryz.results38])
 | (intro hx;refine zA ?_)
 | (refine ⟨?_,?_⟩ <;> refine zA ?_)
 | (intro hx;constructor <;> intro hs)
 | (constructor <;> intro hs)
 | (refine ⟨?_,fun hs=>?_⟩;refine zA ?_)
 | (refine ⟨fun hs=>?_,?_⟩;rotate_left;refine zA ?_;rotate_left)))
  all_goals (first
 | (have e:q.1 = xs.length:=(by omega);(have h8:=g2.here);(rw [e,mkT_all] at h8);refine ⟨by omega,fun z cs h=>?_⟩;by_cases ez:z = b;(subst ez;simp [upd] at h;rw [h8,h]);(simp [upd,ez] at h;rw [g2.rest z ez];exact h))
 | (have e:q.1 = xs.length:=(by omega);(have h8:=g2.here);(rw [e,mkT_all] at h8);refine ⟨by rw [e],fun z cs h=>?_⟩;by_cases ez:z = b;(subst ez;simp [upd] at h;rw [h8,h]);(simp [upd,ez] at h;rw [g2.rest z ez];exact h))
 | skip)
@[go_sem] def markTxC:Con:=.gen fun args H=>match args with
  | [.sl b 4 0 n _,.int .i64 k]=>match H b with
    | some all=>(n * 4 ≤ all.length ∧ Is cT n (all.take (n * 4)) ∧ 0 ≤ k ∧ k + 4 * n ≤ 1099511627776,.int .i64 (k + 4 * n),upd H b (some (cat cT (Xe k n) ++ all.drop (n * 4))))
    | none=>(False,.any,H)
  | _=>(False,.any,H)
theorem markTxC_ok:ConOk Tryz.prog 38 markTxC:=by
  refine ⟨Qn Tryz.func38 (by decide) rfl,fun args H h=>?_⟩
  revert h
  dsimp only
  split
  · rename_i b n cp k
    split
    · rename_i all hH
      rintro ⟨g1,⟨xs,hn,he⟩,g2,g3⟩
      subst hn
      have:all = cat cT xs ++ all.drop (xs.length * 4):=by rw [← he,List.take_append_drop]
      rw [this] at hH
      exact markTx_spec xs k b cp _ H hH g2 g3
    · intro h;exact h.elim
  · intro h
    exact h.elim
@[go_sem] def Γu8:FuncId → Con:=ext Γu7 38 markTxC
theorem zahc:∀ g,ConOk Tryz.prog g (Γu8 g):=Qu Zc markTxC_ok
@[go_sem] theorem cat_drop_app_cT (xs:List Tr4) (ys:List D):(cat cT xs ++ ys).drop (xs.length * 4) = ys:=zage xs ys
@[go_sem] theorem Ze (xs:List Tr4) (ys:List D):(cat cT xs ++ ys).take (xs.length * 4) = cat cT xs:=zaax xs ys

set_option maxHeartbeats 2000000 in
theorem markAx_spec (a:List Int) (b:List Bool) (c:List Tr4) (k:Int) (b1 b2 b3 c1 c2 c3:Nat) (j1 j2 j3:List D) (H:Hp) (h1:H b1 = some (cat cI a ++ j1)) (h2:H b2 = some (cat cB b ++ j2)) (h3:H b3 = some (cat cT c ++ j3)) (n12:¬ b1 = b2) (n13:¬ b1 = b3) (n23:¬ b2 = b3) (h0:0 ≤ k) (hk:k + a.length + b.length + 4 * c.length ≤ 1099511627776) :
    Spec Tryz.prog 9 [.st [.sl b1 1 0 a.length c1,.sl b2 1 0 b.length c2,.sl b3 4 0 c.length c3],.int .i64 k] H (.int .i64 (k + a.length + b.length + 4 * c.length))
      (upd (upd (upd H b1 (some (cat cI (marks k a.length) ++ j1))) b2 (some (cat cB (Xf (k + a.length) b.length) ++ j2))) b3 (some (cat cT (Xe (k + a.length + b.length) c.length) ++ j3))):=by
  refine Spec.of_walk Tryz.func9 rfl (by simp [Tryz.f9]) fun B=>?_
  (repeat' (first
 | refine Qr ?_
 | refine Qc (id:=0) zahc [] (by kernel_rfl) ?_;simp [-zg,-zd,↓Qb,↓Qa,go_sem];try (refine zacl 2 rfl fun b0 hb0=>?_;have m1:¬ b1 = b0:=(by rintro rfl;dsimp only at hb0;rw [h1] at hb0;cases hb0);have m2:¬ b2 = b0:=(by rintro rfl;dsimp only at hb0;rw [h2] at hb0;cases hb0);have m3:¬ b3 = b0:=(by rintro rfl;dsimp only at hb0;rw [h3] at hb0;cases hb0))
 | refine Qc (id:=1) zahc [] (by kernel_rfl) ?_;simp [-zg,-zd,↓Qb,↓Qa,go_sem,m1,h1,h0,(show k + (a.length:Int) ≤ 1099511627776 by omega),(show a.length ≤ a.length + j1.length by omega)]
 | refine Qc (id:=2) zahc [] (by kernel_rfl) ?_;simp [-zg,-zd,↓Qb,↓Qa,go_sem,m1,m2,zS m1,zS m2,n12,zS n12,h2,(show 0 ≤ k + (a.length:Int) by omega),(show k + (a.length:Int) + (b.length:Int) ≤ 1099511627776 by omega),(show b.length ≤ b.length + j2.length by omega)]
 | refine Qc (id:=3) zahc [] (by kernel_rfl) ?_;simp [-zg,-zd,↓Qb,↓Qa,go_sem,m1,m2,m3,zS m1,zS m2,zS m3,n12,zS n12,n13,zS n13,n23,zS n23,h3,(show 0 ≤ k + (a.length:Int) + (b.length:Int) by omega),hk,(show c.length * 4 ≤ c.length * 4 + j3.length by omega)]
 | refine Qc (id:=4) zahc [] (by kernel_rfl) ?_;simp [-zg,-zd,↓Qb,↓Qa,go_sem]
 | (refine Qg ?_)
 | (refine Qq ?_;simp [-zg,-zd,↓Qb,↓Qa,go_sem])
 | (refine Qp ?_;simp [-zg,-zd,↓Qb,↓Qa,go_sem])
 | (refine Qs ?_;simp [-zg,-zd,↓Qb,↓Qa,go_sem,Tryz.results9])
 | (intro hx;refine zA ?_)
 | (refine ⟨?_,?_⟩ <;> refine zA ?_)
 | (intro hx;constructor <;> intro hs)
 | (constructor <;> intro hs)
 | (refine ⟨?_,fun hs=>?_⟩;refine zA ?_)
 | (refine ⟨fun hs=>?_,?_⟩;rotate_left;refine zA ?_;rotate_left)))
  all_goals (first
 | (intro b' cs' h;dsimp only at hb0;by_cases e3:b' = b3 <;> by_cases e2:b' = b2 <;> by_cases e1:b' = b1 <;> by_cases e0:b' = b0 <;> simp_all)
 | skip)
@[go_sem] def markAxC:Con:=.gen fun args H=>match args with
  | [.st [.sl b1 1 0 n _,.sl b2 1 0 m _,.sl b3 4 0 o _],.int .i64 k]=>match H b1,H b2,H b3 with
    | some a1,some a2,some a3=>(¬ b1 = b2 ∧ ¬ b1 = b3 ∧ ¬ b2 = b3 ∧ n ≤ a1.length ∧ m ≤ a2.length ∧ o * 4 ≤ a3.length ∧ Is cI n (a1.take n) ∧ Is cB m (a2.take m) ∧ Is cT o (a3.take (o * 4)) ∧ 0 ≤ k ∧ k + n + m + 4 * o ≤ 1099511627776,
        .int .i64 (k + n + m + 4 * o),upd (upd (upd H b1 (some (cat cI (marks k n) ++ a1.drop n))) b2 (some (cat cB (Xf (k + n) m) ++ a2.drop m))) b3 (some (cat cT (Xe (k + n + m) o) ++ a3.drop (o * 4))))
    | _,_,_=>(False,.any,H)
  | _=>(False,.any,H)
theorem markAxC_ok:ConOk Tryz.prog 9 markAxC:=by
  refine ⟨Qn Tryz.func9 (by decide) rfl,fun args H h=>?_⟩
  revert h
  dsimp only
  split
  · rename_i b1 n c1 b2 m c2 b3 o c3 k
    split
    · rename_i a1 a2 a3 hH1 hH2 hH3
      rintro ⟨g1,g2,g3,g4,g5,g6,⟨xs,hn,he⟩,⟨ys,hm,hf⟩,⟨zs,ho,hg⟩,g8,g9⟩
      subst hn hm ho
      have e1:a1 = cat cI xs ++ a1.drop xs.length:=by rw [← he,List.take_append_drop]
      have e2:a2 = cat cB ys ++ a2.drop ys.length:=by rw [← hf,List.take_append_drop]
      have e3:a3 = cat cT zs ++ a3.drop (zs.length * 4):=by rw [← hg,List.take_append_drop]
      rw [e1] at hH1
      rw [e2] at hH2
      rw [e3] at hH3
      exact markAx_spec xs ys zs k b1 b2 b3 c1 c2 c3 _ _ _ H hH1 hH2 hH3 g1 g2 g3 g8 g9
    · intro h;exact h.elim
  · intro h
    exact h.elim
@[go_sem] def Γu9:FuncId → Con:=ext Γu8 9 markAxC
theorem Xs:∀ g,ConOk Tryz.prog g (Γu9 g):=Qu zahc markAxC_ok

def Jf (k:Int) (xs:List Tr4):Int:=if xs = Xe k xs.length then k + 4 * xs.length else -1
@[go_sem] theorem heldTr_marks (k:Int) (n:Nat):Jf k (Xe k n) = k + 4 * n:=by simp [Jf,zabl]
@[go_sem] theorem heldTr_nil (k:Int):Jf k [] = k:=by simp [Jf,Xe]
theorem heldTr_bad {k:Int} {xs:List Tr4} {i:Nat} (h:i < xs.length) (hn:¬ nth xs i = tm k i):Jf k xs = -1:=by
  rw [Jf,if_neg]
  intro e
  apply hn
  rw [← nth_marksT (n:=xs.length) h,← e]

theorem heldT_pure (xs:List Tr4) (k:Int) (h0:0 ≤ k) (h1:k + 4 * xs.length ≤ 1099511627776):Pure Tryz.prog 41 [li cT xs,.int .i64 k] (.int .i64 (Jf k xs)):=by
  refine Pure.of_walk Tryz.func41 rfl (by simp [Tryz.f41]) (by simp [-zd,go_sem]) fun B hK=>?_
  (repeat' (first
 | refine Qr ?_
 | refine Qc (id:=0) Xs [] (by kernel_rfl) ?_;simp [-zg,-zd,↓Qb,↓Qa,go_sem]
 | refine Qc (id:=1) Xs [] (by kernel_rfl) ?_;simp [-zg,-zd,↓Qb,↓Qa,go_sem]
 | refine Qc (id:=2) Xs [] (by kernel_rfl) ?_;simp [-zg,-zd,↓Qb,↓Qa,go_sem]
 | refine Qc (id:=4) Xs [] (by kernel_rfl) ?_;simp [-zg,-zd,↓Qb,↓Qa,go_sem,c9,Qh c9,zsP c9]
 | refine Qc (id:=5) Xs [] (by kernel_rfl) ?_;simp [-zg,-zd,↓Qb,↓Qa,go_sem]
 | refine Qc (id:=6) Xs [] (by kernel_rfl) ?_;simp [-zg,-zd,↓Qb,↓Qa,go_sem,wrap_in (x:=k + 4 * (i:Int) + 1) (by omega) (by omega)]
 | refine Qc (id:=7) Xs [] (by kernel_rfl) ?_;simp [-zg,-zd,↓Qb,↓Qa,go_sem,c9,Qh c9,zsP c9]
 | refine Qc (id:=8) Xs [] (by kernel_rfl) ?_;simp [-zg,-zd,↓Qb,↓Qa,go_sem]
 | refine Qc (id:=9) Xs [] (by kernel_rfl) ?_;simp [-zg,-zd,↓Qb,↓Qa,go_sem,wrap_in (x:=k + 4 * (i:Int) + 1 + 1) (by omega) (by omega)]
 | refine Qc (id:=10) Xs [] (by kernel_rfl) ?_;simp [-zg,-zd,↓Qb,↓Qa,go_sem,c9,Qh c9,zsP c9]
 | refine Qc (id:=11) Xs [] (by kernel_rfl) ?_;simp [-zg,-zd,↓Qb,↓Qa,go_sem]
 | refine Qc (id:=12) Xs [] (by kernel_rfl) ?_;simp [-zg,-zd,↓Qb,↓Qa,go_sem,wrap_in (x:=k + 4 * (i:Int) + 1 + 1 + 1) (by omega) (by omega)]
 | refine Qc (id:=13) Xs [] (by kernel_rfl) ?_;simp [-zg,-zd,↓Qb,↓Qa,go_sem,c9,Qh c9,zsP c9]
 | refine Qc (id:=14) Xs [] (by kernel_rfl) ?_;simp [-zg,-zd,↓Qb,↓Qa,go_sem]
 | refine Qc (id:=15) Xs [] (by kernel_rfl) ?_;simp [-zg,-zd,↓Qb,↓Qa,go_sem,wrap_in (x:=k + 4 * (i:Int) + 1 + 1 + 1 + 1) (by omega) (by omega)]
 | refine Qc (id:=3) Xs [] (by kernel_rfl) ?_;simp [-zg,-zd,↓Qb,↓Qa,go_sem,wrapS (k:=i) (by omega)]
 | refine Qc (id:=16) Xs [] (by kernel_rfl) ?_;simp [-zg,-zd,↓Qb,↓Qa,go_sem]
 | refine Qf (c:=.tmp 9) ?_;simp [-zg,-zd,↓Qb,↓Qa,go_sem];try first | (refine ⟨?_,?_⟩ <;> refine zA ?_) | (refine ⟨fun c9=>?_,fun c9=>?_⟩ <;> (try simp [B_iff,B_not] at c9))
 | refine Qf (c:=.tmp 18) ?_;simp [-zg,-zd,↓Qb,↓Qa,go_sem];try first | (refine ⟨?_,?_⟩ <;> refine zA ?_) | (refine ⟨fun c18=>?_,fun c18=>?_⟩ <;> (try simp [B_iff,B_not] at c18))
 | refine Qf (c:=.tmp 27) ?_;simp [-zg,-zd,↓Qb,↓Qa,go_sem];try first | (refine ⟨?_,?_⟩ <;> refine zA ?_) | (refine ⟨fun c27=>?_,fun c27=>?_⟩ <;> (try simp [B_iff,B_not] at c27))
 | refine Qf (c:=.tmp 36) ?_;simp [-zg,-zd,↓Qb,↓Qa,go_sem];try first | (refine ⟨?_,?_⟩ <;> refine zA ?_) | (refine ⟨fun c36=>?_,fun c36=>?_⟩ <;> (try simp [B_iff,B_not] at c36))
 | refine Qf (c:=.tmp 45) ?_;simp [-zg,-zd,↓Qb,↓Qa,go_sem];try first | (refine ⟨?_,?_⟩ <;> refine zA ?_) | (refine ⟨fun c45=>?_,fun c45=>?_⟩ <;> (try simp [B_iff,B_not] at c45))
 | (refine Qg (id:=0) (Xc (ι:=Nat) (fun i:Nat=>⟨(upd (upd (upd (fun _=>.any) 0 (li cT xs)) 1 (.int .i64 (k + 4 * i))) 5 (.int .i64 i)),fun _=>none⟩) (fun i=>i ≤ xs.length ∧ NoneTill (fun j=>!decide (nth xs j = tm k j)) i) (fun i=>xs.length - i) (0) ?_ ?_ ?_);exact ⟨Nat.zero_le _,.zero _⟩;((repeat' (first | exact Qj (by assumption) | exact Ql | refine Qm ?_ ?_ | refine Qk ?_)) <;> simp [-zg,-zd,↓Qb,↓Qa,go_sem]);rintro i ⟨hi,ht⟩)
 | (refine ⟨i + 1,⟨by omega,ht.succ (by simp [tm,Prod.ext_iff];omega)⟩,by first | omega | (simp;done) | (simp;omega),?_⟩;((repeat' (first | exact Qj (by assumption) | exact Ql | refine Qm ?_ ?_ | refine Qk ?_)) <;> simp [-zg,-zd,↓Qb,↓Qa,go_sem,(show k + 4 * ((i:Int) + 1) = k + 4 * (i:Int) + 1 + 1 + 1 + 1 by omega),(show k + 4 * ((i + 1:Nat):Int) = k + 4 * (i:Int) + 1 + 1 + 1 + 1 by omega)]))
 | (refine Qg ?_)
 | (refine Qq ?_;simp [-zg,-zd,↓Qb,↓Qa,go_sem])
 | (refine Qp ?_;simp [-zg,-zd,↓Qb,↓Qa,go_sem])
 | (refine Qs ?_;simp [-zg,-zd,↓Qb,↓Qa,go_sem,Tryz.results41])
 | (intro hx;refine zA ?_)
 | (refine ⟨?_,?_⟩ <;> refine zA ?_)
 | (intro hx;constructor <;> intro hs)
 | (constructor <;> intro hs)
 | (refine ⟨?_,fun hs=>?_⟩;refine zA ?_)
 | (refine ⟨fun hs=>?_,?_⟩;rotate_left;refine zA ?_;rotate_left)))
  all_goals (first
 | (exact (heldTr_bad c9 (fun e=>by simp only [tm,Prod.ext_iff] at e;omega)).symm)
 | (exact heldTr_bad c9 (fun e=>by simp only [tm,Prod.ext_iff] at e;omega))
 | (obtain rfl:i = xs.length:=(by omega);rw [Jf,if_pos];apply List.ext_getElem (by rw [zabl]);intro j h1 h2;have:=ht j h1;simp at this;rw [← nth_lt h1,← nth_lt h2,nth_marksT h1,this])
 | skip)
@[go_sem] def zads:Con:=.pure fun
  | [.list n_xs c_xs,.int .i64 k]=>((Is cT n_xs c_xs) ∧ (0 ≤ k) ∧ (k + 4 * (de cT c_xs).length ≤ 1099511627776),.int .i64 (Jf k (de cT c_xs)))
  | _=>(False,.any)
theorem heldT_pureC_ok:ConOk Tryz.prog 41 zads:=by
  refine ⟨Qn Tryz.func41 (by decide) rfl,fun args h=>?_⟩
  revert h
  dsimp only
  split
  · intro h
    obtain ⟨⟨xs,rfl,rfl⟩,h0,h1⟩:=h
    try simp only [Xb] at *
    exact ⟨heldT_pure xs _ h0 h1,by simp [go_sem]⟩
  · intro h
    exact h.elim
@[go_sem] def Γu10:FuncId → Con:=ext Γu9 41 zads
theorem Zn:∀ g,ConOk Tryz.prog g (Γu10 g):=Qu Xs heldT_pureC_ok

def heldAu (k:Int) (a:List Int) (b:List Bool) (c:List Tr4):Int:=if heldI k a < 0 then -1 else if heldB (heldI k a) b < 0 then -1 else if Jf (heldB (heldI k a) b) c < 0 then -1 else Jf (heldB (heldI k a) b) c
theorem heldI_le2 (k:Int) (xs:List Int) (h:0 ≤ k):heldI k xs ≤ k + xs.length:=by unfold heldI;split <;> omega
theorem heldB_le (k:Int) (xs:List Bool) (h:0 ≤ k):heldB k xs ≤ k + xs.length:=by unfold heldB;split <;> omega

theorem heldAu_pure (a:List Int) (b:List Bool) (c:List Tr4) (k:Int) (h0:0 ≤ k) (h1:k + a.length + b.length + 4 * c.length ≤ 1099511627776):Pure Tryz.prog 10 [.st [li cI a,li cB b,li cT c],.int .i64 k] (.int .i64 (heldAu k a b c)):=by
  refine Pure.of_walk Tryz.func10 rfl (by simp [Tryz.f10]) (by simp [-zd,go_sem]) fun B hK=>?_
  (repeat' (first
 | refine Qr ?_
 | refine Qc (id:=0) Zn [] (by kernel_rfl) ?_;simp [-zg,-zd,↓Qb,↓Qa,go_sem];try (refine Xm hK 2 ?_;simp [go_sem])
 | ((have q1:=heldI_le2 k a h0));refine Qc (id:=1) Zn [] (by kernel_rfl) ?_;simp [-zg,-zd,↓Qb,↓Qa,go_sem,h0,(show k + a.length ≤ 1099511627776 by omega)]
 | refine Qc (id:=2) Zn [] (by kernel_rfl) ?_;simp [-zg,-zd,↓Qb,↓Qa,go_sem]
 | refine Qc (id:=3) Zn [] (by kernel_rfl) ?_;simp [-zg,-zd,↓Qb,↓Qa,go_sem]
 | ((have q2:=heldB_le (heldI k a) b (by omega)));refine Qc (id:=4) Zn [] (by kernel_rfl) ?_;simp [-zg,-zd,↓Qb,↓Qa,go_sem,c10,(show 0 ≤ heldI k a by omega),(show heldI k a + b.length ≤ 1099511627776 by omega)]
 | refine Qc (id:=5) Zn [] (by kernel_rfl) ?_;simp [-zg,-zd,↓Qb,↓Qa,go_sem]
 | refine Qc (id:=6) Zn [] (by kernel_rfl) ?_;simp [-zg,-zd,↓Qb,↓Qa,go_sem]
 | refine Qc (id:=7) Zn [] (by kernel_rfl) ?_;simp [-zg,-zd,↓Qb,↓Qa,go_sem,(show 0 ≤ heldB (heldI k a) b by omega),(show heldB (heldI k a) b + 4 * c.length ≤ 1099511627776 by omega)]
 | refine Qc (id:=8) Zn [] (by kernel_rfl) ?_;simp [-zg,-zd,↓Qb,↓Qa,go_sem]
 | refine Qc (id:=9) Zn [] (by kernel_rfl) ?_;simp [-zg,-zd,↓Qb,↓Qa,go_sem]
 | refine Qc (id:=10) Zn [] (by kernel_rfl) ?_;simp [-zg,-zd,↓Qb,↓Qa,go_sem]
 | refine Qf (c:=.tmp 10) ?_;simp [-zg,-zd,↓Qb,↓Qa,go_sem];try first | (refine ⟨?_,?_⟩ <;> refine zA ?_) | (refine ⟨fun c10=>?_,fun c10=>?_⟩ <;> (try simp [B_iff,B_not] at c10))
 | refine Qf (c:=.tmp 16) ?_;simp [-zg,-zd,↓Qb,↓Qa,go_sem];try first | (refine ⟨?_,?_⟩ <;> refine zA ?_) | (refine ⟨fun c16=>?_,fun c16=>?_⟩ <;> (try simp [B_iff,B_not] at c16))
 | refine Qf (c:=.tmp 22) ?_;simp [-zg,-zd,↓Qb,↓Qa,go_sem];try first | (refine ⟨?_,?_⟩ <;> refine zA ?_) | (refine ⟨fun c22=>?_,fun c22=>?_⟩ <;> (try simp [B_iff,B_not] at c22))
 | (refine Qg ?_)
 | (refine Qq ?_;simp [-zg,-zd,↓Qb,↓Qa,go_sem])
 | (refine Qp ?_;simp [-zg,-zd,↓Qb,↓Qa,go_sem])
 | (refine Qs ?_;simp [-zg,-zd,↓Qb,↓Qa,go_sem,Tryz.results10])
 | (intro hx;refine zA ?_)
 | (refine ⟨?_,?_⟩ <;> refine zA ?_)
 | (intro hx;constructor <;> intro hs)
 | (constructor <;> intro hs)
 | (refine ⟨?_,fun hs=>?_⟩;refine zA ?_)
 | (refine ⟨fun hs=>?_,?_⟩;rotate_left;refine zA ?_;rotate_left)))
  all_goals (first
 | (rw [heldAu,if_pos (by assumption)])
 | (rw [heldAu,if_neg (by omega),if_pos (by assumption)])
 | (rw [heldAu,if_neg (by omega),if_neg (by omega),if_pos (by assumption)])
 | (rw [heldAu,if_neg (by omega),if_neg (by omega),if_neg (by omega)])
 | skip)
@[go_sem] def zacu:Con:=.pure fun
  | [.st [.list n_a c_a,.list n_b c_b,.list n_c c_c],.int .i64 k]=>((Is cI n_a c_a) ∧ (Is cB n_b c_b) ∧ (Is cT n_c c_c) ∧ (0 ≤ k) ∧ (k + (de cI c_a).length + (de cB c_b).length + 4 * (de cT c_c).length ≤ 1099511627776),.int .i64 (heldAu k (de cI c_a) (de cB c_b) (de cT c_c)))
  | _=>(False,.any)
theorem zagt:ConOk Tryz.prog 10 zacu:=by
  refine ⟨Qn Tryz.func10 (by decide) rfl,fun args h=>?_⟩
  revert h
  dsimp only
  split
  · intro h
    obtain ⟨⟨a,rfl,rfl⟩,⟨b,rfl,rfl⟩,⟨c,rfl,rfl⟩,h0,h1⟩:=h
    try simp only [Xb] at *
    exact ⟨heldAu_pure a b c _ h0 h1,by simp [go_sem]⟩
  · intro h
    exact h.elim
@[go_sem] def Γu11:FuncId → Con:=ext Γu10 10 zacu
theorem Γu11_ok:∀ g,ConOk Tryz.prog g (Γu11 g):=Qu Zn zagt

theorem heldAu_marks (k:Int) (n m o:Nat) (h:0 ≤ k):heldAu k (marks k n) (Xf (k + n) m) (Xe (k + n + m) o) = k + n + m + 4 * o:=by
  rw [heldAu,zaci,if_neg (by omega),heldB_marks,if_neg (by omega),heldTr_marks,if_neg (by omega)]
end
end Go.Proofs.YtiilmjojffjhlaaGreatDoor.Vm

