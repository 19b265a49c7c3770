/-
  impl.IntersectAutomata. No conditions.
-/
import Derived.Test.YtnfldmfamnhpcaaIX5
namespace Go.Proofs.Ytnfldmfamnhpcaa.Vm
open Go
open List renaming getD_eq_getElem?_getD → zg,drop_one → zd
noncomputable section
set_option linter.unusedVariables false
set_option linter.unusedSimpArgs false
set_option maxRecDepth 200000

theorem ixRes_no {X:IxP} (h:¬ Zd X):ixRes X = .tup [.st [.nil,.nil,.nil],.bool false]:=by simp [ixRes,B_no h]
theorem ixRes_none {X:IxP} (h:Zd X) (hI:ixI X = []):ixRes X = .tup [.st [.nil,fr 1 cB [false],.nil],.bool true]:=by simp [ixRes,B_yes h,hI]
theorem ixRes_some {X:IxP} (h:Zd X) (hI:¬ ixI X = []):ixRes X = .tup [.st [fr 1 cI (ups (ixI X).length),fr 1 cB (ixF X).a,fr 4 cT (ixF X).e],.bool true]:=by simp [ixRes,B_yes h,hI]
theorem aut_len {a:List Int} {n:Nat} {c:List Tr4} (h:AutOk a n c):a.length ≤ 64:=by
  obtain ⟨h1,h2,_⟩:=Jt h
  have:=pigeon n a h2 h1
  have:=h.2.1
  omega
theorem ixOk_yes {a:List Int} {b:List Bool} {c:List Tr4} {a':List Int} {b':List Bool} {c':List Tr4} (h:Vm.B (AutOk a b.length c) = true) (h':Vm.B (AutOk a' b'.length c') = true):IxP.Ok ⟨a,b,c,a',b',c'⟩:=by
  rw [B_iff] at h h';exact ⟨h,h'⟩
theorem ixOk_no1 {a:List Int} {b:List Bool} {c:List Tr4} {a':List Int} {b':List Bool} {c':List Tr4} (h:Vm.B (AutOk a b.length c) = false):¬ IxP.Ok ⟨a,b,c,a',b',c'⟩:=by
  rw [B_not] at h;exact fun k=>h k.1
theorem ixOk_no2 {a:List Int} {b:List Bool} {c:List Tr4} {a':List Int} {b':List Bool} {c':List Tr4} (h:Vm.B (AutOk a' b'.length c') = false):¬ IxP.Ok ⟨a,b,c,a',b',c'⟩:=by
  rw [B_not] at h;exact fun k=>h k.2

@[go_sem] def zaey:Con:=.pure fun
  | [.list n_xs c_xs,.fn 28 [.pd [.list n_a' c_a',.list n_b' c_b',.list n_c' c_c']],.fn 26 [.pd [.list n_a c_a,.list n_b c_b,.list n_c c_c],.pd [.list n_a1 c_a1,.list n_b1 c_b1,.list n_c1 c_c1]]]=>((Is cK n_xs c_xs) ∧ (Is cI n_a' c_a') ∧ (Is cB n_b' c_b') ∧ (Is cT n_c' c_c') ∧ (Is cI n_a c_a) ∧ (Is cB n_b c_b) ∧ (Is cT n_c c_c) ∧ (Is cI n_a1 c_a1) ∧ (Is cB n_b1 c_b1) ∧ (Is cT n_c1 c_c1) ∧ (IxP.Ok ⟨(de cI c_a),(de cB c_b),(de cT c_c),(de cI c_a'),(de cB c_b'),(de cT c_c')⟩) ∧ ((de cK c_xs) = (ixI ⟨(de cI c_a),(de cB c_b),(de cT c_c),(de cI c_a'),(de cB c_b'),(de cT c_c')⟩).map tr3) ∧ ((de cI c_a1) = (de cI c_a')) ∧ ((de cB c_b1) = (de cB c_b')) ∧ ((de cT c_c1) = (de cT c_c')),ixRes ⟨(de cI c_a),(de cB c_b),(de cT c_c),(de cI c_a'),(de cB c_b'),(de cT c_c')⟩)
  | _=>(False,.any)
theorem zamf:ConOk Try.prog 27 zaey:=by
  refine ⟨Qp Try.func27 (by decide) rfl,fun args h=>?_⟩
  revert h
  dsimp only
  split
  · intro h
    obtain ⟨⟨xs,rfl,rfl⟩,⟨a',rfl,rfl⟩,⟨b',rfl,rfl⟩,⟨c',rfl,rfl⟩,⟨a,rfl,rfl⟩,⟨b,rfl,rfl⟩,⟨c,rfl,rfl⟩,⟨a1,rfl,rfl⟩,⟨b1,rfl,rfl⟩,⟨c1,rfl,rfl⟩,hX,hx,ea,eb,ec⟩:=h
    try simp only [Qr] at *
    exact ⟨explore_pure xs a' b' c' a b c a1 b1 c1 hX hx ea eb ec,by simp [go_sem]⟩
  · intro h
    exact h.elim
@[go_sem] def Γi3:FuncId → Con:=ext Γi2 27 zaey
theorem Je:∀ g,ConOk Try.prog g (Γi3 g):=Qo Jf zamf

set_option maxHeartbeats 4000000 in
theorem zaoi (a:List Int) (b:List Bool) (c:List Tr4) (a':List Int) (b':List Bool) (c':List Tr4) (hS:Xn c) (hS':Xn c'):Pure Try.prog 8 [.st [li cI a,li cB b,li cT c],.st [li cI a',li cB b',li cT c']] (if Vm.B (IxP.Ok ⟨a,b,c,a',b',c'⟩) = true then ixRes ⟨a,b,c,a',b',c'⟩ else .tup [.st [.nil,.nil,.nil],.bool false]):=by
  refine Pure.of_walk Try.func8 rfl (by simp [Try.f8]) (by simp [-zd,go_sem]) fun B hK=>?_
  cases hg:Vm.B (AutOk a b.length c) <;> cases hg2:Vm.B (AutOk a' b'.length c')
  all_goals (repeat' (first
 | refine Qu ?_
 | refine Qc (id:=0) Je [] (by kernel_rfl) ?_;simp [-zg,-zd,↓Qb,↓Qa,go_sem];try ((refine Xb hK 2 ?_);(refine Xb hK 3 ?_);simp [go_sem])
 | refine Qc (id:=1) Je [15] (by kernel_rfl) ?_;simp [-zg,-zd,↓Qb,↓Qa,go_sem,hg,hg2,hS,hS'];try (refine ⟨fun s1a=>?_,fun s1a=>?_⟩ <;> (try simp [B_iff,B_not] at s1a) <;> try (refine ⟨fun s1b=>?_,fun s1b=>?_⟩ <;> (try simp [B_iff,B_not] at s1b)))
 | refine Qc (id:=2) Je [] (by kernel_rfl) ?_;simp [-zg,-zd,↓Qb,↓Qa,go_sem]
 | ((have hX:IxP.Ok ⟨a,b,c,a',b',c'⟩:=ixOk_yes hg hg2);(have hXb:=B_yes hX);(have hl0:(ixI ⟨a,b,c,a',b',c'⟩).length ≤ 8192:=(ixI_ok hX).len hX.1.2.1 hX.2.2.1);(have hil:=fun k h=>ixIk_len (X:=⟨a,b,c,a',b',c'⟩) k h);(have hal:a.length ≤ 64:=(by have:=(Jt hX.1).2.1;exact (aut_len hX.1)));(have hal':a'.length ≤ 64:=(aut_len hX.2)));refine Qc (id:=3) Je [] (by kernel_rfl) ?_;simp [-zg,-zd,↓Qb,↓Qa,go_sem];try ((refine Wq 6 3 rfl ?_))
 | refine Qc (id:=4) Je [] (by kernel_rfl) ?_;simp [-zg,-zd,↓Qb,↓Qa,go_sem]
 | refine Qc (id:=5) Je [] (by kernel_rfl) ?_;simp [-zg,-zd,↓Qb,↓Qa,go_sem]
 | refine Qc (id:=6) Je [] (by kernel_rfl) ?_;simp [-zg,-zd,↓Qb,↓Qa,go_sem,c25,Qj c25,Nat.sub_pos_of_lt c25]
 | refine Qc (id:=7) Je [] (by kernel_rfl) ?_;simp [-zg,-zd,↓Qb,↓Qa,go_sem]
 | refine Qc (id:=8) Je [] (by kernel_rfl) ?_;simp [-zg,-zd,↓Qb,↓Qa,go_sem]
 | refine Qc (id:=9) Je [] (by kernel_rfl) ?_;simp [-zg,-zd,↓Qb,↓Qa,go_sem,c32,Qj c32,Nat.sub_pos_of_lt c32]
 | ((have h1:=hil k (by dsimp only;omega));(dsimp only at h1);(have hmul:k * a'.length ≤ 64 * 64:=Nat.mul_le_mul (by omega) hal');(have h2:(ixIin ⟨a,b,c,a',b',c'⟩ (nth a k) j).length = j:=ixIin_len (by dsimp only;omega));(have e9:ixIin ⟨a,b,c,a',b',c'⟩ (nth a k) (j + 1) = ixIin ⟨a,b,c,a',b',c'⟩ (nth a k) j ++ [[nth a k,nth a' j,0]]:=ixIin_succ (X:=⟨a,b,c,a',b',c'⟩) c32);(have e8:=snoc_cK ((ixIk ⟨a,b,c,a',b',c'⟩ k).map tr3 ++ (ixIin ⟨a,b,c,a',b',c'⟩ (nth a k) j).map tr3)));refine Qc (id:=10) Je [] (by kernel_rfl) ?_;simp [-zg,-zd,↓Qb,↓Qa,go_sem,mk3k,ss3k,e8,(show (ixIk ⟨a,b,c,a',b',c'⟩ k).length + (ixIin ⟨a,b,c,a',b',c'⟩ (nth a k) j).length ≤ 9223372036854775806 by omega),(show 2 * ((ixIk ⟨a,b,c,a',b',c'⟩ k).length + (ixIin ⟨a,b,c,a',b',c'⟩ (nth a k) j).length + 1) * 24 ≤ 281474976710656 by omega),(show (ixIk ⟨a,b,c,a',b',c'⟩ k).length + (ixIin ⟨a,b,c,a',b',c'⟩ (nth a k) j).length + 1 ≤ 9223372036854775807 by omega)]
 | refine Qc (id:=11) Je [] (by kernel_rfl) ?_;simp [-zg,-zd,↓Qb,↓Qa,go_sem,wrapS (k:=j) (by omega)]
 | ((obtain rfl:j = a'.length:=by omega);(have e5:ixIk ⟨a,b,c,a',b',c'⟩ (k + 1) = (ixIk ⟨a,b,c,a',b',c'⟩ k) ++ ixIin ⟨a,b,c,a',b',c'⟩ (nth a k) a'.length:=ixIk_succ (X:=⟨a,b,c,a',b',c'⟩) c25));refine Qc (id:=12) Je [] (by kernel_rfl) ?_;simp [-zg,-zd,↓Qb,↓Qa,go_sem,wrapS (k:=k) (by omega)]
 | refine Qc (id:=13) Je [] (by kernel_rfl) ?_;simp [-zg,-zd,↓Qb,↓Qa,go_sem];try ((obtain rfl:k = a.length:=by omega);(have hxe:ixIk ⟨a,b,c,a',b',c'⟩ a.length = ixI ⟨a,b,c,a',b',c'⟩:=rfl);(by_cases hG:Zd ⟨a,b,c,a',b',c'⟩);(by_cases hI:ixI ⟨a,b,c,a',b',c'⟩ = []);(have hres:=ixRes_none hG hI);(rotate_left 1);(have hres:=ixRes_some hG hI);(rotate_left 1);(have hres:=ixRes_no hG);(rotate_left 1))
 | refine Qc (id:=14) Je [] (by kernel_rfl) ?_;simp [-zg,-zd,↓Qb,↓Qa,go_sem,hX,hxe,hres]
 | refine Qd (c:=.tmp 19) ?_;simp [-zg,-zd,↓Qb,↓Qa,go_sem];try first | (refine ⟨?_,?_⟩ <;> refine zA ?_) | (refine ⟨fun c19=>?_,fun c19=>?_⟩ <;> (try simp [B_iff,B_not] at c19))
 | refine Qd (c:=.tmp 25) ?_;simp [-zg,-zd,↓Qb,↓Qa,go_sem];try first | (refine ⟨?_,?_⟩ <;> refine zA ?_) | (refine ⟨fun c25=>?_,fun c25=>?_⟩ <;> (try simp [B_iff,B_not] at c25))
 | refine Qd (c:=.tmp 32) ?_;simp [-zg,-zd,↓Qb,↓Qa,go_sem];try first | (refine ⟨?_,?_⟩ <;> refine zA ?_) | (refine ⟨fun c32=>?_,fun c32=>?_⟩ <;> (try simp [B_iff,B_not] at c32))
 | (refine Qe (id:=0) (Qz (ι:=Nat) (fun k:Nat=>⟨(upd (upd (upd (upd (upd (upd (upd (upd (fun _=>.any) 2 (.pd [li cI a,li cB b,li cT c])) 3 (.pd [li cI a',li cB b',li cT c'])) 4 (.box [.nil,.nil,.nil])) 5 (.bool false)) 6 (.fr 3 (ixIk ⟨a,b,c,a',b',c'⟩ k).length (cat cK ((ixIk ⟨a,b,c,a',b',c'⟩ k).map tr3)))) 22 (li cI a)) 23 (.int .i64 a.length)) 24 (.int .i64 k)),fun _=>none⟩) (fun k=>k ≤ a.length) (fun k=>a.length - k) (0) ?_ ?_ ?_);exact Nat.zero_le _;((repeat' (first | exact Qg (by assumption) | exact Qi | refine Qf ?_ ?_ | refine Qh ?_)) <;> simp [-zg,-zd,↓Qb,↓Qa,go_sem,ixIk_zero,Xg,List.length_nil,List.map_nil]);rintro k hk)
 | (refine ⟨k + 1,by omega,by first | omega | (simp;done) | (simp;omega),?_⟩;((repeat' (first | exact Qg (by assumption) | exact Qi | refine Qf ?_ ?_ | refine Qh ?_)) <;> simp [-zg,-zd,↓Qb,↓Qa,go_sem,e5]))
 | (refine Qe (id:=2) (Qz (ι:=Nat) (fun j:Nat=>⟨(upd (upd (upd (upd (upd (upd (upd (upd (upd (upd (upd (upd (fun _=>.any) 2 (.pd [li cI a,li cB b,li cT c])) 3 (.pd [li cI a',li cB b',li cT c'])) 4 (.box [.nil,.nil,.nil])) 5 (.bool false)) 8 (.int .i64 (nth a k))) 22 (li cI a)) 23 (.int .i64 a.length)) 24 (.int .i64 k)) 6 (.fr 3 (ixIk ⟨a,b,c,a',b',c'⟩ k ++ ixIin ⟨a,b,c,a',b',c'⟩ (nth a k) j).length (cat cK ((ixIk ⟨a,b,c,a',b',c'⟩ k ++ ixIin ⟨a,b,c,a',b',c'⟩ (nth a k) j).map tr3)))) 29 (li cI a')) 30 (.int .i64 a'.length)) 31 (.int .i64 j)),fun _=>none⟩) (fun j=>j ≤ a'.length) (fun j=>a'.length - j) (0) ?_ ?_ ?_);exact Nat.zero_le _;((repeat' (first | exact Qg (by assumption) | exact Qi | refine Qf ?_ ?_ | refine Qh ?_)) <;> simp [-zg,-zd,↓Qb,↓Qa,go_sem,ixIin_zero,List.append_nil]);rintro j hj)
 | (refine ⟨j + 1,by omega,by first | omega | (simp;done) | (simp;omega),?_⟩;((repeat' (first | exact Qg (by assumption) | exact Qi | refine Qf ?_ ?_ | refine Qh ?_)) <;> simp [-zg,-zd,↓Qb,↓Qa,go_sem,e9,tr3_mk,Nat.add_assoc]))
 | (refine Qe ?_)
 | (refine Qt ?_;simp [-zg,-zd,↓Qb,↓Qa,go_sem])
 | (refine Qs ?_;simp [-zg,-zd,↓Qb,↓Qa,go_sem])
 | (refine Qv ?_;simp [-zg,-zd,↓Qb,↓Qa,go_sem,Try.results8])
 | (intro hx;refine zA ?_)
 | (refine ⟨?_,?_⟩ <;> refine zA ?_)
 | (intro hx;constructor <;> intro hs)
 | (constructor <;> intro hs)
 | (refine ⟨?_,fun hs=>?_⟩;refine zA ?_)
 | (refine ⟨fun hs=>?_,?_⟩;rotate_left;refine zA ?_;rotate_left)))
  all_goals (first
 | (rw [if_neg (by simp [B_no (ixOk_no1 hg)])];done)
 | (rw [if_neg (by simp [B_no (ixOk_no2 hg2)])];done)
 | (simp [B_no (ixOk_no1 (a':=a') (b':=b') (c':=c') hg)];done)
 | (simp [B_no (ixOk_no2 (a:=a) (b:=b) (c:=c) hg2)];done)
 | (simp [hXb,hres,fr];done)
 | (intro h;exact absurd h (ixOk_no1 hg))
 | (intro h;exact absurd h (ixOk_no2 hg2))
 | skip)
@[go_sem] def zage:Con:=.pure fun
  | [.st [.list n_a c_a,.list n_b c_b,.list n_c c_c],.st [.list n_a' c_a',.list n_b' c_b',.list n_c' c_c']]=>((Is cI n_a c_a) ∧ (Is cB n_b c_b) ∧ (Is cT n_c c_c) ∧ (Is cI n_a' c_a') ∧ (Is cB n_b' c_b') ∧ (Is cT n_c' c_c') ∧ (Xn (de cT c_c)) ∧ (Xn (de cT c_c')),if Vm.B (IxP.Ok ⟨(de cI c_a),(de cB c_b),(de cT c_c),(de cI c_a'),(de cB c_b'),(de cT c_c')⟩) = true then ixRes ⟨(de cI c_a),(de cB c_b),(de cT c_c),(de cI c_a'),(de cB c_b'),(de cT c_c')⟩ else .tup [.st [.nil,.nil,.nil],.bool false])
  | _=>(False,.any)
theorem zanh:ConOk Try.prog 8 zage:=by
  refine ⟨Qp Try.func8 (by decide) rfl,fun args h=>?_⟩
  revert h
  dsimp only
  split
  · intro h
    obtain ⟨⟨a,rfl,rfl⟩,⟨b,rfl,rfl⟩,⟨c,rfl,rfl⟩,⟨a',rfl,rfl⟩,⟨b',rfl,rfl⟩,⟨c',rfl,rfl⟩,hS,hS'⟩:=h
    try simp only [Qr] at *
    exact ⟨zaoi a b c a' b' c' hS hS',by simp [go_sem]⟩
  · intro h
    exact h.elim
@[go_sem] def Γi4:FuncId → Con:=ext Γi3 8 zage
theorem Γi4_ok:∀ g,ConOk Try.prog g (Γi4 g):=Qo Je zanh

end
end Go.Proofs.Ytnfldmfamnhpcaa.Vm

