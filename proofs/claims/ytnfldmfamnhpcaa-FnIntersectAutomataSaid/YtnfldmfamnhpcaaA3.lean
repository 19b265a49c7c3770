import Derived.Test.YtnfldmfamnhpcaaJ10
import Derived.Test.YtnfldmfamnhpcaaTr
/-
  Automata: rows of Bools, of transitions; sz, to, eq. No conditions.
-/
namespace Go.Proofs.Ytnfldmfamnhpcaa.Vm
open Go
open Nat renaming sub_pos_of_lt → zsP
open List renaming getD_eq_getElem?_getD → zg,drop_one → zd
noncomputable section
set_option linter.unusedVariables false
set_option linter.unusedSimpArgs false
set_option maxRecDepth 200000

@[go_sem] def Γa1:FuncId → Con:=Γj4
theorem Γa1_ok:∀ g,ConOk Try.prog g (Γa1 g):=Γj4_ok

@[go_sem] def Γa2:FuncId → Con:=Γa1
theorem Wt:∀ g,ConOk Try.prog g (Γa2 g):=Γa1_ok

theorem toBoolS_pure (xs:List Bool) (h0:xs.length ≤ 1048576):Pure Try.prog 23 [li cB xs] (fr 1 cB xs):=by
  refine Pure.of_walk Try.func23 rfl (by simp [Try.f23]) (by simp [-zd,go_sem]) fun B hK=>?_
  (repeat' (first
 | refine Qu ?_
 | refine Qc (id:=0) Wt [] (by kernel_rfl) ?_;simp [-zg,-zd,↓Qb,↓Qa,go_sem]
 | refine Qc (id:=1) Wt [] (by kernel_rfl) ?_;simp [-zg,-zd,↓Qb,↓Qa,go_sem,(by omega:(xs.length:Int) ≤ 281474976710656),(by omega:(xs.length:Int) ≤ 9223372036854775807)];try ((refine Zk 3 rfl fun b cp j _ hcp hj=>?_))
 | refine Qc (id:=2) Wt [] (by kernel_rfl) ?_;simp [-zg,-zd,↓Qb,↓Qa,go_sem]
 | refine Qc (id:=3) Wt [] (by kernel_rfl) ?_;simp [-zg,-zd,↓Qb,↓Qa,go_sem]
 | refine Qc (id:=5) Wt [] (by kernel_rfl) ?_;simp [-zg,-zd,↓Qb,↓Qa,go_sem,c11,Qj c11,zsP c11]
 | refine Qc (id:=4) Wt [] (by kernel_rfl) ?_;simp [-zg,-zd,↓Qb,↓Qa,go_sem,wrapS (k:=k) (by omega)]
 | ((obtain rfl:k = xs.length:=by omega);refine Jz 3 (b:=b) (all:=cat cB xs ++ List.replicate j .any) rfl (by simp [go_sem,fill_all]) (by omega) (by simp [Qx]) (by simp [Qx];omega) ?_);refine Qc (id:=6) Wt [] (by kernel_rfl) ?_;simp [-zg,-zd,↓Qb,↓Qa,go_sem]
 | refine Qd (c:=.tmp 11) ?_;simp [-zg,-zd,↓Qb,↓Qa,go_sem];try first | (refine ⟨?_,?_⟩ <;> refine zA ?_) | (refine ⟨fun c11=>?_,fun c11=>?_⟩ <;> (try simp [B_iff,B_not] at c11))
 | (refine Qe (id:=0) (Qz (ι:=Nat) (fun k:Nat=>⟨(upd (upd (upd (fun _=>.any) 0 (li cB xs)) 3 (.sl b 1 0 xs.length cp)) 4 (.int .i64 k)),upd (fun _=>none) b (some (fillC cB [.bool false] 1 xs k (List.replicate j .any)))⟩) (fun k=>k ≤ xs.length) (fun k=>xs.length - k) (0) ?_ ?_ ?_);exact Nat.zero_le _;((repeat' (first | exact Qg (by assumption) | exact Qi | refine Qf ?_ ?_ | refine Qh ?_)) <;> simp [-zg,-zd,↓Qb,↓Qa,go_sem,zajx]);rintro k hk)
 | (refine ⟨k + 1,by omega,by first | omega | (simp;done) | (simp;omega),?_⟩;((repeat' (first | exact Qg (by assumption) | exact Qi | refine Qf ?_ ?_ | refine Qh ?_)) <;> simp [-zg,-zd,↓Qb,↓Qa,go_sem,zajx]))
 | (refine Qe ?_)
 | (refine Qt ?_;simp [-zg,-zd,↓Qb,↓Qa,go_sem])
 | (refine Qs ?_;simp [-zg,-zd,↓Qb,↓Qa,go_sem])
 | (refine Qv ?_;simp [-zg,-zd,↓Qb,↓Qa,go_sem,Try.results23])
 | (intro hx;refine zA ?_)
 | (refine ⟨?_,?_⟩ <;> refine zA ?_)
 | (intro hx;constructor <;> intro hs)
 | (constructor <;> intro hs)
 | (refine ⟨?_,fun hs=>?_⟩;refine zA ?_)
 | (refine ⟨fun hs=>?_,?_⟩;rotate_left;refine zA ?_;rotate_left)))
@[go_sem] def zael:Con:=.pure fun
  | [.list n_xs c_xs]=>((Is cB n_xs c_xs) ∧ ((de cB c_xs).length ≤ 1048576),fr 1 cB (de cB c_xs))
  | _=>(False,.any)
theorem zake:ConOk Try.prog 23 zael:=by
  refine ⟨Qp Try.func23 (by decide) rfl,fun args h=>?_⟩
  revert h
  dsimp only
  split
  · intro h
    obtain ⟨⟨xs,rfl,rfl⟩,h0⟩:=h
    try simp only [Qr] at *
    exact ⟨toBoolS_pure xs h0,by simp [go_sem]⟩
  · intro h
    exact h.elim
@[go_sem] def Γa3:FuncId → Con:=ext Γa2 23 zael
theorem Γa3_ok:∀ g,ConOk Try.prog g (Γa3 g):=Qo Wt zake

@[go_sem] def Γa4:FuncId → Con:=Γa3
theorem Γa4_ok:∀ g,ConOk Try.prog g (Γa4 g):=Γa3_ok

@[go_sem] def Γa5:FuncId → Con:=Γa4
theorem Γa5_ok:∀ g,ConOk Try.prog g (Γa5 g):=Γa4_ok

@[go_sem] def Γa6:FuncId → Con:=Γa5
theorem Γa6_ok:∀ g,ConOk Try.prog g (Γa6 g):=Γa5_ok

@[go_sem] def Γa7:FuncId → Con:=Γa6
theorem Γa7_ok:∀ g,ConOk Try.prog g (Γa7 g):=Γa6_ok

@[go_sem] def Γa8:FuncId → Con:=Γa7
theorem Γa8_ok:∀ g,ConOk Try.prog g (Γa8 g):=Γa7_ok

@[go_sem] def Γa9:FuncId → Con:=Γa8
theorem Γa9_ok:∀ g,ConOk Try.prog g (Γa9 g):=Γa8_ok

@[go_sem] def Γa10:FuncId → Con:=Γa9
theorem Γa10_ok:∀ g,ConOk Try.prog g (Γa10 g):=Γa9_ok

@[go_sem] def Γa11:FuncId → Con:=Γa10
theorem Vz:∀ g,ConOk Try.prog g (Γa11 g):=Γa10_ok

theorem st4_tr:St4 Try.prog 53:=by
  refine ⟨by kernel_rfl,fun a b c d a' b' c' d' w=>?_⟩
  have hI:=Try.underlying3
  have hS:Try.prog.underlying 53 = some (.struct (Try.prog.fieldsOf 53)):=by kernel_rfl
  have hp:Try.prog.stoodInHeld 53 = false:=by kernel_rfl
  rw [show (10000:Nat) = 9999 + 1 from rfl,run_equalIn_agg w 9999 _ _ _ hS hp]
  have hz:∀ w,(sizeOf 3).run Try.prog w = .ok 1 w:=Zr (P:=Try.prog) (ty3)
  have ha:∀ w,(isAgg 3).run Try.prog w = .ok false w:=zakp (P:=Try.prog) (ty3)
  have hf:(Try.prog.fieldsOf 53).toList.map (fun f=>(f.name,f.type,f.offset)) = [("From",3,0),("Care",3,1),("Value",3,2),("To",3,3)]:=by kernel_rfl
  simp only [Program.fieldsOf,Try.underlying53]
  simp [Op.eqFields,part,ha,run_equalIn_int w 9998 _ _ _ _ _ hI]
  by_cases h1:a = a' <;> by_cases h2:b = b' <;> by_cases h3:c = c' <;> by_cases h4:d = d' <;> simp [h1,h2,h3,h4]
@[go_sem] theorem st4_on:St4 Try.prog 53 = True:=eq_true st4_tr

theorem l2IntsA_pure (xs:List Int) (ys:List Int)  : Pure Try.prog 49 [li cI xs,li cI ys] (.bool (decide (xs = ys))):=by
  refine Pure.of_walk Try.func49 rfl (by simp [Try.f49]) (by simp [-zd,go_sem]) fun B hK=>?_
  (repeat' (first
 | refine Qu ?_
 | (refine Vb 0 rfl fun hm=>?_);refine Qc (id:=0) Vz [] (by kernel_rfl) ?_;simp [-zg,-zd,↓Qb,↓Qa,go_sem]
 | refine Qc (id:=1) Vz [] (by kernel_rfl) ?_;simp [-zg,-zd,↓Qb,↓Qa,go_sem]
 | refine Qc (id:=2) Vz [] (by kernel_rfl) ?_;simp [-zg,-zd,↓Qb,↓Qa,go_sem]
 | refine Qc (id:=3) Vz [] (by kernel_rfl) ?_;simp [-zg,-zd,↓Qb,↓Qa,go_sem]
 | refine Qc (id:=4) Vz [] (by kernel_rfl) ?_;simp [-zg,-zd,↓Qb,↓Qa,go_sem]
 | (have cy:k < ys.length:=by omega);refine Xr (id:=6) Vz mixed [] [5] (by kernel_rfl) (by kernel_rfl) (by simp [-zg,-zd,↓Qb,↓Qa,go_sem,c14,Qj c14,zsP c14,cy,Qj cy,zsP cy]) ?_;simp [-zg,-zd,↓Qb,↓Qa,go_sem,c14,Qj c14,zsP c14,cy,Qj cy,zsP cy]
 | refine Qc (id:=7) Vz [] (by kernel_rfl) ?_;simp [-zg,-zd,↓Qb,↓Qa,go_sem]
 | refine Qc (id:=5) Vz [] (by kernel_rfl) ?_;simp [-zg,-zd,↓Qb,↓Qa,go_sem,wrapS (k:=k) (by omega)]
 | refine Qc (id:=8) Vz [] (by kernel_rfl) ?_;simp [-zg,-zd,↓Qb,↓Qa,go_sem]
 | refine Qd (c:=.tmp 10) ?_;simp [-zg,-zd,↓Qb,↓Qa,go_sem];try first | (refine ⟨?_,?_⟩ <;> refine zA ?_) | (refine ⟨fun c10=>?_,fun c10=>?_⟩ <;> (try simp [B_iff,B_not] at c10))
 | refine Qd (c:=.tmp 14) ?_;simp [-zg,-zd,↓Qb,↓Qa,go_sem];try first | (refine ⟨?_,?_⟩ <;> refine zA ?_) | (refine ⟨fun c14=>?_,fun c14=>?_⟩ <;> (try simp [B_iff,B_not] at c14))
 | refine Qd (c:=.tmp 25) ?_;simp [-zg,-zd,↓Qb,↓Qa,go_sem];try first | (refine ⟨?_,?_⟩ <;> refine zA ?_) | (refine ⟨fun c25=>?_,fun c25=>?_⟩ <;> (try simp [B_iff,B_not] at c25))
 | (refine Qe (id:=0) (Qz (ι:=Nat) (fun k:Nat=>⟨(upd (upd (upd (fun _=>.any) 0 (li cI xs)) 1 (li cI ys)) 5 (.int .i64 k)),fun _=>none⟩) (fun k=>k ≤ xs.length ∧ NoneTill (neAt xs ys) k) (fun k=>xs.length - k) (0) ?_ ?_ ?_);exact ⟨Nat.zero_le _,.zero _⟩;((repeat' (first | exact Qg (by assumption) | exact Qi | refine Qf ?_ ?_ | refine Qh ?_)) <;> simp [-zg,-zd,↓Qb,↓Qa,go_sem]);rintro k ⟨hk,ht⟩)
 | (refine ⟨k + 1,⟨by omega,ht.succ (by simp [neAt];first | exact c25 | (apply Prod.ext <;> simp_all;done) | (simp_all [Prod.ext_iff];done) | simp_all)⟩,by first | omega | (simp;done) | (simp;omega),?_⟩;((repeat' (first | exact Qg (by assumption) | exact Qi | refine Qf ?_ ?_ | refine Qh ?_)) <;> simp [-zg,-zd,↓Qb,↓Qa,go_sem]))
 | (refine Qe ?_)
 | (refine Qt ?_;simp [-zg,-zd,↓Qb,↓Qa,go_sem])
 | (refine Qs ?_;simp [-zg,-zd,↓Qb,↓Qa,go_sem])
 | (refine Qv ?_;simp [-zg,-zd,↓Qb,↓Qa,go_sem,Try.results49])
 | (intro hx;refine zA ?_)
 | (refine ⟨?_,?_⟩ <;> refine zA ?_)
 | (intro hx;constructor <;> intro hs)
 | (constructor <;> intro hs)
 | (refine ⟨?_,fun hs=>?_⟩;refine zA ?_)
 | (refine ⟨fun hs=>?_,?_⟩;rotate_left;refine zA ?_;rotate_left)))
  all_goals (first
 | (rintro rfl;simp at c10;done)
 | (rintro rfl;simp at c25;done)
 | exact zadk (by omega) ht (by omega)
 | skip)
@[go_sem] def zaev:Con:=.pure fun
  | [.list n_xs c_xs,.list n_ys c_ys]=>((Is cI n_xs c_xs) ∧ (Is cI n_ys c_ys),.bool (decide ((de cI c_xs) = (de cI c_ys))))
  | _=>(False,.any)
theorem zalw:ConOk Try.prog 49 zaev:=by
  refine ⟨Qp Try.func49 (by decide) rfl,fun args h=>?_⟩
  revert h
  dsimp only
  split
  · intro h
    obtain ⟨⟨xs,rfl,rfl⟩,⟨ys,rfl,rfl⟩⟩:=h
    try simp only [Qr] at *
    exact ⟨l2IntsA_pure xs ys,by simp [go_sem]⟩
  · intro h
    exact h.elim
@[go_sem] def Γa12:FuncId → Con:=ext Γa11 49 zaev
theorem Vp:∀ g,ConOk Try.prog g (Γa12 g):=Qo Vz zalw

theorem sEqI_pure (xs:List Int) (ys:List Int)  : Pure Try.prog 43 [li cI xs,li cI ys] (.bool (decide (xs = ys))):=by
  refine Pure.of_walk Try.func43 rfl (by simp [Try.f43]) (by simp [-zd,go_sem]) fun B hK=>?_
  (repeat' (first
 | refine Qu ?_
 | (refine Vb 0 rfl fun hm=>?_);refine Qc (id:=0) Vp [] (by kernel_rfl) ?_;simp [-zg,-zd,↓Qb,↓Qa,go_sem]
 | refine Qc (id:=1) Vp [] (by kernel_rfl) ?_;simp [-zg,-zd,↓Qb,↓Qa,go_sem]
 | refine Qc (id:=2) Vp [] (by kernel_rfl) ?_;simp [-zg,-zd,↓Qb,↓Qa,go_sem]
 | refine Qc (id:=3) Vp [] (by kernel_rfl) ?_;simp [-zg,-zd,↓Qb,↓Qa,go_sem]
 | refine Qc (id:=4) Vp [] (by kernel_rfl) ?_;simp [-zg,-zd,↓Qb,↓Qa,go_sem]
 | refine Qc (id:=5) Vp [] (by kernel_rfl) ?_;simp [-zg,-zd,↓Qb,↓Qa,go_sem,c14,Qj c14,zsP c14]
 | (have cy:k < ys.length:=by omega);refine Xr (id:=6) Vp mixed [] [5] (by kernel_rfl) (by kernel_rfl) (by simp [-zg,-zd,↓Qb,↓Qa,go_sem,c14,Qj c14,zsP c14,cy,Qj cy,zsP cy]) ?_;simp [-zg,-zd,↓Qb,↓Qa,go_sem,c14,Qj c14,zsP c14,cy,Qj cy,zsP cy]
 | refine Qc (id:=7) Vp [] (by kernel_rfl) ?_;simp [-zg,-zd,↓Qb,↓Qa,go_sem]
 | refine Qc (id:=8) Vp [] (by kernel_rfl) ?_;simp [-zg,-zd,↓Qb,↓Qa,go_sem,wrapS (k:=k) (by omega)]
 | refine Qc (id:=9) Vp [] (by kernel_rfl) ?_;simp [-zg,-zd,↓Qb,↓Qa,go_sem]
 | refine Qd (c:=.tmp 10) ?_;simp [-zg,-zd,↓Qb,↓Qa,go_sem];try first | (refine ⟨?_,?_⟩ <;> refine zA ?_) | (refine ⟨fun c10=>?_,fun c10=>?_⟩ <;> (try simp [B_iff,B_not] at c10))
 | refine Qd (c:=.tmp 14) ?_;simp [-zg,-zd,↓Qb,↓Qa,go_sem];try first | (refine ⟨?_,?_⟩ <;> refine zA ?_) | (refine ⟨fun c14=>?_,fun c14=>?_⟩ <;> (try simp [B_iff,B_not] at c14))
 | refine Qd (c:=.tmp 24) ?_;simp [-zg,-zd,↓Qb,↓Qa,go_sem];try first | (refine ⟨?_,?_⟩ <;> refine zA ?_) | (refine ⟨fun c24=>?_,fun c24=>?_⟩ <;> (try simp [B_iff,B_not] at c24))
 | (refine Qe (id:=0) (Qz (ι:=Nat) (fun k:Nat=>⟨(upd (upd (upd (upd (upd (fun _=>.any) 0 (li cI xs)) 1 (li cI ys)) 11 (li cI xs)) 12 (.int .i64 xs.length)) 13 (.int .i64 k)),fun _=>none⟩) (fun k=>k ≤ xs.length ∧ NoneTill (neAt xs ys) k) (fun k=>xs.length - k) (0) ?_ ?_ ?_);exact ⟨Nat.zero_le _,.zero _⟩;((repeat' (first | exact Qg (by assumption) | exact Qi | refine Qf ?_ ?_ | refine Qh ?_)) <;> simp [-zg,-zd,↓Qb,↓Qa,go_sem]);rintro k ⟨hk,ht⟩)
 | (refine ⟨k + 1,⟨by omega,ht.succ (by simp [neAt];first | exact c24 | (simp_all [Prod.ext_iff];done) | simp_all)⟩,by first | omega | (simp;done) | (simp;omega),?_⟩;((repeat' (first | exact Qg (by assumption) | exact Qi | refine Qf ?_ ?_ | refine Qh ?_)) <;> simp [-zg,-zd,↓Qb,↓Qa,go_sem]))
 | (refine Qe ?_)
 | (refine Qt ?_;simp [-zg,-zd,↓Qb,↓Qa,go_sem])
 | (refine Qs ?_;simp [-zg,-zd,↓Qb,↓Qa,go_sem])
 | (refine Qv ?_;simp [-zg,-zd,↓Qb,↓Qa,go_sem,Try.results43])
 | (intro hx;refine zA ?_)
 | (refine ⟨?_,?_⟩ <;> refine zA ?_)
 | (intro hx;constructor <;> intro hs)
 | (constructor <;> intro hs)
 | (refine ⟨?_,fun hs=>?_⟩;refine zA ?_)
 | (refine ⟨fun hs=>?_,?_⟩;rotate_left;refine zA ?_;rotate_left)))
  all_goals (first
 | (rintro rfl;simp at c10;done)
 | (rintro rfl;simp at c24;done)
 | (rintro rfl;exact c24 rfl)
 | exact zadk (by omega) ht (by omega)
 | skip)
@[go_sem] def zakn:Con:=.pure fun
  | [.list n_xs c_xs,.list n_ys c_ys]=>((Is cI n_xs c_xs) ∧ (Is cI n_ys c_ys),.bool (decide ((de cI c_xs) = (de cI c_ys))))
  | _=>(False,.any)
theorem sEqI_pureC_ok:ConOk Try.prog 43 zakn:=by
  refine ⟨Qp Try.func43 (by decide) rfl,fun args h=>?_⟩
  revert h
  dsimp only
  split
  · intro h
    obtain ⟨⟨xs,rfl,rfl⟩,⟨ys,rfl,rfl⟩⟩:=h
    try simp only [Qr] at *
    exact ⟨sEqI_pure xs ys,by simp [go_sem]⟩
  · intro h
    exact h.elim
@[go_sem] def Γa13:FuncId → Con:=ext Γa12 43 zakn
theorem Vo:∀ g,ConOk Try.prog g (Γa13 g):=Qo Vp sEqI_pureC_ok

theorem sEqB_pure (xs:List Bool) (ys:List Bool)  : Pure Try.prog 44 [li cB xs,li cB ys] (.bool (decide (xs = ys))):=by
  refine Pure.of_walk Try.func44 rfl (by simp [Try.f44]) (by simp [-zd,go_sem]) fun B hK=>?_
  (repeat' (first
 | refine Qu ?_
 | (refine Vb 0 rfl fun hm=>?_);refine Qc (id:=0) Vo [] (by kernel_rfl) ?_;simp [-zg,-zd,↓Qb,↓Qa,go_sem]
 | refine Qc (id:=1) Vo [] (by kernel_rfl) ?_;simp [-zg,-zd,↓Qb,↓Qa,go_sem]
 | refine Qc (id:=2) Vo [] (by kernel_rfl) ?_;simp [-zg,-zd,↓Qb,↓Qa,go_sem]
 | refine Qc (id:=3) Vo [] (by kernel_rfl) ?_;simp [-zg,-zd,↓Qb,↓Qa,go_sem]
 | refine Qc (id:=4) Vo [] (by kernel_rfl) ?_;simp [-zg,-zd,↓Qb,↓Qa,go_sem]
 | refine Qc (id:=5) Vo [] (by kernel_rfl) ?_;simp [-zg,-zd,↓Qb,↓Qa,go_sem,c14,Qj c14,zsP c14]
 | (have cy:k < ys.length:=by omega);refine Xr (id:=6) Vo mixed [] [5] (by kernel_rfl) (by kernel_rfl) (by simp [-zg,-zd,↓Qb,↓Qa,go_sem,c14,Qj c14,zsP c14,cy,Qj cy,zsP cy]) ?_;simp [-zg,-zd,↓Qb,↓Qa,go_sem,c14,Qj c14,zsP c14,cy,Qj cy,zsP cy]
 | refine Qc (id:=7) Vo [] (by kernel_rfl) ?_;simp [-zg,-zd,↓Qb,↓Qa,go_sem]
 | refine Qc (id:=8) Vo [] (by kernel_rfl) ?_;simp [-zg,-zd,↓Qb,↓Qa,go_sem,wrapS (k:=k) (by omega)]
 | refine Qc (id:=9) Vo [] (by kernel_rfl) ?_;simp [-zg,-zd,↓Qb,↓Qa,go_sem]
 | refine Qd (c:=.tmp 10) ?_;simp [-zg,-zd,↓Qb,↓Qa,go_sem];try first | (refine ⟨?_,?_⟩ <;> refine zA ?_) | (refine ⟨fun c10=>?_,fun c10=>?_⟩ <;> (try simp [B_iff,B_not] at c10))
 | refine Qd (c:=.tmp 14) ?_;simp [-zg,-zd,↓Qb,↓Qa,go_sem];try first | (refine ⟨?_,?_⟩ <;> refine zA ?_) | (refine ⟨fun c14=>?_,fun c14=>?_⟩ <;> (try simp [B_iff,B_not] at c14))
 | refine Qd (c:=.tmp 24) ?_;simp [-zg,-zd,↓Qb,↓Qa,go_sem];try first | (refine ⟨?_,?_⟩ <;> refine zA ?_) | (refine ⟨fun c24=>?_,fun c24=>?_⟩ <;> (try simp [B_iff,B_not] at c24))
 | (refine Qe (id:=0) (Qz (ι:=Nat) (fun k:Nat=>⟨(upd (upd (upd (upd (upd (fun _=>.any) 0 (li cB xs)) 1 (li cB ys)) 11 (li cB xs)) 12 (.int .i64 xs.length)) 13 (.int .i64 k)),fun _=>none⟩) (fun k=>k ≤ xs.length ∧ NoneTill (neAt xs ys) k) (fun k=>xs.length - k) (0) ?_ ?_ ?_);exact ⟨Nat.zero_le _,.zero _⟩;((repeat' (first | exact Qg (by assumption) | exact Qi | refine Qf ?_ ?_ | refine Qh ?_)) <;> simp [-zg,-zd,↓Qb,↓Qa,go_sem]);rintro k ⟨hk,ht⟩)
 | (refine ⟨k + 1,⟨by omega,ht.succ (by simp [neAt];first | exact c24 | (simp_all [Prod.ext_iff];done) | simp_all)⟩,by first | omega | (simp;done) | (simp;omega),?_⟩;((repeat' (first | exact Qg (by assumption) | exact Qi | refine Qf ?_ ?_ | refine Qh ?_)) <;> simp [-zg,-zd,↓Qb,↓Qa,go_sem]))
 | (refine Qe ?_)
 | (refine Qt ?_;simp [-zg,-zd,↓Qb,↓Qa,go_sem])
 | (refine Qs ?_;simp [-zg,-zd,↓Qb,↓Qa,go_sem])
 | (refine Qv ?_;simp [-zg,-zd,↓Qb,↓Qa,go_sem,Try.results44])
 | (intro hx;refine zA ?_)
 | (refine ⟨?_,?_⟩ <;> refine zA ?_)
 | (intro hx;constructor <;> intro hs)
 | (constructor <;> intro hs)
 | (refine ⟨?_,fun hs=>?_⟩;refine zA ?_)
 | (refine ⟨fun hs=>?_,?_⟩;rotate_left;refine zA ?_;rotate_left)))
  all_goals (first
 | (rintro rfl;simp at c10;done)
 | (rintro rfl;simp at c24;done)
 | (rintro rfl;exact c24 rfl)
 | exact zadk (by omega) ht (by omega)
 | skip)
@[go_sem] def zako:Con:=.pure fun
  | [.list n_xs c_xs,.list n_ys c_ys]=>((Is cB n_xs c_xs) ∧ (Is cB n_ys c_ys),.bool (decide ((de cB c_xs) = (de cB c_ys))))
  | _=>(False,.any)
theorem sEqB_pureC_ok:ConOk Try.prog 44 zako:=by
  refine ⟨Qp Try.func44 (by decide) rfl,fun args h=>?_⟩
  revert h
  dsimp only
  split
  · intro h
    obtain ⟨⟨xs,rfl,rfl⟩,⟨ys,rfl,rfl⟩⟩:=h
    try simp only [Qr] at *
    exact ⟨sEqB_pure xs ys,by simp [go_sem]⟩
  · intro h
    exact h.elim
@[go_sem] def Γa14:FuncId → Con:=ext Γa13 44 zako
theorem Vn:∀ g,ConOk Try.prog g (Γa14 g):=Qo Vo sEqB_pureC_ok

theorem sEqT_pure (xs:List Tr4) (ys:List Tr4)  : Pure Try.prog 45 [li cT xs,li cT ys] (.bool (decide (xs = ys))):=by
  refine Pure.of_walk Try.func45 rfl (by simp [Try.f45]) (by simp [-zd,go_sem]) fun B hK=>?_
  (repeat' (first
 | refine Qu ?_
 | (refine Vb 0 rfl fun hm=>?_);refine Qc (id:=0) Vn [] (by kernel_rfl) ?_;simp [-zg,-zd,↓Qb,↓Qa,go_sem]
 | refine Qc (id:=1) Vn [] (by kernel_rfl) ?_;simp [-zg,-zd,↓Qb,↓Qa,go_sem]
 | refine Qc (id:=2) Vn [] (by kernel_rfl) ?_;simp [-zg,-zd,↓Qb,↓Qa,go_sem]
 | refine Qc (id:=3) Vn [] (by kernel_rfl) ?_;simp [-zg,-zd,↓Qb,↓Qa,go_sem]
 | refine Qc (id:=4) Vn [] (by kernel_rfl) ?_;simp [-zg,-zd,↓Qb,↓Qa,go_sem]
 | refine Qc (id:=5) Vn [] (by kernel_rfl) ?_;simp [-zg,-zd,↓Qb,↓Qa,go_sem,c14,Qj c14,zsP c14]
 | (have cy:k < ys.length:=by omega);refine Xr (id:=6) Vn mixed [] [5] (by kernel_rfl) (by kernel_rfl) (by simp [-zg,-zd,↓Qb,↓Qa,go_sem,c14,Qj c14,zsP c14,cy,Qj cy,zsP cy]) ?_;simp [-zg,-zd,↓Qb,↓Qa,go_sem,c14,Qj c14,zsP c14,cy,Qj cy,zsP cy]
 | refine Qc (id:=7) Vn [] (by kernel_rfl) ?_;simp [-zg,-zd,↓Qb,↓Qa,go_sem]
 | refine Qc (id:=8) Vn [] (by kernel_rfl) ?_;simp [-zg,-zd,↓Qb,↓Qa,go_sem,wrapS (k:=k) (by omega)]
 | refine Qc (id:=9) Vn [] (by kernel_rfl) ?_;simp [-zg,-zd,↓Qb,↓Qa,go_sem]
 | refine Qd (c:=.tmp 10) ?_;simp [-zg,-zd,↓Qb,↓Qa,go_sem];try first | (refine ⟨?_,?_⟩ <;> refine zA ?_) | (refine ⟨fun c10=>?_,fun c10=>?_⟩ <;> (try simp [B_iff,B_not] at c10))
 | refine Qd (c:=.tmp 14) ?_;simp [-zg,-zd,↓Qb,↓Qa,go_sem];try first | (refine ⟨?_,?_⟩ <;> refine zA ?_) | (refine ⟨fun c14=>?_,fun c14=>?_⟩ <;> (try simp [B_iff,B_not] at c14))
 | refine Qd (c:=.tmp 24) ?_;simp [-zg,-zd,↓Qb,↓Qa,go_sem];try first | (refine ⟨?_,?_⟩ <;> refine zA ?_) | (refine ⟨fun c24=>?_,fun c24=>?_⟩ <;> (try simp [B_iff,B_not] at c24))
 | (refine Qe (id:=0) (Qz (ι:=Nat) (fun k:Nat=>⟨(upd (upd (upd (upd (upd (fun _=>.any) 0 (li cT xs)) 1 (li cT ys)) 11 (li cT xs)) 12 (.int .i64 xs.length)) 13 (.int .i64 k)),fun _=>none⟩) (fun k=>k ≤ xs.length ∧ NoneTill (neAt xs ys) k) (fun k=>xs.length - k) (0) ?_ ?_ ?_);exact ⟨Nat.zero_le _,.zero _⟩;((repeat' (first | exact Qg (by assumption) | exact Qi | refine Qf ?_ ?_ | refine Qh ?_)) <;> simp [-zg,-zd,↓Qb,↓Qa,go_sem]);rintro k ⟨hk,ht⟩)
 | (refine ⟨k + 1,⟨by omega,ht.succ (by simp [neAt];first | exact c24 | (simp_all [Prod.ext_iff];done) | simp_all)⟩,by first | omega | (simp;done) | (simp;omega),?_⟩;((repeat' (first | exact Qg (by assumption) | exact Qi | refine Qf ?_ ?_ | refine Qh ?_)) <;> simp [-zg,-zd,↓Qb,↓Qa,go_sem]))
 | (refine Qe ?_)
 | (refine Qt ?_;simp [-zg,-zd,↓Qb,↓Qa,go_sem])
 | (refine Qs ?_;simp [-zg,-zd,↓Qb,↓Qa,go_sem])
 | (refine Qv ?_;simp [-zg,-zd,↓Qb,↓Qa,go_sem,Try.results45])
 | (intro hx;refine zA ?_)
 | (refine ⟨?_,?_⟩ <;> refine zA ?_)
 | (intro hx;constructor <;> intro hs)
 | (constructor <;> intro hs)
 | (refine ⟨?_,fun hs=>?_⟩;refine zA ?_)
 | (refine ⟨fun hs=>?_,?_⟩;rotate_left;refine zA ?_;rotate_left)))
  all_goals (first
 | (rintro rfl;simp at c10;done)
 | (rintro rfl;simp at c24;done)
 | (rintro rfl;exact c24 rfl)
 | exact zadk (by omega) ht (by omega)
 | skip)
@[go_sem] def zakm:Con:=.pure fun
  | [.list n_xs c_xs,.list n_ys c_ys]=>((Is cT n_xs c_xs) ∧ (Is cT n_ys c_ys),.bool (decide ((de cT c_xs) = (de cT c_ys))))
  | _=>(False,.any)
theorem sEqT_pureC_ok:ConOk Try.prog 45 zakm:=by
  refine ⟨Qp Try.func45 (by decide) rfl,fun args h=>?_⟩
  revert h
  dsimp only
  split
  · intro h
    obtain ⟨⟨xs,rfl,rfl⟩,⟨ys,rfl,rfl⟩⟩:=h
    try simp only [Qr] at *
    exact ⟨sEqT_pure xs ys,by simp [go_sem]⟩
  · intro h
    exact h.elim
@[go_sem] def Γa15:FuncId → Con:=ext Γa14 45 zakm
theorem Γa15_ok:∀ g,ConOk Try.prog g (Γa15 g):=Qo Vn sEqT_pureC_ok

theorem zaew (a:List Int) (b:List Bool) (c:List Tr4) (a':List Int) (b':List Bool) (c':List Tr4)  : Pure Try.prog 14 [.st [li cI a,li cB b,li cT c],.st [li cI a',li cB b',li cT c']] (.bool (decide (a = a') && decide (b = b') && decide (c = c'))):=by
  refine Pure.of_walk Try.func14 rfl (by simp [Try.f14]) (by simp [-zd,go_sem]) fun B hK=>?_
  (repeat' (first
 | refine Qu ?_
 | refine Qc (id:=0) Γa15_ok [] (by kernel_rfl) ?_;simp [-zg,-zd,↓Qb,↓Qa,go_sem];try (refine Xb hK 2 ?_;simp [go_sem];refine Xb hK 3 ?_;simp [go_sem])
 | refine Qc (id:=1) Γa15_ok [10,17] (by kernel_rfl) ?_;simp [-zg,-zd,↓Qb,↓Qa,go_sem];try (refine ⟨fun s1a=>?_,fun s1a=>?_⟩ <;> (try simp [B_iff,B_not] at s1a) <;> try (refine ⟨fun s1b=>?_,fun s1b=>?_⟩ <;> (try simp [B_iff,B_not] at s1b) <;> try (refine ⟨fun s1c=>?_,fun s1c=>?_⟩ <;> (try simp [B_iff,B_not] at s1c))))
 | (refine Qe ?_)
 | (refine Qt ?_;simp [-zg,-zd,↓Qb,↓Qa,go_sem])
 | (refine Qs ?_;simp [-zg,-zd,↓Qb,↓Qa,go_sem])
 | (refine Qv ?_;simp [-zg,-zd,↓Qb,↓Qa,go_sem,Try.results14])
 | (intro hx;refine zA ?_)
 | (refine ⟨?_,?_⟩ <;> refine zA ?_)
 | (intro hx;constructor <;> intro hs)
 | (constructor <;> intro hs)
 | (refine ⟨?_,fun hs=>?_⟩;refine zA ?_)
 | (refine ⟨fun hs=>?_,?_⟩;rotate_left;refine zA ?_;rotate_left)))
  all_goals (first
 | (simp_all;done)
 | (intros;simp_all;done)
 | skip)
@[go_sem] def zaal:Con:=.pure fun
  | [.st [.list n_a c_a,.list n_b c_b,.list n_c c_c],.st [.list n_a' c_a',.list n_b' c_b',.list n_c' c_c']]=>((Is cI n_a c_a) ∧ (Is cB n_b c_b) ∧ (Is cT n_c c_c) ∧ (Is cI n_a' c_a') ∧ (Is cB n_b' c_b') ∧ (Is cT n_c' c_c'),.bool (decide ((de cI c_a) = (de cI c_a')) && decide ((de cB c_b) = (de cB c_b')) && decide ((de cT c_c) = (de cT c_c'))))
  | _=>(False,.any)
theorem zadc:ConOk Try.prog 14 zaal:=by
  refine ⟨Qp Try.func14 (by decide) rfl,fun args h=>?_⟩
  revert h
  dsimp only
  split
  · intro h
    obtain ⟨⟨a,rfl,rfl⟩,⟨b,rfl,rfl⟩,⟨c,rfl,rfl⟩,⟨a',rfl,rfl⟩,⟨b',rfl,rfl⟩,⟨c',rfl,rfl⟩⟩:=h
    try simp only [Qr] at *
    exact ⟨zaew a b c a' b' c',by simp [go_sem]⟩
  · intro h
    exact h.elim
@[go_sem] def Γa16:FuncId → Con:=ext Γa15 14 zaal
theorem Γa16_ok:∀ g,ConOk Try.prog g (Γa16 g):=Qo Γa15_ok zadc

@[go_sem] def Γa17:FuncId → Con:=Γa16
theorem Γa17_ok:∀ g,ConOk Try.prog g (Γa17 g):=Γa16_ok


theorem bits_iff (a b:BitVec 64):a &&& b = a ↔ a &&& ~~~b = 0#64:=by
  constructor
  · intro h
    apply BitVec.eq_of_getLsbD_eq
    intro i hi
    have:=congrArg (fun x=>x.getLsbD i) h
    simp only [BitVec.getLsbD_and] at this
    simp only [BitVec.getLsbD_and,BitVec.getLsbD_not,BitVec.getLsbD_zero]
    cases h1:a.getLsbD i <;> cases h2:b.getLsbD i <;> simp_all
  · intro h
    apply BitVec.eq_of_getLsbD_eq
    intro i hi
    have:=congrArg (fun x=>x.getLsbD i) h
    simp only [BitVec.getLsbD_and,BitVec.getLsbD_not,BitVec.getLsbD_zero] at this
    simp only [BitVec.getLsbD_and]
    cases h1:a.getLsbD i <;> cases h2:b.getLsbD i <;> simp_all
theorem bits_same {v c:Int} (h0:0 ≤ v) (h1:v ≤ 9223372036854775807):(bitsD .and .i64 v c = v) = (bitsD .andNot .i64 v c = 0):=by
  have key:∀ x:BitVec 64,x.toNat ≤ v.toNat → IntKind.i64.wrap (x.toNat:Int) = x.toNat:=fun x hx=>Qw (by omega) (by omega)
  have hv:(BitVec.ofInt 64 v).toNat = v.toNat:=by
    rw [BitVec.toNat_ofInt]
    have:v % ((2 ^ 64:Nat):Int) = v:=Int.emod_eq_of_lt h0 (by omega)
    rw [this]
  have k1:(BitVec.ofInt 64 v &&& BitVec.ofInt 64 c).toNat ≤ v.toNat:=by rw [BitVec.toNat_and,hv];exact Nat.and_le_left
  have k2:(BitVec.ofInt 64 v &&& ~~~ BitVec.ofInt 64 c).toNat ≤ v.toNat:=by rw [BitVec.toNat_and,hv];exact Nat.and_le_left
  have e1:bitsD .and .i64 v c = ((BitVec.ofInt 64 v &&& BitVec.ofInt 64 c).toNat:Int):=key _ k1
  have e2:bitsD .andNot .i64 v c = ((BitVec.ofInt 64 v &&& ~~~ BitVec.ofInt 64 c).toNat:Int):=key _ k2
  rw [e1,e2,eq_iff_iff]
  have b:=bits_iff (BitVec.ofInt 64 v) (BitVec.ofInt 64 c)
  constructor
  · intro h
    have:BitVec.ofInt 64 v &&& BitVec.ofInt 64 c = BitVec.ofInt 64 v:=BitVec.eq_of_toNat_eq (by rw [hv];omega)
    rw [b.1 this];rfl
  · intro h
    have q:(BitVec.ofInt 64 v &&& ~~~ BitVec.ofInt 64 c).toNat = 0:=by omega
    have:BitVec.ofInt 64 v &&& ~~~ BitVec.ofInt 64 c = 0#64:=BitVec.eq_of_toNat_eq (q.trans rfl)
    rw [b.2 this,hv];omega

def EdgeOk (e:Tr4) (n:Int):Prop:=0 ≤ e.1 ∧ e.1 < n ∧ 0 ≤ e.2.2.2 ∧ e.2.2.2 < n ∧ 0 ≤ e.2.1 ∧ e.2.1 ≤ 7 ∧ 0 ≤ e.2.2.1 ∧ bitsD .and .i64 e.2.2.1 e.2.1 = e.2.2.1

set_option maxHeartbeats 2000000 in

theorem l7Edge_pure (p:Int) (q:Int) (r:Int) (s:Int) (n:Int)  : Pure Try.prog 48 [.st [.int .i64 p,.int .i64 q,.int .i64 r,.int .i64 s],.int .i64 n] (.bool (B (EdgeOk (p,q,r,s) n))):=by
  refine Pure.of_walk Try.func48 rfl (by simp [Try.f48]) (by simp [-zd,go_sem]) fun B hK=>?_
  (repeat' (first
 | refine Qu ?_
 | refine Qc (id:=0) Γa17_ok [] (by kernel_rfl) ?_;simp [-zg,-zd,↓Qb,↓Qa,go_sem];try (refine Xb hK 2 ?_;simp [go_sem])
 | refine Qc (id:=1) Γa17_ok [8,14,19,25,30,35,40] (by kernel_rfl) ?_;simp [-zg,-zd,↓Qb,↓Qa,go_sem];try (refine ⟨fun s1a=>?_,fun s1a=>?_⟩ <;> (try simp [B_iff,B_not] at s1a) <;> try (refine ⟨fun s1b=>?_,fun s1b=>?_⟩ <;> (try simp [B_iff,B_not] at s1b) <;> try (refine ⟨fun s1c=>?_,fun s1c=>?_⟩ <;> (try simp [B_iff,B_not] at s1c) <;> try (refine ⟨fun s1d=>?_,fun s1d=>?_⟩ <;> (try simp [B_iff,B_not] at s1d) <;> try (refine ⟨fun s1e=>?_,fun s1e=>?_⟩ <;> (try simp [B_iff,B_not] at s1e) <;> try (refine ⟨fun s1f=>?_,fun s1f=>?_⟩ <;> (try simp [B_iff,B_not] at s1f) <;> try (refine ⟨fun s1g=>?_,fun s1g=>?_⟩ <;> (try simp [B_iff,B_not] at s1g) <;> try (refine ⟨fun s1h=>?_,fun s1h=>?_⟩ <;> (try simp [B_iff,B_not] at s1h)))))))))
 | (refine Qe ?_)
 | (refine Qt ?_;simp [-zg,-zd,↓Qb,↓Qa,go_sem])
 | (refine Qs ?_;simp [-zg,-zd,↓Qb,↓Qa,go_sem])
 | (refine Qv ?_;simp [-zg,-zd,↓Qb,↓Qa,go_sem,Try.results48])
 | (intro hx;refine zA ?_)
 | (refine ⟨?_,?_⟩ <;> refine zA ?_)
 | (intro hx;constructor <;> intro hs)
 | (constructor <;> intro hs)
 | (refine ⟨?_,fun hs=>?_⟩;refine zA ?_)
 | (refine ⟨fun hs=>?_,?_⟩;rotate_left;refine zA ?_;rotate_left)))
  all_goals (first
 | (rintro ⟨g1,g2,g3,g4,g5,g6,g7,g8⟩;dsimp only at *;omega)
 | (rw [Bool.eq_iff_iff,B_iff,decide_eq_true_eq];exact ⟨fun h=>⟨by assumption,by assumption,by assumption,by assumption,by assumption,by assumption,by assumption,h⟩,fun h=>h.2.2.2.2.2.2.2⟩)
 | skip)
@[go_sem] def zafy:Con:=.pure fun
  | [.st [.int .i64 p,.int .i64 q,.int .i64 r,.int .i64 s],.int .i64 n]=>(True,.bool (B (EdgeOk (p,q,r,s) n)))
  | _=>(False,.any)
theorem zand:ConOk Try.prog 48 zafy:=by
  refine ⟨Qp Try.func48 (by decide) rfl,fun args h=>?_⟩
  revert h
  dsimp only
  split
  · intro h
    skip
    skip
    exact ⟨l7Edge_pure _ _ _ _ _,by simp [go_sem]⟩
  · intro h
    exact h.elim
@[go_sem] def Γa18:FuncId → Con:=ext Γa17 48 zafy
theorem Γa18_ok:∀ g,ConOk Try.prog g (Γa18 g):=Qo Γa17_ok zand

def Vj (n:Int) (e:Tr4):Bool:=!B (EdgeOk e n)
def Xn (xs:List Tr4):Prop:=∀ i,i < xs.length → (nth xs i).2.2.1 ≤ 9223372036854775807
set_option maxHeartbeats 2000000 in

theorem edge1_pure (p:Int) (q:Int) (r:Int) (s:Int) (n:Int) (h0:0 ≤ n) (h1:n ≤ 9223372036854775807) (h2:r ≤ 9223372036854775807):Pure Try.prog 53 [.st [.int .i64 p,.int .i64 q,.int .i64 r,.int .i64 s],.pd [.int .i64 n]] (.bool (Vj n (p,q,r,s))):=by
  refine Pure.of_walk Try.func53 rfl (by simp [Try.f53]) (by simp [-zd,go_sem]) fun B hK=>?_
  (repeat' (first
 | refine Qu ?_
 | refine Qc (id:=0) Γa18_ok [] (by kernel_rfl) ?_;simp [-zg,-zd,↓Qb,↓Qa,go_sem];try (refine Xb hK 2 ?_;simp [go_sem])
 | refine Qc (id:=1) Γa18_ok [10,18,24,29] (by kernel_rfl) ?_;simp [-zg,-zd,↓Qb,↓Qa,go_sem,Qw (x:=n - 1) (by omega) (by omega)];try (refine ⟨fun s1a=>?_,fun s1a=>?_⟩ <;> (try simp [B_iff,B_not] at s1a) <;> try (refine ⟨fun s1b=>?_,fun s1b=>?_⟩ <;> (try simp [B_iff,B_not] at s1b) <;> try (refine ⟨fun s1c=>?_,fun s1c=>?_⟩ <;> (try simp [B_iff,B_not] at s1c) <;> try (refine ⟨fun s1d=>?_,fun s1d=>?_⟩ <;> (try simp [B_iff,B_not] at s1d) <;> try (refine ⟨fun s1e=>?_,fun s1e=>?_⟩ <;> (try simp [B_iff,B_not] at s1e))))))
 | (refine Qe ?_)
 | (refine Qt ?_;simp [-zg,-zd,↓Qb,↓Qa,go_sem])
 | (refine Qs ?_;simp [-zg,-zd,↓Qb,↓Qa,go_sem])
 | (refine Qv ?_;simp [-zg,-zd,↓Qb,↓Qa,go_sem,Try.results53])
 | (intro hx;refine zA ?_)
 | (refine ⟨?_,?_⟩ <;> refine zA ?_)
 | (intro hx;constructor <;> intro hs)
 | (constructor <;> intro hs)
 | (refine ⟨?_,fun hs=>?_⟩;refine zA ?_)
 | (refine ⟨fun hs=>?_,?_⟩;rotate_left;refine zA ?_;rotate_left)))
  all_goals (first
 | (rw [Vj,Bool.not_eq_true',B_not];rintro ⟨g1,g2,g3,g4,g5,g6,g7,g8⟩;dsimp only at *;omega)
 | (rw [Vj,Bool.not_not,Bool.eq_iff_iff,decide_eq_true_eq,B_iff,← bits_same (by omega) h2];exact ⟨fun h=>⟨s1a.1,by dsimp only;omega,s1b.1,by dsimp only;omega,s1c.1,s1c.2,s1d,h⟩,fun h=>h.2.2.2.2.2.2.2⟩)
 | skip)
@[go_sem] def zain:Con:=.pure fun
  | [.st [.int .i64 p,.int .i64 q,.int .i64 r,.int .i64 s],.pd [.int .i64 n]]=>((0 ≤ n) ∧ (n ≤ 9223372036854775807) ∧ (r ≤ 9223372036854775807),.bool (Vj n (p,q,r,s)))
  | _=>(False,.any)
theorem edge1_pureC_ok:ConOk Try.prog 53 zain:=by
  refine ⟨Qp Try.func53 (by decide) rfl,fun args h=>?_⟩
  revert h
  dsimp only
  split
  · intro h
    obtain ⟨h0,h1,h2⟩:=h
    skip
    exact ⟨edge1_pure _ _ _ _ _ h0 h1 h2,by simp [go_sem]⟩
  · intro h
    exact h.elim
@[go_sem] def Γa19:FuncId → Con:=ext Γa18 53 zain
theorem Ut:∀ g,ConOk Try.prog g (Γa19 g):=Qo Γa18_ok edge1_pureC_ok

theorem indexEdge_pure (xs:List Tr4) (n:Int) (h0:0 ≤ n) (h1:n ≤ 9223372036854775807) (hS:Xn xs):Pure Try.prog 68 [li cT xs,.fn 53 [.pd [.int .i64 n]]] (.int .i64 (findI (Vj n) xs)):=by
  refine Pure.of_walk Try.func68 rfl (by simp [Try.f68]) (by simp [-zd,go_sem]) fun B hK=>?_
  (repeat' (first
 | refine Qu ?_
 | (refine Vb 0 rfl fun hm=>?_);refine Qc (id:=0) Ut [] (by kernel_rfl) ?_;simp [-zg,-zd,↓Qb,↓Qa,go_sem]
 | refine Qc (id:=1) Ut [] (by kernel_rfl) ?_;simp [-zg,-zd,↓Qb,↓Qa,go_sem]
 | refine Qc (id:=2) Ut [] (by kernel_rfl) ?_;simp [-zg,-zd,↓Qb,↓Qa,go_sem]
 | refine Qc (id:=3) Ut [] (by kernel_rfl) ?_;simp [-zg,-zd,↓Qb,↓Qa,go_sem]
 | refine Qc (id:=4) Ut [] (by kernel_rfl) ?_;simp [-zg,-zd,↓Qb,↓Qa,go_sem,c9,Qj c9,zsP c9,h0,h1,hS k c9]
 | refine Qc (id:=5) Ut [] (by kernel_rfl) ?_;simp [-zg,-zd,↓Qb,↓Qa,go_sem]
 | refine Qc (id:=6) Ut [] (by kernel_rfl) ?_;simp [-zg,-zd,↓Qb,↓Qa,go_sem,wrapS (k:=k) (by omega)]
 | refine Qc (id:=7) Ut [] (by kernel_rfl) ?_;simp [-zg,-zd,↓Qb,↓Qa,go_sem]
 | refine Qd (c:=.tmp 9) ?_;simp [-zg,-zd,↓Qb,↓Qa,go_sem];try first | (refine ⟨?_,?_⟩ <;> refine zA ?_) | (refine ⟨fun c9=>?_,fun c9=>?_⟩ <;> (try simp [B_iff,B_not] at c9))
 | refine Qd (c:=.tmp 16) ?_;simp [-zg,-zd,↓Qb,↓Qa,go_sem];try first | (refine ⟨?_,?_⟩ <;> refine zA ?_) | (refine ⟨fun c16=>?_,fun c16=>?_⟩ <;> (try simp [B_iff,B_not] at c16))
 | (refine Qe (id:=0) (Qz (ι:=Nat) (fun k:Nat=>⟨(upd (upd (upd (upd (upd (fun _=>.any) 0 (li cT xs)) 1 (.fn 53 [.pd [.int .i64 n]])) 6 (li cT xs)) 7 (.int .i64 xs.length)) 8 (.int .i64 k)),fun _=>none⟩) (fun k=>k ≤ xs.length ∧ NoneTill (fun i=>(Vj n) (nth xs i)) k) (fun k=>xs.length - k) (0) ?_ ?_ ?_);exact ⟨Nat.zero_le _,.zero _⟩;((repeat' (first | exact Qg (by assumption) | exact Qi | refine Qf ?_ ?_ | refine Qh ?_)) <;> simp [-zg,-zd,↓Qb,↓Qa,go_sem]);rintro k ⟨hk,ht⟩)
 | (refine ⟨k + 1,⟨by omega,ht.succ (by simp_all)⟩,by first | omega | (simp;done) | (simp;omega),?_⟩;((repeat' (first | exact Qg (by assumption) | exact Qi | refine Qf ?_ ?_ | refine Qh ?_)) <;> simp [-zg,-zd,↓Qb,↓Qa,go_sem]))
 | (refine Qe ?_)
 | (refine Qt ?_;simp [-zg,-zd,↓Qb,↓Qa,go_sem])
 | (refine Qs ?_;simp [-zg,-zd,↓Qb,↓Qa,go_sem])
 | (refine Qv ?_;simp [-zg,-zd,↓Qb,↓Qa,go_sem,Try.results68])
 | (intro hx;refine zA ?_)
 | (refine ⟨?_,?_⟩ <;> refine zA ?_)
 | (intro hx;constructor <;> intro hs)
 | (constructor <;> intro hs)
 | (refine ⟨?_,fun hs=>?_⟩;refine zA ?_)
 | (refine ⟨fun hs=>?_,?_⟩;rotate_left;refine zA ?_;rotate_left)))
  all_goals (first
 | (rw [findI_at ht c9 (by simp_all)])
 | (rw [zahj ht (by omega)])
 | skip)
@[go_sem] def zadb:Con:=.pure fun
  | [.list n_xs c_xs,.fn 53 [.pd [.int .i64 n]]]=>((Is cT n_xs c_xs) ∧ (0 ≤ n) ∧ (n ≤ 9223372036854775807) ∧ (Xn (de cT c_xs)),.int .i64 (findI (Vj n) (de cT c_xs)))
  | _=>(False,.any)
theorem zaik:ConOk Try.prog 68 zadb:=by
  refine ⟨Qp Try.func68 (by decide) rfl,fun args h=>?_⟩
  revert h
  dsimp only
  split
  · intro h
    obtain ⟨⟨xs,rfl,rfl⟩,h0,h1,hS⟩:=h
    try simp only [Qr] at *
    exact ⟨indexEdge_pure xs _ h0 h1 hS,by simp [go_sem]⟩
  · intro h
    exact h.elim
@[go_sem] def Γa20:FuncId → Con:=ext Γa19 68 zadb
theorem Γa20_ok:∀ g,ConOk Try.prog g (Γa20 g):=Qo Ut zaik

theorem zajk (xs:List Tr4) (n:Int) (h0:0 ≤ n) (h1:n ≤ 9223372036854775807) (hS:Xn xs):Pure Try.prog 52 [li cT xs,.fn 53 [.pd [.int .i64 n]]] (.bool (decide (0 ≤ findI (Vj n) xs))):=by
  refine Pure.of_walk Try.func52 rfl (by simp [Try.f52]) (by simp [-zd,go_sem]) fun B hK=>?_
  (repeat' (first
 | refine Qu ?_
 | refine Qc (id:=0) Γa20_ok [] (by kernel_rfl) ?_;simp [-zg,-zd,↓Qb,↓Qa,go_sem]
 | refine Qc (id:=1) Γa20_ok [] (by kernel_rfl) ?_;simp [-zg,-zd,↓Qb,↓Qa,go_sem,h0,h1,hS]
 | (refine Qe ?_)
 | (refine Qt ?_;simp [-zg,-zd,↓Qb,↓Qa,go_sem])
 | (refine Qs ?_;simp [-zg,-zd,↓Qb,↓Qa,go_sem])
 | (refine Qv ?_;simp [-zg,-zd,↓Qb,↓Qa,go_sem,Try.results52])
 | (intro hx;refine zA ?_)
 | (refine ⟨?_,?_⟩ <;> refine zA ?_)
 | (intro hx;constructor <;> intro hs)
 | (constructor <;> intro hs)
 | (refine ⟨?_,fun hs=>?_⟩;refine zA ?_)
 | (refine ⟨fun hs=>?_,?_⟩;rotate_left;refine zA ?_;rotate_left)))
@[go_sem] def zabp:Con:=.pure fun
  | [.list n_xs c_xs,.fn 53 [.pd [.int .i64 n]]]=>((Is cT n_xs c_xs) ∧ (0 ≤ n) ∧ (n ≤ 9223372036854775807) ∧ (Xn (de cT c_xs)),.bool (decide (0 ≤ findI (Vj n) (de cT c_xs))))
  | _=>(False,.any)
theorem zafi:ConOk Try.prog 52 zabp:=by
  refine ⟨Qp Try.func52 (by decide) rfl,fun args h=>?_⟩
  revert h
  dsimp only
  split
  · intro h
    obtain ⟨⟨xs,rfl,rfl⟩,h0,h1,hS⟩:=h
    try simp only [Qr] at *
    exact ⟨zajk xs _ h0 h1 hS,by simp [go_sem]⟩
  · intro h
    exact h.elim
@[go_sem] def Γa21:FuncId → Con:=ext Γa20 52 zabp
theorem Vf:∀ g,ConOk Try.prog g (Γa21 g):=Qo Γa20_ok zafi

def ahead (a:List Int):Nat → Int
  | 0=>-1
  | k + 1=>nth a k
def AutOk (a:List Int) (n:Nat) (c:List Tr4):Prop:=1 ≤ n ∧ n ≤ 64 ∧ (∀ i,i < a.length → ahead a i < nth a i ∧ nth a i < n) ∧ c.length ≤ 2048 ∧ ∀ i,i < c.length → EdgeOk (nth c i) n
theorem zagt {a:List Int} {k:Nat} (h:AllTill (fun i=>ahead a i < nth a i) k):∀ i,i < k → (i:Int) ≤ nth a i
  | 0,hi=>by have:=h 0 hi;simp only [ahead] at this;omega
  | i + 1,hi=>by
    have:=h (i + 1) hi
    have:=zagt h i (by omega)
    simp only [ahead] at *
    omega
theorem sorted_len {a:List Int} {n:Nat} (h:∀ i,i < a.length → ahead a i < nth a i ∧ nth a i < n):a.length ≤ n:=by
  rcases Nat.eq_zero_or_pos a.length with h0 | h0
  · omega
  · have h1:=zagt (a:=a) (k:=a.length) (fun i hi=>(h i hi).1) (a.length - 1) (by omega)
    have h2:=(h (a.length - 1) (by omega)).2
    omega
theorem ahead_bd {a:List Int} {n k:Nat} (h:AllTill (fun i=>ahead a i < nth a i ∧ nth a i < n) k):-1 ≤ ahead a k ∧ ahead a k < n:=by
  cases k with
  | zero=>simp only [ahead];omega
  | succ k =>
    have:=h k (by omega)
    have:=zagt (a:=a) (k:=k + 1) (fun i hi=>(h i hi).1) k (by omega)
    simp only [ahead];omega
theorem ahead_pos {a:List Int} {k:Nat} (h:0 < k):ahead a k = nth a (k - 1):=by
  cases k with
  | zero=>omega
  | succ k=>rfl
theorem find_edge {c:List Tr4} {n:Int}:(0 ≤ findI (Vj n) c) = ¬ ∀ i,i < c.length → EdgeOk (nth c i) n:=by
  rw [findI_ge,eq_iff_iff]
  constructor
  · rintro ⟨i,h,e⟩ k
    rw [Vj,Bool.not_eq_true',B_not] at e
    exact e (k i h)
  · intro h
    apply Classical.byContradiction;intro h2
    apply h;intro i hi
    apply Classical.byContradiction;intro h3
    exact h2 ⟨i,hi,by rw [Vj,Bool.not_eq_true',B_not];exact h3⟩

set_option maxHeartbeats 2000000 in

theorem zaek (a:List Int) (b:List Bool) (c:List Tr4) (hS:Xn c):Pure Try.prog 25 [.st [li cI a,li cB b,li cT c]] (.bool (B (AutOk a b.length c))):=by
  refine Pure.of_walk Try.func25 rfl (by simp [Try.f25]) (by simp [-zd,go_sem]) fun B hK=>?_
  (repeat' (first
 | refine Qu ?_
 | refine Qc (id:=0) Vf [] (by kernel_rfl) ?_;simp [-zg,-zd,↓Qb,↓Qa,go_sem];try (refine Xb hK 1 ?_;simp [go_sem])
 | (refine Wy 1 1 ⟨rfl,rfl⟩ fun hm=>?_;refine Wy 1 0 ⟨rfl,rfl⟩ fun hma=>?_);refine Qc (id:=1) Vf [] (by kernel_rfl) ?_;simp [-zg,-zd,↓Qb,↓Qa,go_sem];try (refine Xb hK 3 ?_;simp [go_sem])
 | refine Qc (id:=2) Vf [] (by kernel_rfl) ?_;simp [-zg,-zd,↓Qb,↓Qa,go_sem]
 | refine Qc (id:=3) Vf [] (by kernel_rfl) ?_;simp [-zg,-zd,↓Qb,↓Qa,go_sem]
 | refine Qc (id:=4) Vf [] (by kernel_rfl) ?_;simp [-zg,-zd,↓Qb,↓Qa,go_sem]
 | refine Qc (id:=5) Vf [] (by kernel_rfl) ?_;simp [-zg,-zd,↓Qb,↓Qa,go_sem,c14,Qj c14,zsP c14]
 | (obtain ⟨a1,a2⟩:=ahead_bd ht);refine Qc (id:=6) Vf [] (by kernel_rfl) ?_;simp [-zg,-zd,↓Qb,↓Qa,go_sem,Qw (x:=ahead a k + 1) (by omega) (by omega),Qw (x:=(b.length:Int) - 1) (by omega) (by omega)]
 | refine Qc (id:=7) Vf [] (by kernel_rfl) ?_;simp [-zg,-zd,↓Qb,↓Qa,go_sem]
 | refine Qc (id:=8) Vf [] (by kernel_rfl) ?_;simp [-zg,-zd,↓Qb,↓Qa,go_sem]
 | refine Qc (id:=9) Vf [] (by kernel_rfl) ?_;simp [-zg,-zd,↓Qb,↓Qa,go_sem,wrapS (k:=k) (by omega)]
 | refine Qc (id:=10) Vf [28,34] (by kernel_rfl) ?_;simp [-zg,-zd,↓Qb,↓Qa,go_sem,hS,(by omega:(b.length:Int) ≤ 9223372036854775807),(by omega:b.length ≤ 9223372036854775807)];try (refine ⟨fun s10a=>?_,fun s10a=>?_⟩ <;> (try simp [B_iff,B_not] at s10a) <;> try (refine ⟨fun s10b=>?_,fun s10b=>?_⟩ <;> (try simp [B_iff,B_not] at s10b) <;> try (refine ⟨fun s10c=>?_,fun s10c=>?_⟩ <;> (try simp [B_iff,B_not] at s10c))))
 | refine Qd (c:=.tmp 14) ?_;simp [-zg,-zd,↓Qb,↓Qa,go_sem];try first | (refine ⟨?_,?_⟩ <;> refine zA ?_) | (refine ⟨fun c14=>?_,fun c14=>?_⟩ <;> (try simp [B_iff,B_not] at c14))
 | refine Qd (c:=.tmp 23) ?_;simp [-zg,-zd,↓Qb,↓Qa,go_sem];try first | (refine ⟨?_,?_⟩ <;> refine zA ?_) | (refine ⟨fun c23=>?_,fun c23=>?_⟩ <;> (try simp [B_iff,B_not] at c23))
 | (refine Qe (id:=0) (Qz (ι:=Nat) (fun k:Nat=>⟨(upd (upd (upd (upd (upd (upd (fun _=>.any) 1 (.pd [li cI a,li cB b,li cT c])) 3 (.pd [.int .i64 b.length])) 4 (.int .i64 (ahead a k))) 11 (li cI a)) 12 (.int .i64 a.length)) 13 (.int .i64 k)),fun _=>none⟩) (fun k=>k ≤ a.length ∧ AllTill (fun i=>ahead a i < nth a i ∧ nth a i < (b.length:Nat)) k) (fun k=>a.length - k) (0) ?_ ?_ ?_);exact ⟨Nat.zero_le _,.zero _⟩;((repeat' (first | exact Qg (by assumption) | exact Qi | refine Qf ?_ ?_ | refine Qh ?_)) <;> simp [-zg,-zd,↓Qb,↓Qa,go_sem,ahead]);rintro k ⟨hk,ht⟩)
 | (refine ⟨k + 1,⟨by omega,ht.succ ⟨by omega,by omega⟩⟩,by first | omega | (simp;done) | (simp;omega),?_⟩;((repeat' (first | exact Qg (by assumption) | exact Qi | refine Qf ?_ ?_ | refine Qh ?_)) <;> simp [-zg,-zd,↓Qb,↓Qa,go_sem,ahead]))
 | (refine Qe ?_)
 | (refine Qt ?_;simp [-zg,-zd,↓Qb,↓Qa,go_sem])
 | (refine Qs ?_;simp [-zg,-zd,↓Qb,↓Qa,go_sem])
 | (refine Qv ?_;simp [-zg,-zd,↓Qb,↓Qa,go_sem,Try.results25])
 | (intro hx;refine zA ?_)
 | (refine ⟨?_,?_⟩ <;> refine zA ?_)
 | (intro hx;constructor <;> intro hs)
 | (constructor <;> intro hs)
 | (refine ⟨?_,fun hs=>?_⟩;refine zA ?_)
 | (refine ⟨fun hs=>?_,?_⟩;rotate_left;refine zA ?_;rotate_left)))
  all_goals (first
 | (rintro ⟨g1,g2,g3,g4,g5⟩;have:=g3 k c14;omega)
 | (rintro ⟨g1,g2,g3,g4,g5⟩;omega)
 | (rw [Bool.eq_iff_iff,decide_eq_true_eq,find_edge,Bool.not_eq_true',B_not];exact ⟨fun h k=>h k.2.2.2.2,fun h k=>h ⟨by omega,by omega,fun i hi=>ht i (by omega),by omega,k⟩⟩)
 | skip)
@[go_sem] def zaak:Con:=.pure fun
  | [.st [.list n_a c_a,.list n_b c_b,.list n_c c_c]]=>((Is cI n_a c_a) ∧ (Is cB n_b c_b) ∧ (Is cT n_c c_c) ∧ (Xn (de cT c_c)),.bool (B (AutOk (de cI c_a) (de cB c_b).length (de cT c_c))))
  | _=>(False,.any)
theorem zacx:ConOk Try.prog 25 zaak:=by
  refine ⟨Qp Try.func25 (by decide) rfl,fun args h=>?_⟩
  revert h
  dsimp only
  split
  · intro h
    obtain ⟨⟨a,rfl,rfl⟩,⟨b,rfl,rfl⟩,⟨c,rfl,rfl⟩,hS⟩:=h
    try simp only [Qr] at *
    exact ⟨zaek a b c hS,by simp [go_sem]⟩
  · intro h
    exact h.elim
@[go_sem] def Γa22:FuncId → Con:=ext Γa21 25 zaak
theorem Zw:∀ g,ConOk Try.prog g (Γa22 g):=Qo Vf zacx

set_option maxHeartbeats 2000000 in

theorem zaei (a:List Int) (b:List Bool) (c:List Tr4) (hS:Xn c):Pure Try.prog 19 [.st [li cI a,li cB b,li cT c]] (.bool (B (AutOk a b.length c))):=by
  refine Pure.of_walk Try.func19 rfl (by simp [Try.f19]) (by simp [-zd,go_sem]) fun B hK=>?_
  (repeat' (first
 | refine Qu ?_
 | refine Qc (id:=0) Zw [] (by kernel_rfl) ?_;simp [-zg,-zd,↓Qb,↓Qa,go_sem];try (refine Xb hK 1 ?_;simp [go_sem])
 | (refine Wy 1 1 ⟨rfl,rfl⟩ fun hm=>?_;refine Wy 1 0 ⟨rfl,rfl⟩ fun hma=>?_);refine Qc (id:=1) Zw [] (by kernel_rfl) ?_;simp [-zg,-zd,↓Qb,↓Qa,go_sem]
 | refine Qc (id:=2) Zw [11,15,22] (by kernel_rfl) ?_;simp [-zg,-zd,↓Qb,↓Qa,go_sem];try (refine ⟨fun s2a=>?_,fun s2a=>?_⟩ <;> (try simp [B_iff,B_not] at s2a) <;> try (refine ⟨fun s2b=>?_,fun s2b=>?_⟩ <;> (try simp [B_iff,B_not] at s2b) <;> try (refine ⟨fun s2c=>?_,fun s2c=>?_⟩ <;> (try simp [B_iff,B_not] at s2c) <;> try (refine ⟨fun s2d=>?_,fun s2d=>?_⟩ <;> (try simp [B_iff,B_not] at s2d)))))
 | refine Qc (id:=3) Zw [] (by kernel_rfl) ?_;simp [-zg,-zd,↓Qb,↓Qa,go_sem]
 | refine Qc (id:=4) Zw [] (by kernel_rfl) ?_;simp [-zg,-zd,↓Qb,↓Qa,go_sem]
 | refine Qc (id:=5) Zw [] (by kernel_rfl) ?_;simp [-zg,-zd,↓Qb,↓Qa,go_sem]
 | refine Xr (id:=7) Zw mixed [41,50,53] [1,4] (by kernel_rfl) (by kernel_rfl) (by simp [-zg,-zd,↓Qb,↓Qa,go_sem,(show k = 0 from h0),(show 0 < a.length by omega),Qj c32,zsP c32]) ?_;simp [-zg,-zd,↓Qb,↓Qa,go_sem,(show k = 0 from h0),(show 0 < a.length by omega),Qj c32,zsP c32];try (refine ⟨fun s7a=>?_,fun s7a=>?_⟩ <;> (try simp [B_iff,B_not] at s7a) <;> try (refine ⟨fun s7b=>?_,fun s7b=>?_⟩ <;> (try simp [B_iff,B_not] at s7b) <;> try (refine ⟨fun s7c=>?_,fun s7c=>?_⟩ <;> (try simp [B_iff,B_not] at s7c) <;> try (refine ⟨fun s7d=>?_,fun s7d=>?_⟩ <;> (try simp [B_iff,B_not] at s7d)))))
 | refine Xr (id:=7) Zw mixed [41,50,53] [1,4] (by kernel_rfl) (by kernel_rfl) (by simp [-zg,-zd,↓Qb,↓Qa,go_sem,(show 0 < k by omega),c32,Qj c32,zsP c32,Qw (x:=(k:Int) - 1) (by omega) (by omega),(show (k - 1) < a.length by omega),(show (0:Int) ≤ (k:Int) - 1 by omega),(show (k:Int) - 1 < a.length by omega),(show (1:Int) ≤ (k:Int) by omega),(show 0 < a.length - (k - 1) by omega),(show ((k:Int) - 1).toNat = k - 1 by omega)]) ?_;simp [-zg,-zd,↓Qb,↓Qa,go_sem,(show 0 < k by omega),c32,Qj c32,zsP c32,Qw (x:=(k:Int) - 1) (by omega) (by omega),(show (k - 1) < a.length by omega),(show (0:Int) ≤ (k:Int) - 1 by omega),(show (k:Int) - 1 < a.length by omega),(show (1:Int) ≤ (k:Int) by omega),(show 0 < a.length - (k - 1) by omega),(show ((k:Int) - 1).toNat = k - 1 by omega)];try (refine ⟨fun s7a=>?_,fun s7a=>?_⟩ <;> (try simp [B_iff,B_not] at s7a) <;> try (refine ⟨fun s7b=>?_,fun s7b=>?_⟩ <;> (try simp [B_iff,B_not] at s7b) <;> try (refine ⟨fun s7c=>?_,fun s7c=>?_⟩ <;> (try simp [B_iff,B_not] at s7c) <;> try (refine ⟨fun s7d=>?_,fun s7d=>?_⟩ <;> (try simp [B_iff,B_not] at s7d)))))
 | refine Qc (id:=8) Zw [] (by kernel_rfl) ?_;simp [-zg,-zd,↓Qb,↓Qa,go_sem]
 | refine Qc (id:=6) Zw [] (by kernel_rfl) ?_;simp [-zg,-zd,↓Qb,↓Qa,go_sem,wrapS (k:=k) (by omega),(by decide:IntKind.i64.wrap 1 = 1)]
 | refine Qc (id:=9) Zw [] (by kernel_rfl) ?_;simp [-zg,-zd,↓Qb,↓Qa,go_sem]
 | refine Qc (id:=10) Zw [] (by kernel_rfl) ?_;simp [-zg,-zd,↓Qb,↓Qa,go_sem]
 | refine Qc (id:=12) Zw [] (by kernel_rfl) ?_;simp [-zg,-zd,↓Qb,↓Qa,go_sem,c72,Qj c72,zsP c72]
 | refine Qc (id:=13) Zw [] (by kernel_rfl) ?_;simp [-zg,-zd,↓Qb,↓Qa,go_sem]
 | refine Qc (id:=11) Zw [] (by kernel_rfl) ?_;simp [-zg,-zd,↓Qb,↓Qa,go_sem,wrapS (k:=i) (by omega)]
 | refine Qc (id:=14) Zw [] (by kernel_rfl) ?_;simp [-zg,-zd,↓Qb,↓Qa,go_sem]
 | refine Qd (c:=.tmp 27) ?_;simp [-zg,-zd,↓Qb,↓Qa,go_sem];try first | (refine ⟨?_,?_⟩ <;> refine zA ?_) | (refine ⟨fun c27=>?_,fun c27=>?_⟩ <;> (try simp [B_iff,B_not] at c27))
 | refine Qd (c:=.tmp 32) ?_;simp [-zg,-zd,↓Qb,↓Qa,go_sem];try first | (refine ⟨?_,?_⟩ <;> refine zA ?_) | (refine ⟨fun c32=>?_,fun c32=>?_⟩ <;> (try simp [B_iff,B_not] at c32))
 | refine Qd (c:=.tmp 67) ?_;simp [-zg,-zd,↓Qb,↓Qa,go_sem];try first | (refine ⟨?_,?_⟩ <;> refine zA ?_) | (refine ⟨fun c67=>?_,fun c67=>?_⟩ <;> (try simp [B_iff,B_not] at c67))
 | refine Qd (c:=.tmp 72) ?_;simp [-zg,-zd,↓Qb,↓Qa,go_sem];try first | (refine ⟨?_,?_⟩ <;> refine zA ?_) | (refine ⟨fun c72=>?_,fun c72=>?_⟩ <;> (try simp [B_iff,B_not] at c72))
 | refine Qd (c:=.tmp 82) ?_;simp [-zg,-zd,↓Qb,↓Qa,go_sem];try first | (refine ⟨?_,?_⟩ <;> refine zA ?_) | (refine ⟨fun c82=>?_,fun c82=>?_⟩ <;> (try simp [B_iff,B_not] at c82))
 | (refine Qe (id:=0) (Qz (ι:=Nat) (fun k:Nat=>⟨(upd (upd (upd (fun _=>.any) 1 (.pd [li cI a,li cB b,li cT c])) 3 (.int .i64 b.length)) 4 (.int .i64 k)),fun _=>none⟩) (fun k=>k ≤ a.length ∧ AllTill (fun i=>ahead a i < nth a i ∧ nth a i < (b.length:Nat)) k) (fun k=>a.length - k) (0) ?_ ?_ ?_);exact ⟨Nat.zero_le _,.zero _⟩;((repeat' (first | exact Qg (by assumption) | exact Qi | refine Qf ?_ ?_ | refine Qh ?_)) <;> simp [-zg,-zd,↓Qb,↓Qa,go_sem]);rintro k ⟨hk,ht⟩;obtain ⟨k0,h0⟩ | ⟨j,h0⟩:(∃ z:Nat,k = 0) ∨ ∃ j,k = j + 1:=(by rcases k with _ | j;exact .inl ⟨0,rfl⟩;exact .inr ⟨j,rfl⟩))
 | (refine ⟨k + 1,⟨by omega,ht.succ (by first | (subst h0;simp only [ahead];omega) | (show ahead a k < nth a k ∧ nth a k < ((b.length:Nat):Int);rw [ahead_pos (by omega)];omega))⟩,by first | omega | (simp;done) | (simp;omega),?_⟩;((repeat' (first | exact Qg (by assumption) | exact Qi | refine Qf ?_ ?_ | refine Qh ?_)) <;> simp [-zg,-zd,↓Qb,↓Qa,go_sem,h0]))
 | (refine Qe (id:=2) (Qz (ι:=Nat) (fun i:Nat=>⟨(upd (upd (upd (fun _=>.any) 1 (.pd [li cI a,li cB b,li cT c])) 3 (.int .i64 b.length)) 5 (.int .i64 i)),fun _=>none⟩) (fun i=>i ≤ c.length ∧ AllTill (fun j=>EdgeOk (nth c j) (b.length:Nat)) i) (fun i=>c.length - i) (0) ?_ ?_ ?_);exact ⟨Nat.zero_le _,.zero _⟩;((repeat' (first | exact Qg (by assumption) | exact Qi | refine Qf ?_ ?_ | refine Qh ?_)) <;> simp [-zg,-zd,↓Qb,↓Qa,go_sem]);rintro i ⟨hi,hu⟩)
 | (refine ⟨i + 1,⟨by omega,hu.succ c82⟩,by first | omega | (simp;done) | (simp;omega),?_⟩;((repeat' (first | exact Qg (by assumption) | exact Qi | refine Qf ?_ ?_ | refine Qh ?_)) <;> simp [-zg,-zd,↓Qb,↓Qa,go_sem]))
 | (refine Qe ?_)
 | (refine Qt ?_;simp [-zg,-zd,↓Qb,↓Qa,go_sem])
 | (refine Qs ?_;simp [-zg,-zd,↓Qb,↓Qa,go_sem])
 | (refine Qv ?_;simp [-zg,-zd,↓Qb,↓Qa,go_sem,Try.results19])
 | (intro hx;refine zA ?_)
 | (refine ⟨?_,?_⟩ <;> refine zA ?_)
 | (intro hx;constructor <;> intro hs)
 | (constructor <;> intro hs)
 | (refine ⟨?_,fun hs=>?_⟩;refine zA ?_)
 | (refine ⟨fun hs=>?_,?_⟩;rotate_left;refine zA ?_;rotate_left)))
  all_goals (first
 | (rintro ⟨g1,g2,g3,g4,g5⟩;have q:=g3 k c32;subst h0;simp only [ahead] at q;omega)
 | (rintro ⟨g1,g2,g3,g4,g5⟩;have q:=g3 k c32;rw [ahead_pos (by omega)] at q;have q2:=zagt (a:=a) (k:=k + 1) (fun i hi=>(g3 i (by omega)).1) k (by omega);omega)
 | (rintro ⟨g1,g2,g3,g4,g5⟩;omega)
 | (intro h;have:=sorted_len h.2.2.1;omega)
 | (rintro ⟨g1,g2,g3,g4,g5⟩;exact c82 (g5 i c72))
 | exact ⟨by omega,by omega,fun j hj=>ht j (by omega),by omega,fun j hj=>hu j (by omega)⟩
 | skip)
  all_goals trace_state
@[go_sem] def zaai:Con:=.pure fun
  | [.st [.list n_a c_a,.list n_b c_b,.list n_c c_c]]=>((Is cI n_a c_a) ∧ (Is cB n_b c_b) ∧ (Is cT n_c c_c) ∧ (Xn (de cT c_c)),.bool (B (AutOk (de cI c_a) (de cB c_b).length (de cT c_c))))
  | _=>(False,.any)
theorem zacw:ConOk Try.prog 19 zaai:=by
  refine ⟨Qp Try.func19 (by decide) rfl,fun args h=>?_⟩
  revert h
  dsimp only
  split
  · intro h
    obtain ⟨⟨a,rfl,rfl⟩,⟨b,rfl,rfl⟩,⟨c,rfl,rfl⟩,hS⟩:=h
    try simp only [Qr] at *
    exact ⟨zaei a b c hS,by simp [go_sem]⟩
  · intro h
    exact h.elim
@[go_sem] def Γa23:FuncId → Con:=ext Γa22 19 zaai
theorem Jc:∀ g,ConOk Try.prog g (Γa23 g):=Qo Zw zacw

end
end Go.Proofs.Ytnfldmfamnhpcaa.Vm

