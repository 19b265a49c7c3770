import Derived.Test.YtnfldmfamnhpcaaDoorJ10
import Derived.Test.YtnfldmfamnhpcaaDoorTr
/-
  Automata: rows of Bools, of transitions; sz, to, eq. No conditions.
-/
namespace Go.Proofs.YtnfldmfamnhpcaaDoor.Vm
open Go
open Nat renaming sub_pos_of_lt → zsP
open List renaming getD_eq_getElem?_getD → zg,drop_one → zd
noncomputable section
set_option linter.unusedVariables false
set_option linter.unusedSimpArgs false
set_option maxRecDepth 200000

@[go_sem] def Γa1:FuncId → Con:=Γj4
theorem Γa1_ok:∀ g,ConOk Tryd.prog g (Γa1 g):=Γj4_ok

@[go_sem] def Γa2:FuncId → Con:=Γa1
theorem Vu:∀ g,ConOk Tryd.prog g (Γa2 g):=Γa1_ok

theorem toBoolS_pure (xs:List Bool) (h0:xs.length ≤ 1048576):Pure Tryd.prog 31 [li cB xs] (fr 1 cB xs):=by
  refine Pure.of_walk Tryd.func31 rfl (by simp [Tryd.f31]) (by simp [-zd,go_sem]) fun B hK=>?_
  (repeat' (first
 | refine Qu ?_
 | refine Qc (id:=0) Vu [] (by kernel_rfl) ?_;simp [-zg,-zd,↓Qb,↓Qa,go_sem]
 | refine Qc (id:=1) Vu [] (by kernel_rfl) ?_;simp [-zg,-zd,↓Qb,↓Qa,go_sem,(by omega:(xs.length:Int) ≤ 281474976710656),(by omega:(xs.length:Int) ≤ 9223372036854775807)];try ((refine AW_mat 3 rfl fun b cp j _ hcp hj=>?_))
 | refine Qc (id:=2) Vu [] (by kernel_rfl) ?_;simp [-zg,-zd,↓Qb,↓Qa,go_sem]
 | refine Qc (id:=3) Vu [] (by kernel_rfl) ?_;simp [-zg,-zd,↓Qb,↓Qa,go_sem]
 | refine Qc (id:=5) Vu [] (by kernel_rfl) ?_;simp [-zg,-zd,↓Qb,↓Qa,go_sem,c11,Qg c11,zsP c11]
 | refine Qc (id:=4) Vu [] (by kernel_rfl) ?_;simp [-zg,-zd,↓Qb,↓Qa,go_sem,wrapS (k:=k) (by omega)]
 | ((obtain rfl:k = xs.length:=by omega);refine AW_unmat 3 (b:=b) (all:=cat cB xs ++ List.replicate j .any) rfl (by simp [go_sem,fill_all]) (by omega) (by simp [Qy]) (by simp [Qy];omega) ?_);refine Qc (id:=6) Vu [] (by kernel_rfl) ?_;simp [-zg,-zd,↓Qb,↓Qa,go_sem]
 | refine Qd (c:=.tmp 11) ?_;simp [-zg,-zd,↓Qb,↓Qa,go_sem];try first | (refine ⟨?_,?_⟩ <;> refine zA ?_) | (refine ⟨fun c11=>?_,fun c11=>?_⟩ <;> (try simp [B_iff,B_not] at c11))
 | (refine Qh (id:=0) (Xd (ι:=Nat) (fun k:Nat=>⟨(upd (upd (upd (fun _=>.any) 0 (li cB xs)) 3 (.sl b 1 0 xs.length cp)) 4 (.int .i64 k)),upd (fun _=>none) b (some (fillC cB [.bool false] 1 xs k (List.replicate j .any)))⟩) (fun k=>k ≤ xs.length) (fun k=>xs.length - k) (0) ?_ ?_ ?_);exact Nat.zero_le _;((repeat' (first | exact Ql (by assumption) | exact Qo | refine Qk ?_ ?_ | refine Qn ?_)) <;> simp [-zg,-zd,↓Qb,↓Qa,go_sem,fill_zero]);rintro k hk)
 | (refine ⟨k + 1,by omega,by first | omega | (simp;done) | (simp;omega),?_⟩;((repeat' (first | exact Ql (by assumption) | exact Qo | refine Qk ?_ ?_ | refine Qn ?_)) <;> simp [-zg,-zd,↓Qb,↓Qa,go_sem,fill_zero]))
 | (refine Qh ?_)
 | (refine Qt ?_;simp [-zg,-zd,↓Qb,↓Qa,go_sem])
 | (refine Qs ?_;simp [-zg,-zd,↓Qb,↓Qa,go_sem])
 | (refine Qv ?_;simp [-zg,-zd,↓Qb,↓Qa,go_sem,Tryd.results31])
 | (intro hx;refine zA ?_)
 | (refine ⟨?_,?_⟩ <;> refine zA ?_)
 | (intro hx;constructor <;> intro hs)
 | (constructor <;> intro hs)
 | (refine ⟨?_,fun hs=>?_⟩;refine zA ?_)
 | (refine ⟨fun hs=>?_,?_⟩;rotate_left;refine zA ?_;rotate_left)))
@[go_sem] def zads:Con:=.pure fun
  | [.list n_xs c_xs]=>((Is cB n_xs c_xs) ∧ ((de cB c_xs).length ≤ 1048576),fr 1 cB (de cB c_xs))
  | _=>(False,.any)
theorem zahw:ConOk Tryd.prog 31 zads:=by
  refine ⟨Qq Tryd.func31 (by decide) rfl,fun args h=>?_⟩
  revert h
  dsimp only
  split
  · intro h
    obtain ⟨⟨xs,rfl,rfl⟩,h0⟩:=h
    try simp only [Qj] at *
    exact ⟨toBoolS_pure xs h0,by simp [go_sem]⟩
  · intro h
    exact h.elim
@[go_sem] def Γa3:FuncId → Con:=ext Γa2 31 zads
theorem Γa3_ok:∀ g,ConOk Tryd.prog g (Γa3 g):=Qp Vu zahw

@[go_sem] def Γa4:FuncId → Con:=Γa3
theorem Γa4_ok:∀ g,ConOk Tryd.prog g (Γa4 g):=Γa3_ok

@[go_sem] def Γa5:FuncId → Con:=Γa4
theorem Γa5_ok:∀ g,ConOk Tryd.prog g (Γa5 g):=Γa4_ok

@[go_sem] def Γa6:FuncId → Con:=Γa5
theorem Γa6_ok:∀ g,ConOk Tryd.prog g (Γa6 g):=Γa5_ok

@[go_sem] def Γa7:FuncId → Con:=Γa6
theorem Γa7_ok:∀ g,ConOk Tryd.prog g (Γa7 g):=Γa6_ok

@[go_sem] def Γa8:FuncId → Con:=Γa7
theorem Γa8_ok:∀ g,ConOk Tryd.prog g (Γa8 g):=Γa7_ok

@[go_sem] def Γa9:FuncId → Con:=Γa8
theorem Γa9_ok:∀ g,ConOk Tryd.prog g (Γa9 g):=Γa8_ok

@[go_sem] def Γa10:FuncId → Con:=Γa9
theorem Γa10_ok:∀ g,ConOk Tryd.prog g (Γa10 g):=Γa9_ok

@[go_sem] def Γa11:FuncId → Con:=Γa10
theorem Ji:∀ g,ConOk Tryd.prog g (Γa11 g):=Γa10_ok

theorem st4_tr:St4 Tryd.prog 65:=by
  refine ⟨by kernel_rfl,fun a b c d a' b' c' d' w=>?_⟩
  have hI:=Tryd.underlying3
  have hS:Tryd.prog.underlying 65 = some (.struct (Tryd.prog.fieldsOf 65)):=by kernel_rfl
  have hp:Tryd.prog.stoodInHeld 65 = false:=by kernel_rfl
  rw [show (10000:Nat) = 9999 + 1 from rfl,run_equalIn_agg w 9999 _ _ _ hS hp]
  have hz:∀ w,(sizeOf 3).run Tryd.prog w = .ok 1 w:=Xs (P:=Tryd.prog) (ty3)
  have ha:∀ w,(isAgg 3).run Tryd.prog w = .ok false w:=run_agg (P:=Tryd.prog) (ty3)
  have hf:(Tryd.prog.fieldsOf 65).toList.map (fun f=>(f.name,f.type,f.offset)) = [("From",3,0),("Care",3,1),("Value",3,2),("To",3,3)]:=by kernel_rfl
  simp only [Program.fieldsOf,Tryd.underlying65]
  simp [Op.eqFields,part,ha,run_equalIn_int w 9998 _ _ _ _ _ hI]
  by_cases h1:a = a' <;> by_cases h2:b = b' <;> by_cases h3:c = c' <;> by_cases h4:d = d' <;> simp [h1,h2,h3,h4]
@[go_sem] theorem st4_on:St4 Tryd.prog 65 = True:=eq_true st4_tr

theorem l2IntsA_pure (xs:List Int) (ys:List Int)  : Pure Tryd.prog 45 [li cI xs,li cI ys] (.bool (decide (xs = ys))):=by
  refine Pure.of_walk Tryd.func45 rfl (by simp [Tryd.f45]) (by simp [-zd,go_sem]) fun B hK=>?_
  (repeat' (first
 | refine Qu ?_
 | (refine Jn 0 rfl fun hm=>?_);refine Qc (id:=0) Ji [] (by kernel_rfl) ?_;simp [-zg,-zd,↓Qb,↓Qa,go_sem]
 | refine Qc (id:=1) Ji [] (by kernel_rfl) ?_;simp [-zg,-zd,↓Qb,↓Qa,go_sem]
 | refine Qc (id:=2) Ji [] (by kernel_rfl) ?_;simp [-zg,-zd,↓Qb,↓Qa,go_sem]
 | refine Qc (id:=3) Ji [] (by kernel_rfl) ?_;simp [-zg,-zd,↓Qb,↓Qa,go_sem]
 | refine Qc (id:=4) Ji [] (by kernel_rfl) ?_;simp [-zg,-zd,↓Qb,↓Qa,go_sem]
 | (have cy:k < ys.length:=by omega);refine Zb (id:=6) Ji mixed [] [5] (by kernel_rfl) (by kernel_rfl) (by simp [-zg,-zd,↓Qb,↓Qa,go_sem,c14,Qg c14,zsP c14,cy,Qg cy,zsP cy]) ?_;simp [-zg,-zd,↓Qb,↓Qa,go_sem,c14,Qg c14,zsP c14,cy,Qg cy,zsP cy]
 | refine Qc (id:=7) Ji [] (by kernel_rfl) ?_;simp [-zg,-zd,↓Qb,↓Qa,go_sem]
 | refine Qc (id:=5) Ji [] (by kernel_rfl) ?_;simp [-zg,-zd,↓Qb,↓Qa,go_sem,wrapS (k:=k) (by omega)]
 | refine Qc (id:=8) Ji [] (by kernel_rfl) ?_;simp [-zg,-zd,↓Qb,↓Qa,go_sem]
 | refine Qd (c:=.tmp 10) ?_;simp [-zg,-zd,↓Qb,↓Qa,go_sem];try first | (refine ⟨?_,?_⟩ <;> refine zA ?_) | (refine ⟨fun c10=>?_,fun c10=>?_⟩ <;> (try simp [B_iff,B_not] at c10))
 | refine Qd (c:=.tmp 14) ?_;simp [-zg,-zd,↓Qb,↓Qa,go_sem];try first | (refine ⟨?_,?_⟩ <;> refine zA ?_) | (refine ⟨fun c14=>?_,fun c14=>?_⟩ <;> (try simp [B_iff,B_not] at c14))
 | refine Qd (c:=.tmp 25) ?_;simp [-zg,-zd,↓Qb,↓Qa,go_sem];try first | (refine ⟨?_,?_⟩ <;> refine zA ?_) | (refine ⟨fun c25=>?_,fun c25=>?_⟩ <;> (try simp [B_iff,B_not] at c25))
 | (refine Qh (id:=0) (Xd (ι:=Nat) (fun k:Nat=>⟨(upd (upd (upd (fun _=>.any) 0 (li cI xs)) 1 (li cI ys)) 5 (.int .i64 k)),fun _=>none⟩) (fun k=>k ≤ xs.length ∧ NoneTill (neAt xs ys) k) (fun k=>xs.length - k) (0) ?_ ?_ ?_);exact ⟨Nat.zero_le _,.zero _⟩;((repeat' (first | exact Ql (by assumption) | exact Qo | refine Qk ?_ ?_ | refine Qn ?_)) <;> simp [-zg,-zd,↓Qb,↓Qa,go_sem]);rintro k ⟨hk,ht⟩)
 | (refine ⟨k + 1,⟨by omega,ht.succ (by simp [neAt];first | exact c25 | (apply Prod.ext <;> simp_all;done) | (simp_all [Prod.ext_iff];done) | simp_all)⟩,by first | omega | (simp;done) | (simp;omega),?_⟩;((repeat' (first | exact Ql (by assumption) | exact Qo | refine Qk ?_ ?_ | refine Qn ?_)) <;> simp [-zg,-zd,↓Qb,↓Qa,go_sem]))
 | (refine Qh ?_)
 | (refine Qt ?_;simp [-zg,-zd,↓Qb,↓Qa,go_sem])
 | (refine Qs ?_;simp [-zg,-zd,↓Qb,↓Qa,go_sem])
 | (refine Qv ?_;simp [-zg,-zd,↓Qb,↓Qa,go_sem,Tryd.results45])
 | (intro hx;refine zA ?_)
 | (refine ⟨?_,?_⟩ <;> refine zA ?_)
 | (intro hx;constructor <;> intro hs)
 | (constructor <;> intro hs)
 | (refine ⟨?_,fun hs=>?_⟩;refine zA ?_)
 | (refine ⟨fun hs=>?_,?_⟩;rotate_left;refine zA ?_;rotate_left)))
  all_goals (first
 | (rintro rfl;simp at c10;done)
 | (rintro rfl;simp at c25;done)
 | exact Jd (by omega) ht (by omega)
 | skip)
@[go_sem] def zaea:Con:=.pure fun
  | [.list n_xs c_xs,.list n_ys c_ys]=>((Is cI n_xs c_xs) ∧ (Is cI n_ys c_ys),.bool (decide ((de cI c_xs) = (de cI c_ys))))
  | _=>(False,.any)
theorem zajg:ConOk Tryd.prog 45 zaea:=by
  refine ⟨Qq Tryd.func45 (by decide) rfl,fun args h=>?_⟩
  revert h
  dsimp only
  split
  · intro h
    obtain ⟨⟨xs,rfl,rfl⟩,⟨ys,rfl,rfl⟩⟩:=h
    try simp only [Qj] at *
    exact ⟨l2IntsA_pure xs ys,by simp [go_sem]⟩
  · intro h
    exact h.elim
@[go_sem] def Γa12:FuncId → Con:=ext Γa11 45 zaea
theorem Zv:∀ g,ConOk Tryd.prog g (Γa12 g):=Qp Ji zajg

theorem sEqI_pure (xs:List Int) (ys:List Int)  : Pure Tryd.prog 42 [li cI xs,li cI ys] (.bool (decide (xs = ys))):=by
  refine Pure.of_walk Tryd.func42 rfl (by simp [Tryd.f42]) (by simp [-zd,go_sem]) fun B hK=>?_
  (repeat' (first
 | refine Qu ?_
 | (refine Jn 0 rfl fun hm=>?_);refine Qc (id:=0) Zv [] (by kernel_rfl) ?_;simp [-zg,-zd,↓Qb,↓Qa,go_sem]
 | refine Qc (id:=1) Zv [] (by kernel_rfl) ?_;simp [-zg,-zd,↓Qb,↓Qa,go_sem]
 | refine Qc (id:=2) Zv [] (by kernel_rfl) ?_;simp [-zg,-zd,↓Qb,↓Qa,go_sem]
 | refine Qc (id:=3) Zv [] (by kernel_rfl) ?_;simp [-zg,-zd,↓Qb,↓Qa,go_sem]
 | refine Qc (id:=4) Zv [] (by kernel_rfl) ?_;simp [-zg,-zd,↓Qb,↓Qa,go_sem]
 | refine Qc (id:=5) Zv [] (by kernel_rfl) ?_;simp [-zg,-zd,↓Qb,↓Qa,go_sem,c14,Qg c14,zsP c14]
 | (have cy:k < ys.length:=by omega);refine Zb (id:=6) Zv mixed [] [5] (by kernel_rfl) (by kernel_rfl) (by simp [-zg,-zd,↓Qb,↓Qa,go_sem,c14,Qg c14,zsP c14,cy,Qg cy,zsP cy]) ?_;simp [-zg,-zd,↓Qb,↓Qa,go_sem,c14,Qg c14,zsP c14,cy,Qg cy,zsP cy]
 | refine Qc (id:=7) Zv [] (by kernel_rfl) ?_;simp [-zg,-zd,↓Qb,↓Qa,go_sem]
 | refine Qc (id:=8) Zv [] (by kernel_rfl) ?_;simp [-zg,-zd,↓Qb,↓Qa,go_sem,wrapS (k:=k) (by omega)]
 | refine Qc (id:=9) Zv [] (by kernel_rfl) ?_;simp [-zg,-zd,↓Qb,↓Qa,go_sem]
 | refine Qd (c:=.tmp 10) ?_;simp [-zg,-zd,↓Qb,↓Qa,go_sem];try first | (refine ⟨?_,?_⟩ <;> refine zA ?_) | (refine ⟨fun c10=>?_,fun c10=>?_⟩ <;> (try simp [B_iff,B_not] at c10))
 | refine Qd (c:=.tmp 14) ?_;simp [-zg,-zd,↓Qb,↓Qa,go_sem];try first | (refine ⟨?_,?_⟩ <;> refine zA ?_) | (refine ⟨fun c14=>?_,fun c14=>?_⟩ <;> (try simp [B_iff,B_not] at c14))
 | refine Qd (c:=.tmp 24) ?_;simp [-zg,-zd,↓Qb,↓Qa,go_sem];try first | (refine ⟨?_,?_⟩ <;> refine zA ?_) | (refine ⟨fun c24=>?_,fun c24=>?_⟩ <;> (try simp [B_iff,B_not] at c24))
 | (refine Qh (id:=0) (Xd (ι:=Nat) (fun k:Nat=>⟨(upd (upd (upd (upd (upd (fun _=>.any) 0 (li cI xs)) 1 (li cI ys)) 11 (li cI xs)) 12 (.int .i64 xs.length)) 13 (.int .i64 k)),fun _=>none⟩) (fun k=>k ≤ xs.length ∧ NoneTill (neAt xs ys) k) (fun k=>xs.length - k) (0) ?_ ?_ ?_);exact ⟨Nat.zero_le _,.zero _⟩;((repeat' (first | exact Ql (by assumption) | exact Qo | refine Qk ?_ ?_ | refine Qn ?_)) <;> simp [-zg,-zd,↓Qb,↓Qa,go_sem]);rintro k ⟨hk,ht⟩)
 | (refine ⟨k + 1,⟨by omega,ht.succ (by simp [neAt];first | exact c24 | (simp_all [Prod.ext_iff];done) | simp_all)⟩,by first | omega | (simp;done) | (simp;omega),?_⟩;((repeat' (first | exact Ql (by assumption) | exact Qo | refine Qk ?_ ?_ | refine Qn ?_)) <;> simp [-zg,-zd,↓Qb,↓Qa,go_sem]))
 | (refine Qh ?_)
 | (refine Qt ?_;simp [-zg,-zd,↓Qb,↓Qa,go_sem])
 | (refine Qs ?_;simp [-zg,-zd,↓Qb,↓Qa,go_sem])
 | (refine Qv ?_;simp [-zg,-zd,↓Qb,↓Qa,go_sem,Tryd.results42])
 | (intro hx;refine zA ?_)
 | (refine ⟨?_,?_⟩ <;> refine zA ?_)
 | (intro hx;constructor <;> intro hs)
 | (constructor <;> intro hs)
 | (refine ⟨?_,fun hs=>?_⟩;refine zA ?_)
 | (refine ⟨fun hs=>?_,?_⟩;rotate_left;refine zA ?_;rotate_left)))
  all_goals (first
 | (rintro rfl;simp at c10;done)
 | (rintro rfl;simp at c24;done)
 | (rintro rfl;exact c24 rfl)
 | exact Jd (by omega) ht (by omega)
 | skip)
@[go_sem] def zaid:Con:=.pure fun
  | [.list n_xs c_xs,.list n_ys c_ys]=>((Is cI n_xs c_xs) ∧ (Is cI n_ys c_ys),.bool (decide ((de cI c_xs) = (de cI c_ys))))
  | _=>(False,.any)
theorem sEqI_pureC_ok:ConOk Tryd.prog 42 zaid:=by
  refine ⟨Qq Tryd.func42 (by decide) rfl,fun args h=>?_⟩
  revert h
  dsimp only
  split
  · intro h
    obtain ⟨⟨xs,rfl,rfl⟩,⟨ys,rfl,rfl⟩⟩:=h
    try simp only [Qj] at *
    exact ⟨sEqI_pure xs ys,by simp [go_sem]⟩
  · intro h
    exact h.elim
@[go_sem] def Γa13:FuncId → Con:=ext Γa12 42 zaid
theorem Zu:∀ g,ConOk Tryd.prog g (Γa13 g):=Qp Zv sEqI_pureC_ok

theorem sEqB_pure (xs:List Bool) (ys:List Bool)  : Pure Tryd.prog 43 [li cB xs,li cB ys] (.bool (decide (xs = ys))):=by
  refine Pure.of_walk Tryd.func43 rfl (by simp [Tryd.f43]) (by simp [-zd,go_sem]) fun B hK=>?_
  (repeat' (first
 | refine Qu ?_
 | (refine Jn 0 rfl fun hm=>?_);refine Qc (id:=0) Zu [] (by kernel_rfl) ?_;simp [-zg,-zd,↓Qb,↓Qa,go_sem]
 | refine Qc (id:=1) Zu [] (by kernel_rfl) ?_;simp [-zg,-zd,↓Qb,↓Qa,go_sem]
 | refine Qc (id:=2) Zu [] (by kernel_rfl) ?_;simp [-zg,-zd,↓Qb,↓Qa,go_sem]
 | refine Qc (id:=3) Zu [] (by kernel_rfl) ?_;simp [-zg,-zd,↓Qb,↓Qa,go_sem]
 | refine Qc (id:=4) Zu [] (by kernel_rfl) ?_;simp [-zg,-zd,↓Qb,↓Qa,go_sem]
 | refine Qc (id:=5) Zu [] (by kernel_rfl) ?_;simp [-zg,-zd,↓Qb,↓Qa,go_sem,c14,Qg c14,zsP c14]
 | (have cy:k < ys.length:=by omega);refine Zb (id:=6) Zu mixed [] [5] (by kernel_rfl) (by kernel_rfl) (by simp [-zg,-zd,↓Qb,↓Qa,go_sem,c14,Qg c14,zsP c14,cy,Qg cy,zsP cy]) ?_;simp [-zg,-zd,↓Qb,↓Qa,go_sem,c14,Qg c14,zsP c14,cy,Qg cy,zsP cy]
 | refine Qc (id:=7) Zu [] (by kernel_rfl) ?_;simp [-zg,-zd,↓Qb,↓Qa,go_sem]
 | refine Qc (id:=8) Zu [] (by kernel_rfl) ?_;simp [-zg,-zd,↓Qb,↓Qa,go_sem,wrapS (k:=k) (by omega)]
 | refine Qc (id:=9) Zu [] (by kernel_rfl) ?_;simp [-zg,-zd,↓Qb,↓Qa,go_sem]
 | refine Qd (c:=.tmp 10) ?_;simp [-zg,-zd,↓Qb,↓Qa,go_sem];try first | (refine ⟨?_,?_⟩ <;> refine zA ?_) | (refine ⟨fun c10=>?_,fun c10=>?_⟩ <;> (try simp [B_iff,B_not] at c10))
 | refine Qd (c:=.tmp 14) ?_;simp [-zg,-zd,↓Qb,↓Qa,go_sem];try first | (refine ⟨?_,?_⟩ <;> refine zA ?_) | (refine ⟨fun c14=>?_,fun c14=>?_⟩ <;> (try simp [B_iff,B_not] at c14))
 | refine Qd (c:=.tmp 24) ?_;simp [-zg,-zd,↓Qb,↓Qa,go_sem];try first | (refine ⟨?_,?_⟩ <;> refine zA ?_) | (refine ⟨fun c24=>?_,fun c24=>?_⟩ <;> (try simp [B_iff,B_not] at c24))
 | (refine Qh (id:=0) (Xd (ι:=Nat) (fun k:Nat=>⟨(upd (upd (upd (upd (upd (fun _=>.any) 0 (li cB xs)) 1 (li cB ys)) 11 (li cB xs)) 12 (.int .i64 xs.length)) 13 (.int .i64 k)),fun _=>none⟩) (fun k=>k ≤ xs.length ∧ NoneTill (neAt xs ys) k) (fun k=>xs.length - k) (0) ?_ ?_ ?_);exact ⟨Nat.zero_le _,.zero _⟩;((repeat' (first | exact Ql (by assumption) | exact Qo | refine Qk ?_ ?_ | refine Qn ?_)) <;> simp [-zg,-zd,↓Qb,↓Qa,go_sem]);rintro k ⟨hk,ht⟩)
 | (refine ⟨k + 1,⟨by omega,ht.succ (by simp [neAt];first | exact c24 | (simp_all [Prod.ext_iff];done) | simp_all)⟩,by first | omega | (simp;done) | (simp;omega),?_⟩;((repeat' (first | exact Ql (by assumption) | exact Qo | refine Qk ?_ ?_ | refine Qn ?_)) <;> simp [-zg,-zd,↓Qb,↓Qa,go_sem]))
 | (refine Qh ?_)
 | (refine Qt ?_;simp [-zg,-zd,↓Qb,↓Qa,go_sem])
 | (refine Qs ?_;simp [-zg,-zd,↓Qb,↓Qa,go_sem])
 | (refine Qv ?_;simp [-zg,-zd,↓Qb,↓Qa,go_sem,Tryd.results43])
 | (intro hx;refine zA ?_)
 | (refine ⟨?_,?_⟩ <;> refine zA ?_)
 | (intro hx;constructor <;> intro hs)
 | (constructor <;> intro hs)
 | (refine ⟨?_,fun hs=>?_⟩;refine zA ?_)
 | (refine ⟨fun hs=>?_,?_⟩;rotate_left;refine zA ?_;rotate_left)))
  all_goals (first
 | (rintro rfl;simp at c10;done)
 | (rintro rfl;simp at c24;done)
 | (rintro rfl;exact c24 rfl)
 | exact Jd (by omega) ht (by omega)
 | skip)
@[go_sem] def zaie:Con:=.pure fun
  | [.list n_xs c_xs,.list n_ys c_ys]=>((Is cB n_xs c_xs) ∧ (Is cB n_ys c_ys),.bool (decide ((de cB c_xs) = (de cB c_ys))))
  | _=>(False,.any)
theorem sEqB_pureC_ok:ConOk Tryd.prog 43 zaie:=by
  refine ⟨Qq Tryd.func43 (by decide) rfl,fun args h=>?_⟩
  revert h
  dsimp only
  split
  · intro h
    obtain ⟨⟨xs,rfl,rfl⟩,⟨ys,rfl,rfl⟩⟩:=h
    try simp only [Qj] at *
    exact ⟨sEqB_pure xs ys,by simp [go_sem]⟩
  · intro h
    exact h.elim
@[go_sem] def Γa14:FuncId → Con:=ext Γa13 43 zaie
theorem Zt:∀ g,ConOk Tryd.prog g (Γa14 g):=Qp Zu sEqB_pureC_ok

theorem sEqT_pure (xs:List Tr4) (ys:List Tr4)  : Pure Tryd.prog 44 [li cT xs,li cT ys] (.bool (decide (xs = ys))):=by
  refine Pure.of_walk Tryd.func44 rfl (by simp [Tryd.f44]) (by simp [-zd,go_sem]) fun B hK=>?_
  (repeat' (first
 | refine Qu ?_
 | (refine Jn 0 rfl fun hm=>?_);refine Qc (id:=0) Zt [] (by kernel_rfl) ?_;simp [-zg,-zd,↓Qb,↓Qa,go_sem]
 | refine Qc (id:=1) Zt [] (by kernel_rfl) ?_;simp [-zg,-zd,↓Qb,↓Qa,go_sem]
 | refine Qc (id:=2) Zt [] (by kernel_rfl) ?_;simp [-zg,-zd,↓Qb,↓Qa,go_sem]
 | refine Qc (id:=3) Zt [] (by kernel_rfl) ?_;simp [-zg,-zd,↓Qb,↓Qa,go_sem]
 | refine Qc (id:=4) Zt [] (by kernel_rfl) ?_;simp [-zg,-zd,↓Qb,↓Qa,go_sem]
 | refine Qc (id:=5) Zt [] (by kernel_rfl) ?_;simp [-zg,-zd,↓Qb,↓Qa,go_sem,c14,Qg c14,zsP c14]
 | (have cy:k < ys.length:=by omega);refine Zb (id:=6) Zt mixed [] [5] (by kernel_rfl) (by kernel_rfl) (by simp [-zg,-zd,↓Qb,↓Qa,go_sem,c14,Qg c14,zsP c14,cy,Qg cy,zsP cy]) ?_;simp [-zg,-zd,↓Qb,↓Qa,go_sem,c14,Qg c14,zsP c14,cy,Qg cy,zsP cy]
 | refine Qc (id:=7) Zt [] (by kernel_rfl) ?_;simp [-zg,-zd,↓Qb,↓Qa,go_sem]
 | refine Qc (id:=8) Zt [] (by kernel_rfl) ?_;simp [-zg,-zd,↓Qb,↓Qa,go_sem,wrapS (k:=k) (by omega)]
 | refine Qc (id:=9) Zt [] (by kernel_rfl) ?_;simp [-zg,-zd,↓Qb,↓Qa,go_sem]
 | refine Qd (c:=.tmp 10) ?_;simp [-zg,-zd,↓Qb,↓Qa,go_sem];try first | (refine ⟨?_,?_⟩ <;> refine zA ?_) | (refine ⟨fun c10=>?_,fun c10=>?_⟩ <;> (try simp [B_iff,B_not] at c10))
 | refine Qd (c:=.tmp 14) ?_;simp [-zg,-zd,↓Qb,↓Qa,go_sem];try first | (refine ⟨?_,?_⟩ <;> refine zA ?_) | (refine ⟨fun c14=>?_,fun c14=>?_⟩ <;> (try simp [B_iff,B_not] at c14))
 | refine Qd (c:=.tmp 24) ?_;simp [-zg,-zd,↓Qb,↓Qa,go_sem];try first | (refine ⟨?_,?_⟩ <;> refine zA ?_) | (refine ⟨fun c24=>?_,fun c24=>?_⟩ <;> (try simp [B_iff,B_not] at c24))
 | (refine Qh (id:=0) (Xd (ι:=Nat) (fun k:Nat=>⟨(upd (upd (upd (upd (upd (fun _=>.any) 0 (li cT xs)) 1 (li cT ys)) 11 (li cT xs)) 12 (.int .i64 xs.length)) 13 (.int .i64 k)),fun _=>none⟩) (fun k=>k ≤ xs.length ∧ NoneTill (neAt xs ys) k) (fun k=>xs.length - k) (0) ?_ ?_ ?_);exact ⟨Nat.zero_le _,.zero _⟩;((repeat' (first | exact Ql (by assumption) | exact Qo | refine Qk ?_ ?_ | refine Qn ?_)) <;> simp [-zg,-zd,↓Qb,↓Qa,go_sem]);rintro k ⟨hk,ht⟩)
 | (refine ⟨k + 1,⟨by omega,ht.succ (by simp [neAt];first | exact c24 | (simp_all [Prod.ext_iff];done) | simp_all)⟩,by first | omega | (simp;done) | (simp;omega),?_⟩;((repeat' (first | exact Ql (by assumption) | exact Qo | refine Qk ?_ ?_ | refine Qn ?_)) <;> simp [-zg,-zd,↓Qb,↓Qa,go_sem]))
 | (refine Qh ?_)
 | (refine Qt ?_;simp [-zg,-zd,↓Qb,↓Qa,go_sem])
 | (refine Qs ?_;simp [-zg,-zd,↓Qb,↓Qa,go_sem])
 | (refine Qv ?_;simp [-zg,-zd,↓Qb,↓Qa,go_sem,Tryd.results44])
 | (intro hx;refine zA ?_)
 | (refine ⟨?_,?_⟩ <;> refine zA ?_)
 | (intro hx;constructor <;> intro hs)
 | (constructor <;> intro hs)
 | (refine ⟨?_,fun hs=>?_⟩;refine zA ?_)
 | (refine ⟨fun hs=>?_,?_⟩;rotate_left;refine zA ?_;rotate_left)))
  all_goals (first
 | (rintro rfl;simp at c10;done)
 | (rintro rfl;simp at c24;done)
 | (rintro rfl;exact c24 rfl)
 | exact Jd (by omega) ht (by omega)
 | skip)
@[go_sem] def zaic:Con:=.pure fun
  | [.list n_xs c_xs,.list n_ys c_ys]=>((Is cT n_xs c_xs) ∧ (Is cT n_ys c_ys),.bool (decide ((de cT c_xs) = (de cT c_ys))))
  | _=>(False,.any)
theorem sEqT_pureC_ok:ConOk Tryd.prog 44 zaic:=by
  refine ⟨Qq Tryd.func44 (by decide) rfl,fun args h=>?_⟩
  revert h
  dsimp only
  split
  · intro h
    obtain ⟨⟨xs,rfl,rfl⟩,⟨ys,rfl,rfl⟩⟩:=h
    try simp only [Qj] at *
    exact ⟨sEqT_pure xs ys,by simp [go_sem]⟩
  · intro h
    exact h.elim
@[go_sem] def Γa15:FuncId → Con:=ext Γa14 44 zaic
theorem Γa15_ok:∀ g,ConOk Tryd.prog g (Γa15 g):=Qp Zt sEqT_pureC_ok

theorem zaeb (a:List Int) (b:List Bool) (c:List Tr4) (a':List Int) (b':List Bool) (c':List Tr4)  : Pure Tryd.prog 17 [.st [li cI a,li cB b,li cT c],.st [li cI a',li cB b',li cT c']] (.bool (decide (a = a') && decide (b = b') && decide (c = c'))):=by
  refine Pure.of_walk Tryd.func17 rfl (by simp [Tryd.f17]) (by simp [-zd,go_sem]) fun B hK=>?_
  (repeat' (first
 | refine Qu ?_
 | refine Qc (id:=0) Γa15_ok [] (by kernel_rfl) ?_;simp [-zg,-zd,↓Qb,↓Qa,go_sem];try (refine Xn hK 2 ?_;simp [go_sem];refine Xn hK 3 ?_;simp [go_sem])
 | refine Qc (id:=1) Γa15_ok [10,17] (by kernel_rfl) ?_;simp [-zg,-zd,↓Qb,↓Qa,go_sem];try (refine ⟨fun s1a=>?_,fun s1a=>?_⟩ <;> (try simp [B_iff,B_not] at s1a) <;> try (refine ⟨fun s1b=>?_,fun s1b=>?_⟩ <;> (try simp [B_iff,B_not] at s1b) <;> try (refine ⟨fun s1c=>?_,fun s1c=>?_⟩ <;> (try simp [B_iff,B_not] at s1c))))
 | (refine Qh ?_)
 | (refine Qt ?_;simp [-zg,-zd,↓Qb,↓Qa,go_sem])
 | (refine Qs ?_;simp [-zg,-zd,↓Qb,↓Qa,go_sem])
 | (refine Qv ?_;simp [-zg,-zd,↓Qb,↓Qa,go_sem,Tryd.results17])
 | (intro hx;refine zA ?_)
 | (refine ⟨?_,?_⟩ <;> refine zA ?_)
 | (intro hx;constructor <;> intro hs)
 | (constructor <;> intro hs)
 | (refine ⟨?_,fun hs=>?_⟩;refine zA ?_)
 | (refine ⟨fun hs=>?_,?_⟩;rotate_left;refine zA ?_;rotate_left)))
  all_goals (first
 | (simp_all;done)
 | (intros;simp_all;done)
 | skip)
@[go_sem] def zaam:Con:=.pure fun
  | [.st [.list n_a c_a,.list n_b c_b,.list n_c c_c],.st [.list n_a' c_a',.list n_b' c_b',.list n_c' c_c']]=>((Is cI n_a c_a) ∧ (Is cB n_b c_b) ∧ (Is cT n_c c_c) ∧ (Is cI n_a' c_a') ∧ (Is cB n_b' c_b') ∧ (Is cT n_c' c_c'),.bool (decide ((de cI c_a) = (de cI c_a')) && decide ((de cB c_b) = (de cB c_b')) && decide ((de cT c_c) = (de cT c_c'))))
  | _=>(False,.any)
theorem zacw:ConOk Tryd.prog 17 zaam:=by
  refine ⟨Qq Tryd.func17 (by decide) rfl,fun args h=>?_⟩
  revert h
  dsimp only
  split
  · intro h
    obtain ⟨⟨a,rfl,rfl⟩,⟨b,rfl,rfl⟩,⟨c,rfl,rfl⟩,⟨a',rfl,rfl⟩,⟨b',rfl,rfl⟩,⟨c',rfl,rfl⟩⟩:=h
    try simp only [Qj] at *
    exact ⟨zaeb a b c a' b' c',by simp [go_sem]⟩
  · intro h
    exact h.elim
@[go_sem] def Γa16:FuncId → Con:=ext Γa15 17 zaam
theorem Xy:∀ g,ConOk Tryd.prog g (Γa16 g):=Qp Γa15_ok zacw

theorem zadt (a:List Int) (b:List Bool) (c:List Tr4) (a':List Int) (b':List Bool) (c':List Tr4)  : Pure Tryd.prog 18 [.st [li cI a,li cB b,li cT c],.st [li cI a',li cB b',li cT c']] (.bool (decide (a = a') && decide (b = b') && decide (c = c'))):=by
  refine Pure.of_walk Tryd.func18 rfl (by simp [Tryd.f18]) (by simp [-zd,go_sem]) fun B hK=>?_
  (repeat' (first
 | refine Qu ?_
 | refine Qc (id:=0) Xy [] (by kernel_rfl) ?_;simp [-zg,-zd,↓Qb,↓Qa,go_sem];try (refine Xn hK 2 ?_;simp [go_sem];refine Xn hK 3 ?_;simp [go_sem])
 | refine Qc (id:=1) Xy [13,22] (by kernel_rfl) ?_;simp [-zg,-zd,↓Qb,↓Qa,go_sem];try (refine ⟨fun s1a=>?_,fun s1a=>?_⟩ <;> (try simp [B_iff,B_not] at s1a) <;> try (refine ⟨fun s1b=>?_,fun s1b=>?_⟩ <;> (try simp [B_iff,B_not] at s1b) <;> try (refine ⟨fun s1c=>?_,fun s1c=>?_⟩ <;> (try simp [B_iff,B_not] at s1c))))
 | refine Qc (id:=2) Xy [] (by kernel_rfl) ?_;simp [-zg,-zd,↓Qb,↓Qa,go_sem]
 | (refine Vw 2 1 ⟨rfl,rfl⟩ fun hm=>?_;refine Vw 2 2 ⟨rfl,rfl⟩ fun hm2=>?_);refine Qc (id:=3) Xy [] (by kernel_rfl) ?_;simp [-zg,-zd,↓Qb,↓Qa,go_sem]
 | refine Qc (id:=4) Xy [] (by kernel_rfl) ?_;simp [-zg,-zd,↓Qb,↓Qa,go_sem]
 | (have cy:k < b'.length:=by omega);refine Zb (id:=6) Xy mixed [] [5] (by kernel_rfl) (by kernel_rfl) (by simp [-zg,-zd,↓Qb,↓Qa,go_sem,c35,Qg c35,zsP c35,cy,Qg cy,zsP cy]) ?_;simp [-zg,-zd,↓Qb,↓Qa,go_sem,c35,Qg c35,zsP c35,cy,Qg cy,zsP cy]
 | refine Qc (id:=7) Xy [] (by kernel_rfl) ?_;simp [-zg,-zd,↓Qb,↓Qa,go_sem]
 | refine Qc (id:=5) Xy [] (by kernel_rfl) ?_;simp [-zg,-zd,↓Qb,↓Qa,go_sem,wrapS (k:=k) (by omega)]
 | refine Qc (id:=8) Xy [] (by kernel_rfl) ?_;simp [-zg,-zd,↓Qb,↓Qa,go_sem]
 | refine Qc (id:=9) Xy [] (by kernel_rfl) ?_;simp [-zg,-zd,↓Qb,↓Qa,go_sem]
 | (have cz:i < c'.length:=by omega);refine Zb (id:=11) Xy mixed [] [6] (by kernel_rfl) (by kernel_rfl) (by simp [-zg,-zd,↓Qb,↓Qa,go_sem,c53,Qg c53,zsP c53,cz,Qg cz,zsP cz]) ?_;simp [-zg,-zd,↓Qb,↓Qa,go_sem,c53,Qg c53,zsP c53,cz,Qg cz,zsP cz]
 | refine Qc (id:=12) Xy [] (by kernel_rfl) ?_;simp [-zg,-zd,↓Qb,↓Qa,go_sem]
 | refine Qc (id:=10) Xy [] (by kernel_rfl) ?_;simp [-zg,-zd,↓Qb,↓Qa,go_sem,wrapS (k:=i) (by omega)]
 | refine Qc (id:=13) Xy [] (by kernel_rfl) ?_;simp [-zg,-zd,↓Qb,↓Qa,go_sem]
 | refine Qd (c:=.tmp 30) ?_;simp [-zg,-zd,↓Qb,↓Qa,go_sem];try first | (refine ⟨?_,?_⟩ <;> refine zA ?_) | (refine ⟨fun c30=>?_,fun c30=>?_⟩ <;> (try simp [B_iff,B_not] at c30))
 | refine Qd (c:=.tmp 35) ?_;simp [-zg,-zd,↓Qb,↓Qa,go_sem];try first | (refine ⟨?_,?_⟩ <;> refine zA ?_) | (refine ⟨fun c35=>?_,fun c35=>?_⟩ <;> (try simp [B_iff,B_not] at c35))
 | refine Qd (c:=.tmp 48) ?_;simp [-zg,-zd,↓Qb,↓Qa,go_sem];try first | (refine ⟨?_,?_⟩ <;> refine zA ?_) | (refine ⟨fun c48=>?_,fun c48=>?_⟩ <;> (try simp [B_iff,B_not] at c48))
 | refine Qd (c:=.tmp 53) ?_;simp [-zg,-zd,↓Qb,↓Qa,go_sem];try first | (refine ⟨?_,?_⟩ <;> refine zA ?_) | (refine ⟨fun c53=>?_,fun c53=>?_⟩ <;> (try simp [B_iff,B_not] at c53))
 | refine Qd (c:=.tmp 66) ?_;simp [-zg,-zd,↓Qb,↓Qa,go_sem];try first | (refine ⟨?_,?_⟩ <;> refine zA ?_) | (refine ⟨fun c66=>?_,fun c66=>?_⟩ <;> (try simp [B_iff,B_not] at c66))
 | (refine Qh (id:=0) (Xd (ι:=Nat) (fun k:Nat=>⟨(upd (upd (upd (fun _=>.any) 2 (.pd [li cI a,li cB b,li cT c])) 3 (.pd [li cI a',li cB b',li cT c'])) 5 (.int .i64 k)),fun _=>none⟩) (fun k=>k ≤ b.length ∧ NoneTill (neAt b b') k) (fun k=>b.length - k) (0) ?_ ?_ ?_);exact ⟨Nat.zero_le _,.zero _⟩;((repeat' (first | exact Ql (by assumption) | exact Qo | refine Qk ?_ ?_ | refine Qn ?_)) <;> simp [-zg,-zd,↓Qb,↓Qa,go_sem]);rintro k ⟨hk,ht⟩)
 | (refine ⟨k + 1,⟨by omega,ht.succ (by simp [neAt];first | exact c48 | simp_all)⟩,by first | omega | (simp;done) | (simp;omega),?_⟩;((repeat' (first | exact Ql (by assumption) | exact Qo | refine Qk ?_ ?_ | refine Qn ?_)) <;> simp [-zg,-zd,↓Qb,↓Qa,go_sem]))
 | (refine Qh (id:=2) (Xd (ι:=Nat) (fun i:Nat=>⟨(upd (upd (upd (fun _=>.any) 2 (.pd [li cI a,li cB b,li cT c])) 3 (.pd [li cI a',li cB b',li cT c'])) 6 (.int .i64 i)),fun _=>none⟩) (fun i=>i ≤ c.length ∧ NoneTill (neAt c c') i) (fun i=>c.length - i) (0) ?_ ?_ ?_);exact ⟨Nat.zero_le _,.zero _⟩;((repeat' (first | exact Ql (by assumption) | exact Qo | refine Qk ?_ ?_ | refine Qn ?_)) <;> simp [-zg,-zd,↓Qb,↓Qa,go_sem]);rintro i ⟨hi,hu⟩)
 | (refine ⟨i + 1,⟨by omega,hu.succ (by simp [neAt];first | exact c66 | (simp_all [Prod.ext_iff];done) | simp_all)⟩,by first | omega | (simp;done) | (simp;omega),?_⟩;((repeat' (first | exact Ql (by assumption) | exact Qo | refine Qk ?_ ?_ | refine Qn ?_)) <;> simp [-zg,-zd,↓Qb,↓Qa,go_sem]))
 | (refine Qh ?_)
 | (refine Qt ?_;simp [-zg,-zd,↓Qb,↓Qa,go_sem])
 | (refine Qs ?_;simp [-zg,-zd,↓Qb,↓Qa,go_sem])
 | (refine Qv ?_;simp [-zg,-zd,↓Qb,↓Qa,go_sem,Tryd.results18])
 | (intro hx;refine zA ?_)
 | (refine ⟨?_,?_⟩ <;> refine zA ?_)
 | (intro hx;constructor <;> intro hs)
 | (constructor <;> intro hs)
 | (refine ⟨?_,fun hs=>?_⟩;refine zA ?_)
 | (refine ⟨fun hs=>?_,?_⟩;rotate_left;refine zA ?_;rotate_left)))
  all_goals (first
 | exact ⟨⟨s1a,Jd (by omega) ht (by omega)⟩,Jd (by omega) hu (by omega)⟩
 | exact ⟨s1a,Jd (by omega) ht (by omega),Jd (by omega) hu (by omega)⟩
 | (rintro rfl;exact absurd rfl s1a)
 | (rintro rfl rfl rfl;simp_all;done)
 | (rintro rfl rfl;simp_all;done)
 | (rintro rfl;simp_all;done)
 | skip)
@[go_sem] def zaal:Con:=.pure fun
  | [.st [.list n_a c_a,.list n_b c_b,.list n_c c_c],.st [.list n_a' c_a',.list n_b' c_b',.list n_c' c_c']]=>((Is cI n_a c_a) ∧ (Is cB n_b c_b) ∧ (Is cT n_c c_c) ∧ (Is cI n_a' c_a') ∧ (Is cB n_b' c_b') ∧ (Is cT n_c' c_c'),.bool (decide ((de cI c_a) = (de cI c_a')) && decide ((de cB c_b) = (de cB c_b')) && decide ((de cT c_c) = (de cT c_c'))))
  | _=>(False,.any)
theorem zacu:ConOk Tryd.prog 18 zaal:=by
  refine ⟨Qq Tryd.func18 (by decide) rfl,fun args h=>?_⟩
  revert h
  dsimp only
  split
  · intro h
    obtain ⟨⟨a,rfl,rfl⟩,⟨b,rfl,rfl⟩,⟨c,rfl,rfl⟩,⟨a',rfl,rfl⟩,⟨b',rfl,rfl⟩,⟨c',rfl,rfl⟩⟩:=h
    try simp only [Qj] at *
    exact ⟨zadt a b c a' b' c',by simp [go_sem]⟩
  · intro h
    exact h.elim
@[go_sem] def Γa17:FuncId → Con:=ext Γa16 18 zaal
theorem Γa17_ok:∀ g,ConOk Tryd.prog g (Γa17 g):=Qp Xy zacu


theorem bits_iff (a b:BitVec 64):a &&& b = a ↔ a &&& ~~~b = 0#64:=by
  constructor
  · intro h
    apply BitVec.eq_of_getLsbD_eq
    intro i hi
    have:=congrArg (fun x=>x.getLsbD i) h
    simp only [BitVec.getLsbD_and] at this
    simp only [BitVec.getLsbD_and,BitVec.getLsbD_not,BitVec.getLsbD_zero]
    cases h1:a.getLsbD i <;> cases h2:b.getLsbD i <;> simp_all
  · intro h
    apply BitVec.eq_of_getLsbD_eq
    intro i hi
    have:=congrArg (fun x=>x.getLsbD i) h
    simp only [BitVec.getLsbD_and,BitVec.getLsbD_not,BitVec.getLsbD_zero] at this
    simp only [BitVec.getLsbD_and]
    cases h1:a.getLsbD i <;> cases h2:b.getLsbD i <;> simp_all
theorem bits_same {v c:Int} (h0:0 ≤ v) (h1:v ≤ 9223372036854775807):(bitsD .and .i64 v c = v) = (bitsD .andNot .i64 v c = 0):=by
  have key:∀ x:BitVec 64,x.toNat ≤ v.toNat → IntKind.i64.wrap (x.toNat:Int) = x.toNat:=fun x hx=>wrap_in (by omega) (by omega)
  have hv:(BitVec.ofInt 64 v).toNat = v.toNat:=by
    rw [BitVec.toNat_ofInt]
    have:v % ((2 ^ 64:Nat):Int) = v:=Int.emod_eq_of_lt h0 (by omega)
    rw [this]
  have k1:(BitVec.ofInt 64 v &&& BitVec.ofInt 64 c).toNat ≤ v.toNat:=by rw [BitVec.toNat_and,hv];exact Nat.and_le_left
  have k2:(BitVec.ofInt 64 v &&& ~~~ BitVec.ofInt 64 c).toNat ≤ v.toNat:=by rw [BitVec.toNat_and,hv];exact Nat.and_le_left
  have e1:bitsD .and .i64 v c = ((BitVec.ofInt 64 v &&& BitVec.ofInt 64 c).toNat:Int):=key _ k1
  have e2:bitsD .andNot .i64 v c = ((BitVec.ofInt 64 v &&& ~~~ BitVec.ofInt 64 c).toNat:Int):=key _ k2
  rw [e1,e2,eq_iff_iff]
  have b:=bits_iff (BitVec.ofInt 64 v) (BitVec.ofInt 64 c)
  constructor
  · intro h
    have:BitVec.ofInt 64 v &&& BitVec.ofInt 64 c = BitVec.ofInt 64 v:=BitVec.eq_of_toNat_eq (by rw [hv];omega)
    rw [b.1 this];rfl
  · intro h
    have q:(BitVec.ofInt 64 v &&& ~~~ BitVec.ofInt 64 c).toNat = 0:=by omega
    have:BitVec.ofInt 64 v &&& ~~~ BitVec.ofInt 64 c = 0#64:=BitVec.eq_of_toNat_eq (q.trans rfl)
    rw [b.2 this,hv];omega

def EdgeOk (e:Tr4) (n:Int):Prop:=0 ≤ e.1 ∧ e.1 < n ∧ 0 ≤ e.2.2.2 ∧ e.2.2.2 < n ∧ 0 ≤ e.2.1 ∧ e.2.1 ≤ 7 ∧ 0 ≤ e.2.2.1 ∧ bitsD .and .i64 e.2.2.1 e.2.1 = e.2.2.1

@[go_sem] def Γa18:FuncId → Con:=Γa17
theorem Γa18_ok:∀ g,ConOk Tryd.prog g (Γa18 g):=Γa17_ok

def Zm (n:Int) (e:Tr4):Bool:=!B (EdgeOk e n)
def Zc (xs:List Tr4):Prop:=∀ i,i < xs.length → (nth xs i).2.2.1 ≤ 9223372036854775807
set_option maxHeartbeats 2000000 in

theorem edge1_pure (p:Int) (q:Int) (r:Int) (s:Int) (n:Int) (h0:0 ≤ n) (h1:n ≤ 9223372036854775807) (h2:r ≤ 9223372036854775807):Pure Tryd.prog 51 [.st [.int .i64 p,.int .i64 q,.int .i64 r,.int .i64 s],.pd [.int .i64 n]] (.bool (Zm n (p,q,r,s))):=by
  refine Pure.of_walk Tryd.func51 rfl (by simp [Tryd.f51]) (by simp [-zd,go_sem]) fun B hK=>?_
  (repeat' (first
 | refine Qu ?_
 | refine Qc (id:=0) Γa18_ok [] (by kernel_rfl) ?_;simp [-zg,-zd,↓Qb,↓Qa,go_sem];try (refine Xn hK 2 ?_;simp [go_sem])
 | refine Qc (id:=1) Γa18_ok [10,18,24,29] (by kernel_rfl) ?_;simp [-zg,-zd,↓Qb,↓Qa,go_sem,wrap_in (x:=n - 1) (by omega) (by omega)];try (refine ⟨fun s1a=>?_,fun s1a=>?_⟩ <;> (try simp [B_iff,B_not] at s1a) <;> try (refine ⟨fun s1b=>?_,fun s1b=>?_⟩ <;> (try simp [B_iff,B_not] at s1b) <;> try (refine ⟨fun s1c=>?_,fun s1c=>?_⟩ <;> (try simp [B_iff,B_not] at s1c) <;> try (refine ⟨fun s1d=>?_,fun s1d=>?_⟩ <;> (try simp [B_iff,B_not] at s1d) <;> try (refine ⟨fun s1e=>?_,fun s1e=>?_⟩ <;> (try simp [B_iff,B_not] at s1e))))))
 | (refine Qh ?_)
 | (refine Qt ?_;simp [-zg,-zd,↓Qb,↓Qa,go_sem])
 | (refine Qs ?_;simp [-zg,-zd,↓Qb,↓Qa,go_sem])
 | (refine Qv ?_;simp [-zg,-zd,↓Qb,↓Qa,go_sem,Tryd.results51])
 | (intro hx;refine zA ?_)
 | (refine ⟨?_,?_⟩ <;> refine zA ?_)
 | (intro hx;constructor <;> intro hs)
 | (constructor <;> intro hs)
 | (refine ⟨?_,fun hs=>?_⟩;refine zA ?_)
 | (refine ⟨fun hs=>?_,?_⟩;rotate_left;refine zA ?_;rotate_left)))
  all_goals (first
 | (rw [Zm,Bool.not_eq_true',B_not];rintro ⟨g1,g2,g3,g4,g5,g6,g7,g8⟩;dsimp only at *;omega)
 | (rw [Zm,Bool.not_not,Bool.eq_iff_iff,decide_eq_true_eq,B_iff,← bits_same (by omega) h2];exact ⟨fun h=>⟨s1a.1,by dsimp only;omega,s1b.1,by dsimp only;omega,s1c.1,s1c.2,s1d,h⟩,fun h=>h.2.2.2.2.2.2.2⟩)
 | skip)
@[go_sem] def zagn:Con:=.pure fun
  | [.st [.int .i64 p,.int .i64 q,.int .i64 r,.int .i64 s],.pd [.int .i64 n]]=>((0 ≤ n) ∧ (n ≤ 9223372036854775807) ∧ (r ≤ 9223372036854775807),.bool (Zm n (p,q,r,s)))
  | _=>(False,.any)
theorem edge1_pureC_ok:ConOk Tryd.prog 51 zagn:=by
  refine ⟨Qq Tryd.func51 (by decide) rfl,fun args h=>?_⟩
  revert h
  dsimp only
  split
  · intro h
    obtain ⟨h0,h1,h2⟩:=h
    skip
    exact ⟨edge1_pure _ _ _ _ _ h0 h1 h2,by simp [go_sem]⟩
  · intro h
    exact h.elim
@[go_sem] def Γa19:FuncId → Con:=ext Γa18 51 zagn
theorem Va:∀ g,ConOk Tryd.prog g (Γa19 g):=Qp Γa18_ok edge1_pureC_ok

theorem indexEdge_pure (xs:List Tr4) (n:Int) (h0:0 ≤ n) (h1:n ≤ 9223372036854775807) (hS:Zc xs):Pure Tryd.prog 59 [li cT xs,.fn 51 [.pd [.int .i64 n]]] (.int .i64 (findI (Zm n) xs)):=by
  refine Pure.of_walk Tryd.func59 rfl (by simp [Tryd.f59]) (by simp [-zd,go_sem]) fun B hK=>?_
  (repeat' (first
 | refine Qu ?_
 | (refine Jn 0 rfl fun hm=>?_);refine Qc (id:=0) Va [] (by kernel_rfl) ?_;simp [-zg,-zd,↓Qb,↓Qa,go_sem]
 | refine Qc (id:=1) Va [] (by kernel_rfl) ?_;simp [-zg,-zd,↓Qb,↓Qa,go_sem]
 | refine Qc (id:=2) Va [] (by kernel_rfl) ?_;simp [-zg,-zd,↓Qb,↓Qa,go_sem]
 | refine Qc (id:=3) Va [] (by kernel_rfl) ?_;simp [-zg,-zd,↓Qb,↓Qa,go_sem]
 | refine Qc (id:=4) Va [] (by kernel_rfl) ?_;simp [-zg,-zd,↓Qb,↓Qa,go_sem,c9,Qg c9,zsP c9,h0,h1,hS k c9]
 | refine Qc (id:=5) Va [] (by kernel_rfl) ?_;simp [-zg,-zd,↓Qb,↓Qa,go_sem]
 | refine Qc (id:=6) Va [] (by kernel_rfl) ?_;simp [-zg,-zd,↓Qb,↓Qa,go_sem,wrapS (k:=k) (by omega)]
 | refine Qc (id:=7) Va [] (by kernel_rfl) ?_;simp [-zg,-zd,↓Qb,↓Qa,go_sem]
 | refine Qd (c:=.tmp 9) ?_;simp [-zg,-zd,↓Qb,↓Qa,go_sem];try first | (refine ⟨?_,?_⟩ <;> refine zA ?_) | (refine ⟨fun c9=>?_,fun c9=>?_⟩ <;> (try simp [B_iff,B_not] at c9))
 | refine Qd (c:=.tmp 16) ?_;simp [-zg,-zd,↓Qb,↓Qa,go_sem];try first | (refine ⟨?_,?_⟩ <;> refine zA ?_) | (refine ⟨fun c16=>?_,fun c16=>?_⟩ <;> (try simp [B_iff,B_not] at c16))
 | (refine Qh (id:=0) (Xd (ι:=Nat) (fun k:Nat=>⟨(upd (upd (upd (upd (upd (fun _=>.any) 0 (li cT xs)) 1 (.fn 51 [.pd [.int .i64 n]])) 6 (li cT xs)) 7 (.int .i64 xs.length)) 8 (.int .i64 k)),fun _=>none⟩) (fun k=>k ≤ xs.length ∧ NoneTill (fun i=>(Zm n) (nth xs i)) k) (fun k=>xs.length - k) (0) ?_ ?_ ?_);exact ⟨Nat.zero_le _,.zero _⟩;((repeat' (first | exact Ql (by assumption) | exact Qo | refine Qk ?_ ?_ | refine Qn ?_)) <;> simp [-zg,-zd,↓Qb,↓Qa,go_sem]);rintro k ⟨hk,ht⟩)
 | (refine ⟨k + 1,⟨by omega,ht.succ (by simp_all)⟩,by first | omega | (simp;done) | (simp;omega),?_⟩;((repeat' (first | exact Ql (by assumption) | exact Qo | refine Qk ?_ ?_ | refine Qn ?_)) <;> simp [-zg,-zd,↓Qb,↓Qa,go_sem]))
 | (refine Qh ?_)
 | (refine Qt ?_;simp [-zg,-zd,↓Qb,↓Qa,go_sem])
 | (refine Qs ?_;simp [-zg,-zd,↓Qb,↓Qa,go_sem])
 | (refine Qv ?_;simp [-zg,-zd,↓Qb,↓Qa,go_sem,Tryd.results59])
 | (intro hx;refine zA ?_)
 | (refine ⟨?_,?_⟩ <;> refine zA ?_)
 | (intro hx;constructor <;> intro hs)
 | (constructor <;> intro hs)
 | (refine ⟨?_,fun hs=>?_⟩;refine zA ?_)
 | (refine ⟨fun hs=>?_,?_⟩;rotate_left;refine zA ?_;rotate_left)))
  all_goals (first
 | (rw [findI_at ht c9 (by simp_all)])
 | (rw [findI_none ht (by omega)])
 | skip)
@[go_sem] def zacv:Con:=.pure fun
  | [.list n_xs c_xs,.fn 51 [.pd [.int .i64 n]]]=>((Is cT n_xs c_xs) ∧ (0 ≤ n) ∧ (n ≤ 9223372036854775807) ∧ (Zc (de cT c_xs)),.int .i64 (findI (Zm n) (de cT c_xs)))
  | _=>(False,.any)
theorem zagl:ConOk Tryd.prog 59 zacv:=by
  refine ⟨Qq Tryd.func59 (by decide) rfl,fun args h=>?_⟩
  revert h
  dsimp only
  split
  · intro h
    obtain ⟨⟨xs,rfl,rfl⟩,h0,h1,hS⟩:=h
    try simp only [Qj] at *
    exact ⟨indexEdge_pure xs _ h0 h1 hS,by simp [go_sem]⟩
  · intro h
    exact h.elim
@[go_sem] def Γa20:FuncId → Con:=ext Γa19 59 zacv
theorem Γa20_ok:∀ g,ConOk Tryd.prog g (Γa20 g):=Qp Va zagl

theorem zahe (xs:List Tr4) (n:Int) (h0:0 ≤ n) (h1:n ≤ 9223372036854775807) (hS:Zc xs):Pure Tryd.prog 50 [li cT xs,.fn 51 [.pd [.int .i64 n]]] (.bool (decide (0 ≤ findI (Zm n) xs))):=by
  refine Pure.of_walk Tryd.func50 rfl (by simp [Tryd.f50]) (by simp [-zd,go_sem]) fun B hK=>?_
  (repeat' (first
 | refine Qu ?_
 | refine Qc (id:=0) Γa20_ok [] (by kernel_rfl) ?_;simp [-zg,-zd,↓Qb,↓Qa,go_sem]
 | refine Qc (id:=1) Γa20_ok [] (by kernel_rfl) ?_;simp [-zg,-zd,↓Qb,↓Qa,go_sem,h0,h1,hS]
 | (refine Qh ?_)
 | (refine Qt ?_;simp [-zg,-zd,↓Qb,↓Qa,go_sem])
 | (refine Qs ?_;simp [-zg,-zd,↓Qb,↓Qa,go_sem])
 | (refine Qv ?_;simp [-zg,-zd,↓Qb,↓Qa,go_sem,Tryd.results50])
 | (intro hx;refine zA ?_)
 | (refine ⟨?_,?_⟩ <;> refine zA ?_)
 | (intro hx;constructor <;> intro hs)
 | (constructor <;> intro hs)
 | (refine ⟨?_,fun hs=>?_⟩;refine zA ?_)
 | (refine ⟨fun hs=>?_,?_⟩;rotate_left;refine zA ?_;rotate_left)))
@[go_sem] def zabk:Con:=.pure fun
  | [.list n_xs c_xs,.fn 51 [.pd [.int .i64 n]]]=>((Is cT n_xs c_xs) ∧ (0 ≤ n) ∧ (n ≤ 9223372036854775807) ∧ (Zc (de cT c_xs)),.bool (decide (0 ≤ findI (Zm n) (de cT c_xs))))
  | _=>(False,.any)
theorem zaem:ConOk Tryd.prog 50 zabk:=by
  refine ⟨Qq Tryd.func50 (by decide) rfl,fun args h=>?_⟩
  revert h
  dsimp only
  split
  · intro h
    obtain ⟨⟨xs,rfl,rfl⟩,h0,h1,hS⟩:=h
    try simp only [Qj] at *
    exact ⟨zahe xs _ h0 h1 hS,by simp [go_sem]⟩
  · intro h
    exact h.elim
@[go_sem] def Γa21:FuncId → Con:=ext Γa20 50 zabk
theorem Zk:∀ g,ConOk Tryd.prog g (Γa21 g):=Qp Γa20_ok zaem

def ahead (a:List Int):Nat → Int
  | 0=>-1
  | k + 1=>nth a k
def AutOk (a:List Int) (n:Nat) (c:List Tr4):Prop:=1 ≤ n ∧ n ≤ 64 ∧ (∀ i,i < a.length → ahead a i < nth a i ∧ nth a i < n) ∧ c.length ≤ 2048 ∧ ∀ i,i < c.length → EdgeOk (nth c i) n
theorem sorted_ge {a:List Int} {k:Nat} (h:AllTill (fun i=>ahead a i < nth a i) k):∀ i,i < k → (i:Int) ≤ nth a i
  | 0,hi=>by have:=h 0 hi;simp only [ahead] at this;omega
  | i + 1,hi=>by
    have:=h (i + 1) hi
    have:=sorted_ge h i (by omega)
    simp only [ahead] at *
    omega
theorem sorted_len {a:List Int} {n:Nat} (h:∀ i,i < a.length → ahead a i < nth a i ∧ nth a i < n):a.length ≤ n:=by
  rcases Nat.eq_zero_or_pos a.length with h0 | h0
  · omega
  · have h1:=sorted_ge (a:=a) (k:=a.length) (fun i hi=>(h i hi).1) (a.length - 1) (by omega)
    have h2:=(h (a.length - 1) (by omega)).2
    omega
theorem ahead_bd {a:List Int} {n k:Nat} (h:AllTill (fun i=>ahead a i < nth a i ∧ nth a i < n) k):-1 ≤ ahead a k ∧ ahead a k < n:=by
  cases k with
  | zero=>simp only [ahead];omega
  | succ k =>
    have:=h k (by omega)
    have:=sorted_ge (a:=a) (k:=k + 1) (fun i hi=>(h i hi).1) k (by omega)
    simp only [ahead];omega
theorem find_edge {c:List Tr4} {n:Int}:(0 ≤ findI (Zm n) c) = ¬ ∀ i,i < c.length → EdgeOk (nth c i) n:=by
  rw [findI_ge,eq_iff_iff]
  constructor
  · rintro ⟨i,h,e⟩ k
    rw [Zm,Bool.not_eq_true',B_not] at e
    exact e (k i h)
  · intro h
    apply Classical.byContradiction;intro h2
    apply h;intro i hi
    apply Classical.byContradiction;intro h3
    exact h2 ⟨i,hi,by rw [Zm,Bool.not_eq_true',B_not];exact h3⟩

set_option maxHeartbeats 2000000 in

theorem implAutomatonValid_pure (a:List Int) (b:List Bool) (c:List Tr4) (hS:Zc c):Pure Tryd.prog 33 [.st [li cI a,li cB b,li cT c]] (.bool (B (AutOk a b.length c))):=by
  refine Pure.of_walk Tryd.func33 rfl (by simp [Tryd.f33]) (by simp [-zd,go_sem]) fun B hK=>?_
  (repeat' (first
 | refine Qu ?_
 | refine Qc (id:=0) Zk [] (by kernel_rfl) ?_;simp [-zg,-zd,↓Qb,↓Qa,go_sem];try (refine Xn hK 1 ?_;simp [go_sem])
 | (refine Vw 1 1 ⟨rfl,rfl⟩ fun hm=>?_;refine Vw 1 0 ⟨rfl,rfl⟩ fun hma=>?_);refine Qc (id:=1) Zk [] (by kernel_rfl) ?_;simp [-zg,-zd,↓Qb,↓Qa,go_sem];try (refine Xn hK 3 ?_;simp [go_sem])
 | refine Qc (id:=2) Zk [] (by kernel_rfl) ?_;simp [-zg,-zd,↓Qb,↓Qa,go_sem]
 | refine Qc (id:=3) Zk [] (by kernel_rfl) ?_;simp [-zg,-zd,↓Qb,↓Qa,go_sem]
 | refine Qc (id:=4) Zk [] (by kernel_rfl) ?_;simp [-zg,-zd,↓Qb,↓Qa,go_sem]
 | refine Qc (id:=5) Zk [] (by kernel_rfl) ?_;simp [-zg,-zd,↓Qb,↓Qa,go_sem,c14,Qg c14,zsP c14]
 | (obtain ⟨a1,a2⟩:=ahead_bd ht);refine Qc (id:=6) Zk [] (by kernel_rfl) ?_;simp [-zg,-zd,↓Qb,↓Qa,go_sem,wrap_in (x:=ahead a k + 1) (by omega) (by omega),wrap_in (x:=(b.length:Int) - 1) (by omega) (by omega)]
 | refine Qc (id:=7) Zk [] (by kernel_rfl) ?_;simp [-zg,-zd,↓Qb,↓Qa,go_sem]
 | refine Qc (id:=8) Zk [] (by kernel_rfl) ?_;simp [-zg,-zd,↓Qb,↓Qa,go_sem]
 | refine Qc (id:=9) Zk [] (by kernel_rfl) ?_;simp [-zg,-zd,↓Qb,↓Qa,go_sem,wrapS (k:=k) (by omega)]
 | refine Qc (id:=10) Zk [28,34] (by kernel_rfl) ?_;simp [-zg,-zd,↓Qb,↓Qa,go_sem,hS,(by omega:(b.length:Int) ≤ 9223372036854775807),(by omega:b.length ≤ 9223372036854775807)];try (refine ⟨fun s10a=>?_,fun s10a=>?_⟩ <;> (try simp [B_iff,B_not] at s10a) <;> try (refine ⟨fun s10b=>?_,fun s10b=>?_⟩ <;> (try simp [B_iff,B_not] at s10b) <;> try (refine ⟨fun s10c=>?_,fun s10c=>?_⟩ <;> (try simp [B_iff,B_not] at s10c))))
 | refine Qd (c:=.tmp 14) ?_;simp [-zg,-zd,↓Qb,↓Qa,go_sem];try first | (refine ⟨?_,?_⟩ <;> refine zA ?_) | (refine ⟨fun c14=>?_,fun c14=>?_⟩ <;> (try simp [B_iff,B_not] at c14))
 | refine Qd (c:=.tmp 23) ?_;simp [-zg,-zd,↓Qb,↓Qa,go_sem];try first | (refine ⟨?_,?_⟩ <;> refine zA ?_) | (refine ⟨fun c23=>?_,fun c23=>?_⟩ <;> (try simp [B_iff,B_not] at c23))
 | (refine Qh (id:=0) (Xd (ι:=Nat) (fun k:Nat=>⟨(upd (upd (upd (upd (upd (upd (fun _=>.any) 1 (.pd [li cI a,li cB b,li cT c])) 3 (.pd [.int .i64 b.length])) 4 (.int .i64 (ahead a k))) 11 (li cI a)) 12 (.int .i64 a.length)) 13 (.int .i64 k)),fun _=>none⟩) (fun k=>k ≤ a.length ∧ AllTill (fun i=>ahead a i < nth a i ∧ nth a i < (b.length:Nat)) k) (fun k=>a.length - k) (0) ?_ ?_ ?_);exact ⟨Nat.zero_le _,.zero _⟩;((repeat' (first | exact Ql (by assumption) | exact Qo | refine Qk ?_ ?_ | refine Qn ?_)) <;> simp [-zg,-zd,↓Qb,↓Qa,go_sem,ahead]);rintro k ⟨hk,ht⟩)
 | (refine ⟨k + 1,⟨by omega,ht.succ ⟨by omega,by omega⟩⟩,by first | omega | (simp;done) | (simp;omega),?_⟩;((repeat' (first | exact Ql (by assumption) | exact Qo | refine Qk ?_ ?_ | refine Qn ?_)) <;> simp [-zg,-zd,↓Qb,↓Qa,go_sem,ahead]))
 | (refine Qh ?_)
 | (refine Qt ?_;simp [-zg,-zd,↓Qb,↓Qa,go_sem])
 | (refine Qs ?_;simp [-zg,-zd,↓Qb,↓Qa,go_sem])
 | (refine Qv ?_;simp [-zg,-zd,↓Qb,↓Qa,go_sem,Tryd.results33])
 | (intro hx;refine zA ?_)
 | (refine ⟨?_,?_⟩ <;> refine zA ?_)
 | (intro hx;constructor <;> intro hs)
 | (constructor <;> intro hs)
 | (refine ⟨?_,fun hs=>?_⟩;refine zA ?_)
 | (refine ⟨fun hs=>?_,?_⟩;rotate_left;refine zA ?_;rotate_left)))
  all_goals (first
 | (rintro ⟨g1,g2,g3,g4,g5⟩;have:=g3 k c14;omega)
 | (rintro ⟨g1,g2,g3,g4,g5⟩;omega)
 | (rw [Bool.eq_iff_iff,decide_eq_true_eq,find_edge,Bool.not_eq_true',B_not];exact ⟨fun h k=>h k.2.2.2.2,fun h k=>h ⟨by omega,by omega,fun i hi=>ht i (by omega),by omega,k⟩⟩)
 | skip)
@[go_sem] def zaaj:Con:=.pure fun
  | [.st [.list n_a c_a,.list n_b c_b,.list n_c c_c]]=>((Is cI n_a c_a) ∧ (Is cB n_b c_b) ∧ (Is cT n_c c_c) ∧ (Zc (de cT c_c)),.bool (B (AutOk (de cI c_a) (de cB c_b).length (de cT c_c))))
  | _=>(False,.any)
theorem zacn:ConOk Tryd.prog 33 zaaj:=by
  refine ⟨Qq Tryd.func33 (by decide) rfl,fun args h=>?_⟩
  revert h
  dsimp only
  split
  · intro h
    obtain ⟨⟨a,rfl,rfl⟩,⟨b,rfl,rfl⟩,⟨c,rfl,rfl⟩,hS⟩:=h
    try simp only [Qj] at *
    exact ⟨implAutomatonValid_pure a b c hS,by simp [go_sem]⟩
  · intro h
    exact h.elim
@[go_sem] def Γa22:FuncId → Con:=ext Γa21 33 zaaj
theorem Γa22_ok:∀ g,ConOk Tryd.prog g (Γa22 g):=Qp Zk zacn

@[go_sem] def Γa23:FuncId → Con:=Γa22
theorem Jh:∀ g,ConOk Tryd.prog g (Γa23 g):=Γa22_ok
end
end Go.Proofs.YtnfldmfamnhpcaaDoor.Vm

