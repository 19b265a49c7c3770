import Derived.Test.YtiilmjojffjhlaaGreatDoorJ10
import Derived.Test.YtiilmjojffjhlaaGreatDoorTr
/-
  Automata: rows of Bools, of transitions; sz, to, eq. No conditions.
-/
namespace Go.Proofs.YtiilmjojffjhlaaGreatDoor.Vm
open Go
open Nat renaming sub_pos_of_lt → zsP
open List renaming getD_eq_getElem?_getD → zg,drop_one → zd
noncomputable section
set_option linter.unusedVariables false
set_option linter.unusedSimpArgs false
set_option maxRecDepth 200000

@[go_sem] def Γa1:FuncId → Con:=Γj4
theorem Γa1_ok:∀ g,ConOk Tryz.prog g (Γa1 g):=Γj4_ok

@[go_sem] def Γa2:FuncId → Con:=Γa1
theorem Γa2_ok:∀ g,ConOk Tryz.prog g (Γa2 g):=Γa1_ok

@[go_sem] def Γa3:FuncId → Con:=Γa2
theorem Γa3_ok:∀ g,ConOk Tryz.prog g (Γa3 g):=Γa2_ok

@[go_sem] def Γa4:FuncId → Con:=Γa3
theorem Γa4_ok:∀ g,ConOk Tryz.prog g (Γa4 g):=Γa3_ok

@[go_sem] def Γa5:FuncId → Con:=Γa4
theorem Γa5_ok:∀ g,ConOk Tryz.prog g (Γa5 g):=Γa4_ok

@[go_sem] def Γa6:FuncId → Con:=Γa5
theorem Γa6_ok:∀ g,ConOk Tryz.prog g (Γa6 g):=Γa5_ok

@[go_sem] def Γa7:FuncId → Con:=Γa6
theorem Γa7_ok:∀ g,ConOk Tryz.prog g (Γa7 g):=Γa6_ok

@[go_sem] def Γa8:FuncId → Con:=Γa7
theorem Γa8_ok:∀ g,ConOk Tryz.prog g (Γa8 g):=Γa7_ok

@[go_sem] def Γa9:FuncId → Con:=Γa8
theorem Γa9_ok:∀ g,ConOk Tryz.prog g (Γa9 g):=Γa8_ok

@[go_sem] def Γa10:FuncId → Con:=Γa9
theorem Γa10_ok:∀ g,ConOk Tryz.prog g (Γa10 g):=Γa9_ok

@[go_sem] def Γa11:FuncId → Con:=Γa10
theorem zapi:∀ g,ConOk Tryz.prog g (Γa11 g):=Γa10_ok

theorem st4_tr:St4 Tryz.prog 49:=by
  refine ⟨by kernel_rfl,fun a b c d a' b' c' d' w=>?_⟩
  have hI:=Tryz.underlying3
  have hS:Tryz.prog.underlying 49 = some (.struct (Tryz.prog.fieldsOf 49)):=by kernel_rfl
  have hp:Tryz.prog.stoodInHeld 49 = false:=by kernel_rfl
  rw [show (10000:Nat) = 9999 + 1 from rfl,run_equalIn_agg w 9999 _ _ _ hS hp]
  have hz:∀ w,(sizeOf 3).run Tryz.prog w = .ok 1 w:=Zp (P:=Tryz.prog) (ty3)
  have ha:∀ w,(isAgg 3).run Tryz.prog w = .ok false w:=run_agg (P:=Tryz.prog) (ty3)
  have hf:(Tryz.prog.fieldsOf 49).toList.map (fun f=>(f.name,f.type,f.offset)) = [("From",3,0),("Care",3,1),("Value",3,2),("To",3,3)]:=by kernel_rfl
  simp only [Program.fieldsOf,Tryz.underlying49]
  simp [Op.eqFields,part,ha,run_equalIn_int w 9998 _ _ _ _ _ hI]
  by_cases h1:a = a' <;> by_cases h2:b = b' <;> by_cases h3:c = c' <;> by_cases h4:d = d' <;> simp [h1,h2,h3,h4]
@[go_sem] theorem st4_on:St4 Tryz.prog 49 = True:=eq_true st4_tr

theorem l2IntsA_pure (xs:List Int) (ys:List Int)  : Pure Tryz.prog 148 [li cI xs,li cI ys] (.bool (decide (xs = ys))):=by
  refine Pure.of_walk Tryz.func148 rfl (by simp [Tryz.f148]) (by simp [-zd,go_sem]) fun B hK=>?_
  (repeat' (first
 | refine Qt ?_
 | (refine Jb 0 rfl fun hm=>?_);refine Qc (id:=0) zapi [] (by kernel_rfl) ?_;simp [-zg,-zd,↓Qb,↓Qa,go_sem]
 | (have cy:k < ys.length:=by omega);refine Xn (id:=6) zapi mixed [] [5] (by kernel_rfl) (by kernel_rfl) ?_ ?_ <;> simp [-zg,-zd,↓Qb,↓Qa,go_sem,c14,Qk c14,zsP c14,cy,Qk cy,zsP cy]
 | refine Qc (id:=5) zapi [] (by kernel_rfl) ?_;simp [-zg,-zd,↓Qb,↓Qa,go_sem,wrapS (k:=k) (by omega)]
 | refine Qj (c:=.tmp 10) ?_;simp [-zg,-zd,↓Qb,↓Qa,go_sem];try first | (refine ⟨?_,?_⟩ <;> refine zA ?_) | (refine ⟨fun c10=>?_,fun c10=>?_⟩ <;> (try simp [B_iff,B_not] at c10))
 | refine Qj (c:=.tmp 14) ?_;simp [-zg,-zd,↓Qb,↓Qa,go_sem];try first | (refine ⟨?_,?_⟩ <;> refine zA ?_) | (refine ⟨fun c14=>?_,fun c14=>?_⟩ <;> (try simp [B_iff,B_not] at c14))
 | refine Qj (c:=.tmp 25) ?_;simp [-zg,-zd,↓Qb,↓Qa,go_sem];try first | (refine ⟨?_,?_⟩ <;> refine zA ?_) | (refine ⟨fun c25=>?_,fun c25=>?_⟩ <;> (try simp [B_iff,B_not] at c25))
 | (refine Qe (id:=0) (Qw (ι:=Nat) (fun k:Nat=>⟨(upd (upd (upd (fun _=>.any) 0 (li cI xs)) 1 (li cI ys)) 5 (.int .i64 k)),fun _=>none⟩) (fun k=>k ≤ xs.length ∧ NoneTill (neAt xs ys) k) (fun k=>xs.length - k) (0) ?_ ?_ ?_);exact ⟨Nat.zero_le _,.zero _⟩;((repeat' (first | exact Qg (by assumption) | exact Qi | refine Qf ?_ ?_ | refine Qh ?_)) <;> simp [-zg,-zd,↓Qb,↓Qa,go_sem]);rintro k ⟨hk,ht⟩)
 | (refine ⟨k + 1,⟨by omega,ht.succ (by simp [neAt];first | exact c25 | (apply Prod.ext <;> simp_all;done) | (simp_all [Prod.ext_iff];done) | simp_all)⟩,by first | omega | (simp;done) | (simp;omega),?_⟩;((repeat' (first | exact Qg (by assumption) | exact Qi | refine Qf ?_ ?_ | refine Qh ?_)) <;> simp [-zg,-zd,↓Qb,↓Qa,go_sem]))
 | (refine Qe ?_)
 | (refine Qs ?_;simp [-zg,-zd,↓Qb,↓Qa,go_sem])
 | (refine Qr ?_;simp [-zg,-zd,↓Qb,↓Qa,go_sem])
 | (refine Qq ?_;simp [-zg,-zd,↓Qb,↓Qa,go_sem,Tryz.results148])
 | (intro hx;refine zA ?_)
 | (refine ⟨?_,?_⟩ <;> refine zA ?_)
 | (intro hx;constructor <;> intro hs)
 | (constructor <;> intro hs)
 | (refine ⟨?_,fun hs=>?_⟩;refine zA ?_)
 | (refine ⟨fun hs=>?_,?_⟩;rotate_left;refine zA ?_;rotate_left)
 | (refine Qc zapi [] (by kernel_rfl) ?_;simp [-zg,-zd,↓Qb,↓Qa,go_sem])
 | fail))
  all_goals (first
 | (rintro rfl;simp at c10;done)
 | (rintro rfl;simp at c25;done)
 | exact zafi (by omega) ht (by omega)
 | skip)
@[go_sem] def zaij:Con:=.pure fun
  | [.list n_xs c_xs,.list n_ys c_ys]=>((Is cI n_xs c_xs) ∧ (Is cI n_ys c_ys),.bool (decide ((de cI c_xs) = (de cI c_ys))))
  | _=>(False,.any)
theorem zarj:ConOk Tryz.prog 148 zaij:=by
  refine ⟨Qo Tryz.func148 (by decide) rfl,fun args h=>?_⟩
  revert h
  dsimp only
  split
  · intro h
    obtain ⟨⟨xs,rfl,rfl⟩,⟨ys,rfl,rfl⟩⟩:=h
    try simp only [Qm] at *
    exact ⟨l2IntsA_pure xs ys,by simp [go_sem]⟩
  · intro h
    exact h.elim
@[go_sem] def Γa12:FuncId → Con:=ext Γa11 148 zaij
theorem zamh:∀ g,ConOk Tryz.prog g (Γa12 g):=Qn zapi zarj

theorem sEqI_pure (xs:List Int) (ys:List Int)  : Pure Tryz.prog 58 [li cI xs,li cI ys] (.bool (decide (xs = ys))):=by
  refine Pure.of_walk Tryz.func58 rfl (by simp [Tryz.f58]) (by simp [-zd,go_sem]) fun B hK=>?_
  (repeat' (first
 | refine Qt ?_
 | (refine Jb 0 rfl fun hm=>?_);refine Qc (id:=0) zamh [] (by kernel_rfl) ?_;simp [-zg,-zd,↓Qb,↓Qa,go_sem]
 | refine Qc (id:=5) zamh [] (by kernel_rfl) ?_;simp [-zg,-zd,↓Qb,↓Qa,go_sem,c14,Qk c14,zsP c14]
 | (have cy:k < ys.length:=by omega);refine Xn (id:=6) zamh mixed [] [5] (by kernel_rfl) (by kernel_rfl) ?_ ?_ <;> simp [-zg,-zd,↓Qb,↓Qa,go_sem,c14,Qk c14,zsP c14,cy,Qk cy,zsP cy]
 | refine Qc (id:=8) zamh [] (by kernel_rfl) ?_;simp [-zg,-zd,↓Qb,↓Qa,go_sem,wrapS (k:=k) (by omega)]
 | refine Qj (c:=.tmp 10) ?_;simp [-zg,-zd,↓Qb,↓Qa,go_sem];try first | (refine ⟨?_,?_⟩ <;> refine zA ?_) | (refine ⟨fun c10=>?_,fun c10=>?_⟩ <;> (try simp [B_iff,B_not] at c10))
 | refine Qj (c:=.tmp 14) ?_;simp [-zg,-zd,↓Qb,↓Qa,go_sem];try first | (refine ⟨?_,?_⟩ <;> refine zA ?_) | (refine ⟨fun c14=>?_,fun c14=>?_⟩ <;> (try simp [B_iff,B_not] at c14))
 | refine Qj (c:=.tmp 24) ?_;simp [-zg,-zd,↓Qb,↓Qa,go_sem];try first | (refine ⟨?_,?_⟩ <;> refine zA ?_) | (refine ⟨fun c24=>?_,fun c24=>?_⟩ <;> (try simp [B_iff,B_not] at c24))
 | (refine Qe (id:=0) (Qw (ι:=Nat) (fun k:Nat=>⟨(upd (upd (upd (upd (upd (fun _=>.any) 0 (li cI xs)) 1 (li cI ys)) 11 (li cI xs)) 12 (.int .i64 xs.length)) 13 (.int .i64 k)),fun _=>none⟩) (fun k=>k ≤ xs.length ∧ NoneTill (neAt xs ys) k) (fun k=>xs.length - k) (0) ?_ ?_ ?_);exact ⟨Nat.zero_le _,.zero _⟩;((repeat' (first | exact Qg (by assumption) | exact Qi | refine Qf ?_ ?_ | refine Qh ?_)) <;> simp [-zg,-zd,↓Qb,↓Qa,go_sem]);rintro k ⟨hk,ht⟩)
 | (refine ⟨k + 1,⟨by omega,ht.succ (by simp [neAt];first | exact c24 | (simp_all [Prod.ext_iff];done) | simp_all)⟩,by first | omega | (simp;done) | (simp;omega),?_⟩;((repeat' (first | exact Qg (by assumption) | exact Qi | refine Qf ?_ ?_ | refine Qh ?_)) <;> simp [-zg,-zd,↓Qb,↓Qa,go_sem]))
 | (refine Qe ?_)
 | (refine Qs ?_;simp [-zg,-zd,↓Qb,↓Qa,go_sem])
 | (refine Qr ?_;simp [-zg,-zd,↓Qb,↓Qa,go_sem])
 | (refine Qq ?_;simp [-zg,-zd,↓Qb,↓Qa,go_sem,Tryz.results58])
 | (intro hx;refine zA ?_)
 | (refine ⟨?_,?_⟩ <;> refine zA ?_)
 | (intro hx;constructor <;> intro hs)
 | (constructor <;> intro hs)
 | (refine ⟨?_,fun hs=>?_⟩;refine zA ?_)
 | (refine ⟨fun hs=>?_,?_⟩;rotate_left;refine zA ?_;rotate_left)
 | (refine Qc zamh [] (by kernel_rfl) ?_;simp [-zg,-zd,↓Qb,↓Qa,go_sem])
 | fail))
  all_goals (first
 | (rintro rfl;simp at c10;done)
 | (rintro rfl;simp at c24;done)
 | (rintro rfl;exact c24 rfl)
 | exact zafi (by omega) ht (by omega)
 | skip)
@[go_sem] def zapr:Con:=.pure fun
  | [.list n_xs c_xs,.list n_ys c_ys]=>((Is cI n_xs c_xs) ∧ (Is cI n_ys c_ys),.bool (decide ((de cI c_xs) = (de cI c_ys))))
  | _=>(False,.any)
theorem sEqI_pureC_ok:ConOk Tryz.prog 58 zapr:=by
  refine ⟨Qo Tryz.func58 (by decide) rfl,fun args h=>?_⟩
  revert h
  dsimp only
  split
  · intro h
    obtain ⟨⟨xs,rfl,rfl⟩,⟨ys,rfl,rfl⟩⟩:=h
    try simp only [Qm] at *
    exact ⟨sEqI_pure xs ys,by simp [go_sem]⟩
  · intro h
    exact h.elim
@[go_sem] def Γa13:FuncId → Con:=ext Γa12 58 zapr
theorem zamg:∀ g,ConOk Tryz.prog g (Γa13 g):=Qn zamh sEqI_pureC_ok

theorem sEqB_pure (xs:List Bool) (ys:List Bool)  : Pure Tryz.prog 59 [li cB xs,li cB ys] (.bool (decide (xs = ys))):=by
  refine Pure.of_walk Tryz.func59 rfl (by simp [Tryz.f59]) (by simp [-zd,go_sem]) fun B hK=>?_
  (repeat' (first
 | refine Qt ?_
 | (refine Jb 0 rfl fun hm=>?_);refine Qc (id:=0) zamg [] (by kernel_rfl) ?_;simp [-zg,-zd,↓Qb,↓Qa,go_sem]
 | refine Qc (id:=5) zamg [] (by kernel_rfl) ?_;simp [-zg,-zd,↓Qb,↓Qa,go_sem,c14,Qk c14,zsP c14]
 | (have cy:k < ys.length:=by omega);refine Xn (id:=6) zamg mixed [] [5] (by kernel_rfl) (by kernel_rfl) ?_ ?_ <;> simp [-zg,-zd,↓Qb,↓Qa,go_sem,c14,Qk c14,zsP c14,cy,Qk cy,zsP cy]
 | refine Qc (id:=8) zamg [] (by kernel_rfl) ?_;simp [-zg,-zd,↓Qb,↓Qa,go_sem,wrapS (k:=k) (by omega)]
 | refine Qj (c:=.tmp 10) ?_;simp [-zg,-zd,↓Qb,↓Qa,go_sem];try first | (refine ⟨?_,?_⟩ <;> refine zA ?_) | (refine ⟨fun c10=>?_,fun c10=>?_⟩ <;> (try simp [B_iff,B_not] at c10))
 | refine Qj (c:=.tmp 14) ?_;simp [-zg,-zd,↓Qb,↓Qa,go_sem];try first | (refine ⟨?_,?_⟩ <;> refine zA ?_) | (refine ⟨fun c14=>?_,fun c14=>?_⟩ <;> (try simp [B_iff,B_not] at c14))
 | refine Qj (c:=.tmp 24) ?_;simp [-zg,-zd,↓Qb,↓Qa,go_sem];try first | (refine ⟨?_,?_⟩ <;> refine zA ?_) | (refine ⟨fun c24=>?_,fun c24=>?_⟩ <;> (try simp [B_iff,B_not] at c24))
 | (refine Qe (id:=0) (Qw (ι:=Nat) (fun k:Nat=>⟨(upd (upd (upd (upd (upd (fun _=>.any) 0 (li cB xs)) 1 (li cB ys)) 11 (li cB xs)) 12 (.int .i64 xs.length)) 13 (.int .i64 k)),fun _=>none⟩) (fun k=>k ≤ xs.length ∧ NoneTill (neAt xs ys) k) (fun k=>xs.length - k) (0) ?_ ?_ ?_);exact ⟨Nat.zero_le _,.zero _⟩;((repeat' (first | exact Qg (by assumption) | exact Qi | refine Qf ?_ ?_ | refine Qh ?_)) <;> simp [-zg,-zd,↓Qb,↓Qa,go_sem]);rintro k ⟨hk,ht⟩)
 | (refine ⟨k + 1,⟨by omega,ht.succ (by simp [neAt];first | exact c24 | (simp_all [Prod.ext_iff];done) | simp_all)⟩,by first | omega | (simp;done) | (simp;omega),?_⟩;((repeat' (first | exact Qg (by assumption) | exact Qi | refine Qf ?_ ?_ | refine Qh ?_)) <;> simp [-zg,-zd,↓Qb,↓Qa,go_sem]))
 | (refine Qe ?_)
 | (refine Qs ?_;simp [-zg,-zd,↓Qb,↓Qa,go_sem])
 | (refine Qr ?_;simp [-zg,-zd,↓Qb,↓Qa,go_sem])
 | (refine Qq ?_;simp [-zg,-zd,↓Qb,↓Qa,go_sem,Tryz.results59])
 | (intro hx;refine zA ?_)
 | (refine ⟨?_,?_⟩ <;> refine zA ?_)
 | (intro hx;constructor <;> intro hs)
 | (constructor <;> intro hs)
 | (refine ⟨?_,fun hs=>?_⟩;refine zA ?_)
 | (refine ⟨fun hs=>?_,?_⟩;rotate_left;refine zA ?_;rotate_left)
 | (refine Qc zamg [] (by kernel_rfl) ?_;simp [-zg,-zd,↓Qb,↓Qa,go_sem])
 | fail))
  all_goals (first
 | (rintro rfl;simp at c10;done)
 | (rintro rfl;simp at c24;done)
 | (rintro rfl;exact c24 rfl)
 | exact zafi (by omega) ht (by omega)
 | skip)
@[go_sem] def zaps:Con:=.pure fun
  | [.list n_xs c_xs,.list n_ys c_ys]=>((Is cB n_xs c_xs) ∧ (Is cB n_ys c_ys),.bool (decide ((de cB c_xs) = (de cB c_ys))))
  | _=>(False,.any)
theorem sEqB_pureC_ok:ConOk Tryz.prog 59 zaps:=by
  refine ⟨Qo Tryz.func59 (by decide) rfl,fun args h=>?_⟩
  revert h
  dsimp only
  split
  · intro h
    obtain ⟨⟨xs,rfl,rfl⟩,⟨ys,rfl,rfl⟩⟩:=h
    try simp only [Qm] at *
    exact ⟨sEqB_pure xs ys,by simp [go_sem]⟩
  · intro h
    exact h.elim
@[go_sem] def Γa14:FuncId → Con:=ext Γa13 59 zaps
theorem zamf:∀ g,ConOk Tryz.prog g (Γa14 g):=Qn zamg sEqB_pureC_ok

theorem sEqT_pure (xs:List Tr4) (ys:List Tr4)  : Pure Tryz.prog 60 [li cT xs,li cT ys] (.bool (decide (xs = ys))):=by
  refine Pure.of_walk Tryz.func60 rfl (by simp [Tryz.f60]) (by simp [-zd,go_sem]) fun B hK=>?_
  (repeat' (first
 | refine Qt ?_
 | (refine Jb 0 rfl fun hm=>?_);refine Qc (id:=0) zamf [] (by kernel_rfl) ?_;simp [-zg,-zd,↓Qb,↓Qa,go_sem]
 | refine Qc (id:=5) zamf [] (by kernel_rfl) ?_;simp [-zg,-zd,↓Qb,↓Qa,go_sem,c14,Qk c14,zsP c14]
 | (have cy:k < ys.length:=by omega);refine Xn (id:=6) zamf mixed [] [5] (by kernel_rfl) (by kernel_rfl) ?_ ?_ <;> simp [-zg,-zd,↓Qb,↓Qa,go_sem,c14,Qk c14,zsP c14,cy,Qk cy,zsP cy]
 | refine Qc (id:=8) zamf [] (by kernel_rfl) ?_;simp [-zg,-zd,↓Qb,↓Qa,go_sem,wrapS (k:=k) (by omega)]
 | refine Qj (c:=.tmp 10) ?_;simp [-zg,-zd,↓Qb,↓Qa,go_sem];try first | (refine ⟨?_,?_⟩ <;> refine zA ?_) | (refine ⟨fun c10=>?_,fun c10=>?_⟩ <;> (try simp [B_iff,B_not] at c10))
 | refine Qj (c:=.tmp 14) ?_;simp [-zg,-zd,↓Qb,↓Qa,go_sem];try first | (refine ⟨?_,?_⟩ <;> refine zA ?_) | (refine ⟨fun c14=>?_,fun c14=>?_⟩ <;> (try simp [B_iff,B_not] at c14))
 | refine Qj (c:=.tmp 24) ?_;simp [-zg,-zd,↓Qb,↓Qa,go_sem];try first | (refine ⟨?_,?_⟩ <;> refine zA ?_) | (refine ⟨fun c24=>?_,fun c24=>?_⟩ <;> (try simp [B_iff,B_not] at c24))
 | (refine Qe (id:=0) (Qw (ι:=Nat) (fun k:Nat=>⟨(upd (upd (upd (upd (upd (fun _=>.any) 0 (li cT xs)) 1 (li cT ys)) 11 (li cT xs)) 12 (.int .i64 xs.length)) 13 (.int .i64 k)),fun _=>none⟩) (fun k=>k ≤ xs.length ∧ NoneTill (neAt xs ys) k) (fun k=>xs.length - k) (0) ?_ ?_ ?_);exact ⟨Nat.zero_le _,.zero _⟩;((repeat' (first | exact Qg (by assumption) | exact Qi | refine Qf ?_ ?_ | refine Qh ?_)) <;> simp [-zg,-zd,↓Qb,↓Qa,go_sem]);rintro k ⟨hk,ht⟩)
 | (refine ⟨k + 1,⟨by omega,ht.succ (by simp [neAt];first | exact c24 | (simp_all [Prod.ext_iff];done) | simp_all)⟩,by first | omega | (simp;done) | (simp;omega),?_⟩;((repeat' (first | exact Qg (by assumption) | exact Qi | refine Qf ?_ ?_ | refine Qh ?_)) <;> simp [-zg,-zd,↓Qb,↓Qa,go_sem]))
 | (refine Qe ?_)
 | (refine Qs ?_;simp [-zg,-zd,↓Qb,↓Qa,go_sem])
 | (refine Qr ?_;simp [-zg,-zd,↓Qb,↓Qa,go_sem])
 | (refine Qq ?_;simp [-zg,-zd,↓Qb,↓Qa,go_sem,Tryz.results60])
 | (intro hx;refine zA ?_)
 | (refine ⟨?_,?_⟩ <;> refine zA ?_)
 | (intro hx;constructor <;> intro hs)
 | (constructor <;> intro hs)
 | (refine ⟨?_,fun hs=>?_⟩;refine zA ?_)
 | (refine ⟨fun hs=>?_,?_⟩;rotate_left;refine zA ?_;rotate_left)
 | (refine Qc zamf [] (by kernel_rfl) ?_;simp [-zg,-zd,↓Qb,↓Qa,go_sem])
 | fail))
  all_goals (first
 | (rintro rfl;simp at c10;done)
 | (rintro rfl;simp at c24;done)
 | (rintro rfl;exact c24 rfl)
 | exact zafi (by omega) ht (by omega)
 | skip)
@[go_sem] def zapq:Con:=.pure fun
  | [.list n_xs c_xs,.list n_ys c_ys]=>((Is cT n_xs c_xs) ∧ (Is cT n_ys c_ys),.bool (decide ((de cT c_xs) = (de cT c_ys))))
  | _=>(False,.any)
theorem sEqT_pureC_ok:ConOk Tryz.prog 60 zapq:=by
  refine ⟨Qo Tryz.func60 (by decide) rfl,fun args h=>?_⟩
  revert h
  dsimp only
  split
  · intro h
    obtain ⟨⟨xs,rfl,rfl⟩,⟨ys,rfl,rfl⟩⟩:=h
    try simp only [Qm] at *
    exact ⟨sEqT_pure xs ys,by simp [go_sem]⟩
  · intro h
    exact h.elim
@[go_sem] def Γa15:FuncId → Con:=ext Γa14 60 zapq
theorem Γa15_ok:∀ g,ConOk Tryz.prog g (Γa15 g):=Qn zamf sEqT_pureC_ok

theorem zaip (a:List Int) (b:List Bool) (c:List Tr4) (a':List Int) (b':List Bool) (c':List Tr4)  : Pure Tryz.prog 23 [.st [li cI a,li cB b,li cT c],.st [li cI a',li cB b',li cT c']] (.bool (decide (a = a') && decide (b = b') && decide (c = c'))):=by
  refine Pure.of_walk Tryz.func23 rfl (by simp [Tryz.f23]) (by simp [-zd,go_sem]) fun B hK=>?_
  (repeat' (first
 | refine Qt ?_
 | refine Qc (id:=0) Γa15_ok [] (by kernel_rfl) ?_;simp [-zg,-zd,↓Qb,↓Qa,go_sem];try (refine Xh hK 2 ?_;simp [go_sem];refine Xh hK 3 ?_;simp [go_sem])
 | refine Qc (id:=1) Γa15_ok [10,17] (by kernel_rfl) ?_;simp [-zg,-zd,↓Qb,↓Qa,go_sem];try (refine ⟨fun s1a=>?_,fun s1a=>?_⟩ <;> (try simp [B_iff,B_not] at s1a) <;> try (refine ⟨fun s1b=>?_,fun s1b=>?_⟩ <;> (try simp [B_iff,B_not] at s1b) <;> try (refine ⟨fun s1c=>?_,fun s1c=>?_⟩ <;> (try simp [B_iff,B_not] at s1c))))
 | (refine Qe ?_)
 | (refine Qs ?_;simp [-zg,-zd,↓Qb,↓Qa,go_sem])
 | (refine Qr ?_;simp [-zg,-zd,↓Qb,↓Qa,go_sem])
 | (refine Qq ?_;simp [-zg,-zd,↓Qb,↓Qa,go_sem,Tryz.results23])
 | (intro hx;refine zA ?_)
 | (refine ⟨?_,?_⟩ <;> refine zA ?_)
 | (intro hx;constructor <;> intro hs)
 | (constructor <;> intro hs)
 | (refine ⟨?_,fun hs=>?_⟩;refine zA ?_)
 | (refine ⟨fun hs=>?_,?_⟩;rotate_left;refine zA ?_;rotate_left)))
  all_goals (first
 | (simp_all;done)
 | (intros;simp_all;done)
 | skip)
@[go_sem] def zabi:Con:=.pure fun
  | [.st [.list n_a c_a,.list n_b c_b,.list n_c c_c],.st [.list n_a' c_a',.list n_b' c_b',.list n_c' c_c']]=>((Is cI n_a c_a) ∧ (Is cB n_b c_b) ∧ (Is cT n_c c_c) ∧ (Is cI n_a' c_a') ∧ (Is cB n_b' c_b') ∧ (Is cT n_c' c_c'),.bool (decide ((de cI c_a) = (de cI c_a')) && decide ((de cB c_b) = (de cB c_b')) && decide ((de cT c_c) = (de cT c_c'))))
  | _=>(False,.any)
theorem zafv:ConOk Tryz.prog 23 zabi:=by
  refine ⟨Qo Tryz.func23 (by decide) rfl,fun args h=>?_⟩
  revert h
  dsimp only
  split
  · intro h
    obtain ⟨⟨a,rfl,rfl⟩,⟨b,rfl,rfl⟩,⟨c,rfl,rfl⟩,⟨a',rfl,rfl⟩,⟨b',rfl,rfl⟩,⟨c',rfl,rfl⟩⟩:=h
    try simp only [Qm] at *
    exact ⟨zaip a b c a' b' c',by simp [go_sem]⟩
  · intro h
    exact h.elim
@[go_sem] def Γa16:FuncId → Con:=ext Γa15 23 zabi
theorem Γa16_ok:∀ g,ConOk Tryz.prog g (Γa16 g):=Qn Γa15_ok zafv

@[go_sem] def Γa17:FuncId → Con:=Γa16
theorem Γa17_ok:∀ g,ConOk Tryz.prog g (Γa17 g):=Γa16_ok


def EdgeOk (e:Tr4) (n:Int):Prop:=0 ≤ e.1 ∧ e.1 < n ∧ 0 ≤ e.2.2.2 ∧ e.2.2.2 < n ∧ 0 ≤ e.2.1 ∧ e.2.1 ≤ 7 ∧ 0 ≤ e.2.2.1 ∧ bitsD .and .i64 e.2.2.1 e.2.1 = e.2.2.1

set_option maxHeartbeats 2000000 in

theorem l7Edge_pure (p:Int) (q:Int) (r:Int) (s:Int) (n:Int)  : Pure Tryz.prog 57 [.st [.int .i64 p,.int .i64 q,.int .i64 r,.int .i64 s],.int .i64 n] (.bool (B (EdgeOk (p,q,r,s) n))):=by
  refine Pure.of_walk Tryz.func57 rfl (by simp [Tryz.f57]) (by simp [-zd,go_sem]) fun B hK=>?_
  (repeat' (first
 | refine Qt ?_
 | refine Qc (id:=0) Γa17_ok [] (by kernel_rfl) ?_;simp [-zg,-zd,↓Qb,↓Qa,go_sem];try (refine Xh hK 2 ?_;simp [go_sem])
 | refine Qc (id:=1) Γa17_ok [8,14,19,25,30,35,40] (by kernel_rfl) ?_;simp [-zg,-zd,↓Qb,↓Qa,go_sem];try (refine ⟨fun s1a=>?_,fun s1a=>?_⟩ <;> (try simp [B_iff,B_not] at s1a) <;> try (refine ⟨fun s1b=>?_,fun s1b=>?_⟩ <;> (try simp [B_iff,B_not] at s1b) <;> try (refine ⟨fun s1c=>?_,fun s1c=>?_⟩ <;> (try simp [B_iff,B_not] at s1c) <;> try (refine ⟨fun s1d=>?_,fun s1d=>?_⟩ <;> (try simp [B_iff,B_not] at s1d) <;> try (refine ⟨fun s1e=>?_,fun s1e=>?_⟩ <;> (try simp [B_iff,B_not] at s1e) <;> try (refine ⟨fun s1f=>?_,fun s1f=>?_⟩ <;> (try simp [B_iff,B_not] at s1f) <;> try (refine ⟨fun s1g=>?_,fun s1g=>?_⟩ <;> (try simp [B_iff,B_not] at s1g) <;> try (refine ⟨fun s1h=>?_,fun s1h=>?_⟩ <;> (try simp [B_iff,B_not] at s1h)))))))))
 | (refine Qe ?_)
 | (refine Qs ?_;simp [-zg,-zd,↓Qb,↓Qa,go_sem])
 | (refine Qr ?_;simp [-zg,-zd,↓Qb,↓Qa,go_sem])
 | (refine Qq ?_;simp [-zg,-zd,↓Qb,↓Qa,go_sem,Tryz.results57])
 | (intro hx;refine zA ?_)
 | (refine ⟨?_,?_⟩ <;> refine zA ?_)
 | (intro hx;constructor <;> intro hs)
 | (constructor <;> intro hs)
 | (refine ⟨?_,fun hs=>?_⟩;refine zA ?_)
 | (refine ⟨fun hs=>?_,?_⟩;rotate_left;refine zA ?_;rotate_left)))
  all_goals (first
 | (rintro ⟨g1,g2,g3,g4,g5,g6,g7,g8⟩;dsimp only at *;omega)
 | (rw [Bool.eq_iff_iff,B_iff,decide_eq_true_eq];exact ⟨fun h=>⟨by assumption,by assumption,by assumption,by assumption,by assumption,by assumption,by assumption,h⟩,fun h=>h.2.2.2.2.2.2.2⟩)
 | skip)
@[go_sem] def zakc:Con:=.pure fun
  | [.st [.int .i64 p,.int .i64 q,.int .i64 r,.int .i64 s],.int .i64 n]=>(True,.bool (B (EdgeOk (p,q,r,s) n)))
  | _=>(False,.any)
theorem zasx:ConOk Tryz.prog 57 zakc:=by
  refine ⟨Qo Tryz.func57 (by decide) rfl,fun args h=>?_⟩
  revert h
  dsimp only
  split
  · intro h
    skip
    skip
    exact ⟨l7Edge_pure _ _ _ _ _,by simp [go_sem]⟩
  · intro h
    exact h.elim
@[go_sem] def Γa18:FuncId → Con:=ext Γa17 57 zakc
theorem Γa18_ok:∀ g,ConOk Tryz.prog g (Γa18 g):=Qn Γa17_ok zasx

def zakt (xs:List Tr4):Prop:=∀ i,i < xs.length → (nth xs i).2.2.1 ≤ 9223372036854775807
@[go_sem] def Γa19:FuncId → Con:=Γa18
theorem Γa19_ok:∀ g,ConOk Tryz.prog g (Γa19 g):=Γa18_ok

@[go_sem] def Γa20:FuncId → Con:=Γa19
theorem Γa20_ok:∀ g,ConOk Tryz.prog g (Γa20 g):=Γa19_ok

@[go_sem] def Γa21:FuncId → Con:=Γa20
theorem Γa21_ok:∀ g,ConOk Tryz.prog g (Γa21 g):=Γa20_ok

def ahead (a:List Int):Nat → Int
  | 0=>-1
  | k + 1=>nth a k
def AutOk (a:List Int) (n:Nat) (c:List Tr4):Prop:=1 ≤ n ∧ n ≤ 64 ∧ (∀ i,i < a.length → ahead a i < nth a i ∧ nth a i < n) ∧ c.length ≤ 2048 ∧ ∀ i,i < c.length → EdgeOk (nth c i) n
theorem zaoi {a:List Int} {k:Nat} (h:AllTill (fun i=>ahead a i < nth a i) k):∀ i,i < k → (i:Int) ≤ nth a i
  | 0,hi=>by have:=h 0 hi;simp only [ahead] at this;omega
  | i + 1,hi=>by
    have:=h (i + 1) hi
    have:=zaoi h i (by omega)
    simp only [ahead] at *
    omega
theorem sorted_len {a:List Int} {n:Nat} (h:∀ i,i < a.length → ahead a i < nth a i ∧ nth a i < n):a.length ≤ n:=by
  rcases Nat.eq_zero_or_pos a.length with h0 | h0
  · omega
  · have h1:=zaoi (a:=a) (k:=a.length) (fun i hi=>(h i hi).1) (a.length - 1) (by omega)
    have h2:=(h (a.length - 1) (by omega)).2
    omega
theorem ahead_pos {a:List Int} {k:Nat} (h:0 < k):ahead a k = nth a (k - 1):=by
  cases k with
  | zero=>omega
  | succ k=>rfl
@[go_sem] def Γa22:FuncId → Con:=Γa21
theorem Vv:∀ g,ConOk Tryz.prog g (Γa22 g):=Γa21_ok

set_option maxHeartbeats 2000000 in

theorem zaht (a:List Int) (b:List Bool) (c:List Tr4) (hS:zakt c):Pure Tryz.prog 22 [.st [li cI a,li cB b,li cT c]] (.bool (B (AutOk a b.length c))):=by
  refine Pure.of_walk Tryz.func22 rfl (by simp [Tryz.f22]) (by simp [-zd,go_sem]) fun B hK=>?_
  (repeat' (first
 | refine Qt ?_
 | refine Qc (id:=0) Vv [] (by kernel_rfl) ?_;simp [-zg,-zd,↓Qb,↓Qa,go_sem];try (refine Xh hK 1 ?_;simp [go_sem])
 | (refine Wk 1 1 ⟨rfl,rfl⟩ fun hm=>?_;refine Wk 1 0 ⟨rfl,rfl⟩ fun hma=>?_);refine Qc (id:=1) Vv [] (by kernel_rfl) ?_;simp [-zg,-zd,↓Qb,↓Qa,go_sem]
 | refine Qc (id:=2) Vv [11,15,22] (by kernel_rfl) ?_;simp [-zg,-zd,↓Qb,↓Qa,go_sem];try (refine ⟨fun s2a=>?_,fun s2a=>?_⟩ <;> (try simp [B_iff,B_not] at s2a) <;> try (refine ⟨fun s2b=>?_,fun s2b=>?_⟩ <;> (try simp [B_iff,B_not] at s2b) <;> try (refine ⟨fun s2c=>?_,fun s2c=>?_⟩ <;> (try simp [B_iff,B_not] at s2c) <;> try (refine ⟨fun s2d=>?_,fun s2d=>?_⟩ <;> (try simp [B_iff,B_not] at s2d)))))
 | refine Xn (id:=7) Vv mixed [41,50,53] [1,4] (by kernel_rfl) (by kernel_rfl) ?_ ?_ <;> simp [-zg,-zd,↓Qb,↓Qa,go_sem,(show k = 0 from h0),(show 0 < a.length by omega),Qk c32,zsP c32];try (refine ⟨fun s7a=>?_,fun s7a=>?_⟩ <;> (try simp [B_iff,B_not] at s7a) <;> try (refine ⟨fun s7b=>?_,fun s7b=>?_⟩ <;> (try simp [B_iff,B_not] at s7b) <;> try (refine ⟨fun s7c=>?_,fun s7c=>?_⟩ <;> (try simp [B_iff,B_not] at s7c) <;> try (refine ⟨fun s7d=>?_,fun s7d=>?_⟩ <;> (try simp [B_iff,B_not] at s7d)))))
 | refine Xn (id:=7) Vv mixed [41,50,53] [1,4] (by kernel_rfl) (by kernel_rfl) ?_ ?_ <;> simp [-zg,-zd,↓Qb,↓Qa,go_sem,(show 0 < k by omega),c32,Qk c32,zsP c32,Xa (x:=(k:Int) - 1) (by omega) (by omega),(show (k - 1) < a.length by omega),(show (0:Int) ≤ (k:Int) - 1 by omega),(show (k:Int) - 1 < a.length by omega),(show (1:Int) ≤ (k:Int) by omega),(show 0 < a.length - (k - 1) by omega),(show ((k:Int) - 1).toNat = k - 1 by omega)];try (refine ⟨fun s7a=>?_,fun s7a=>?_⟩ <;> (try simp [B_iff,B_not] at s7a) <;> try (refine ⟨fun s7b=>?_,fun s7b=>?_⟩ <;> (try simp [B_iff,B_not] at s7b) <;> try (refine ⟨fun s7c=>?_,fun s7c=>?_⟩ <;> (try simp [B_iff,B_not] at s7c) <;> try (refine ⟨fun s7d=>?_,fun s7d=>?_⟩ <;> (try simp [B_iff,B_not] at s7d)))))
 | refine Qc (id:=6) Vv [] (by kernel_rfl) ?_;simp [-zg,-zd,↓Qb,↓Qa,go_sem,wrapS (k:=k) (by omega),(by decide:IntKind.i64.wrap 1 = 1)]
 | refine Qc (id:=12) Vv [] (by kernel_rfl) ?_;simp [-zg,-zd,↓Qb,↓Qa,go_sem,c72,Qk c72,zsP c72]
 | refine Qc (id:=11) Vv [] (by kernel_rfl) ?_;simp [-zg,-zd,↓Qb,↓Qa,go_sem,wrapS (k:=i) (by omega)]
 | refine Qj (c:=.tmp 32) ?_;simp [-zg,-zd,↓Qb,↓Qa,go_sem];try first | (refine ⟨?_,?_⟩ <;> refine zA ?_) | (refine ⟨fun c32=>?_,fun c32=>?_⟩ <;> (try simp [B_iff,B_not] at c32))
 | refine Qj (c:=.tmp 72) ?_;simp [-zg,-zd,↓Qb,↓Qa,go_sem];try first | (refine ⟨?_,?_⟩ <;> refine zA ?_) | (refine ⟨fun c72=>?_,fun c72=>?_⟩ <;> (try simp [B_iff,B_not] at c72))
 | refine Qj (c:=.tmp 82) ?_;simp [-zg,-zd,↓Qb,↓Qa,go_sem];try first | (refine ⟨?_,?_⟩ <;> refine zA ?_) | (refine ⟨fun c82=>?_,fun c82=>?_⟩ <;> (try simp [B_iff,B_not] at c82))
 | (refine Qe (id:=0) (Qw (ι:=Nat) (fun k:Nat=>⟨(upd (upd (upd (fun _=>.any) 1 (.pd [li cI a,li cB b,li cT c])) 3 (.int .i64 b.length)) 4 (.int .i64 k)),fun _=>none⟩) (fun k=>k ≤ a.length ∧ AllTill (fun i=>ahead a i < nth a i ∧ nth a i < (b.length:Nat)) k) (fun k=>a.length - k) (0) ?_ ?_ ?_);exact ⟨Nat.zero_le _,.zero _⟩;((repeat' (first | exact Qg (by assumption) | exact Qi | refine Qf ?_ ?_ | refine Qh ?_)) <;> simp [-zg,-zd,↓Qb,↓Qa,go_sem]);rintro k ⟨hk,ht⟩;obtain ⟨k0,h0⟩ | ⟨j,h0⟩:(∃ z:Nat,k = 0) ∨ ∃ j,k = j + 1:=(by rcases k with _ | j;exact .inl ⟨0,rfl⟩;exact .inr ⟨j,rfl⟩))
 | (refine ⟨k + 1,⟨by omega,ht.succ (by first | (subst h0;simp only [ahead];omega) | (show ahead a k < nth a k ∧ nth a k < ((b.length:Nat):Int);rw [ahead_pos (by omega)];omega))⟩,by first | omega | (simp;done) | (simp;omega),?_⟩;((repeat' (first | exact Qg (by assumption) | exact Qi | refine Qf ?_ ?_ | refine Qh ?_)) <;> simp [-zg,-zd,↓Qb,↓Qa,go_sem,h0]))
 | (refine Qe (id:=2) (Qw (ι:=Nat) (fun i:Nat=>⟨(upd (upd (upd (fun _=>.any) 1 (.pd [li cI a,li cB b,li cT c])) 3 (.int .i64 b.length)) 5 (.int .i64 i)),fun _=>none⟩) (fun i=>i ≤ c.length ∧ AllTill (fun j=>EdgeOk (nth c j) (b.length:Nat)) i) (fun i=>c.length - i) (0) ?_ ?_ ?_);exact ⟨Nat.zero_le _,.zero _⟩;((repeat' (first | exact Qg (by assumption) | exact Qi | refine Qf ?_ ?_ | refine Qh ?_)) <;> simp [-zg,-zd,↓Qb,↓Qa,go_sem]);rintro i ⟨hi,hu⟩)
 | (refine ⟨i + 1,⟨by omega,hu.succ c82⟩,by first | omega | (simp;done) | (simp;omega),?_⟩;((repeat' (first | exact Qg (by assumption) | exact Qi | refine Qf ?_ ?_ | refine Qh ?_)) <;> simp [-zg,-zd,↓Qb,↓Qa,go_sem]))
 | (refine Qe ?_)
 | (refine Qs ?_;simp [-zg,-zd,↓Qb,↓Qa,go_sem])
 | (refine Qr ?_;simp [-zg,-zd,↓Qb,↓Qa,go_sem])
 | (refine Qq ?_;simp [-zg,-zd,↓Qb,↓Qa,go_sem,Tryz.results22])
 | (intro hx;refine zA ?_)
 | (refine ⟨?_,?_⟩ <;> refine zA ?_)
 | (intro hx;constructor <;> intro hs)
 | (constructor <;> intro hs)
 | (refine ⟨?_,fun hs=>?_⟩;refine zA ?_)
 | (refine ⟨fun hs=>?_,?_⟩;rotate_left;refine zA ?_;rotate_left)
 | (refine Qj ?_;simp [-zg,-zd,↓Qb,↓Qa,go_sem];try first | (refine ⟨?_,?_⟩ <;> refine zA ?_) | (refine ⟨fun cz=>?_,fun cz=>?_⟩ <;> (try simp [B_iff,B_not] at cz)))
 | (refine Qc Vv [] (by kernel_rfl) ?_;simp [-zg,-zd,↓Qb,↓Qa,go_sem])
 | fail))
  all_goals (first
 | (rintro ⟨g1,g2,g3,g4,g5⟩;have q:=g3 k c32;subst h0;simp only [ahead] at q;omega)
 | (rintro ⟨g1,g2,g3,g4,g5⟩;have q:=g3 k c32;rw [ahead_pos (by omega)] at q;have q2:=zaoi (a:=a) (k:=k + 1) (fun i hi=>(g3 i (by omega)).1) k (by omega);omega)
 | (rintro ⟨g1,g2,g3,g4,g5⟩;omega)
 | (intro h;have:=sorted_len h.2.2.1;omega)
 | (rintro ⟨g1,g2,g3,g4,g5⟩;exact c82 (g5 i c72))
 | exact ⟨by omega,by omega,fun j hj=>ht j (by omega),by omega,fun j hj=>hu j (by omega)⟩
 | skip)
  all_goals trace_state
@[go_sem] def zabb:Con:=.pure fun
  | [.st [.list n_a c_a,.list n_b c_b,.list n_c c_c]]=>((Is cI n_a c_a) ∧ (Is cB n_b c_b) ∧ (Is cT n_c c_c) ∧ (zakt (de cT c_c)),.bool (B (AutOk (de cI c_a) (de cB c_b).length (de cT c_c))))
  | _=>(False,.any)
theorem zafj:ConOk Tryz.prog 22 zabb:=by
  refine ⟨Qo Tryz.func22 (by decide) rfl,fun args h=>?_⟩
  revert h
  dsimp only
  split
  · intro h
    obtain ⟨⟨a,rfl,rfl⟩,⟨b,rfl,rfl⟩,⟨c,rfl,rfl⟩,hS⟩:=h
    try simp only [Qm] at *
    exact ⟨zaht a b c hS,by simp [go_sem]⟩
  · intro h
    exact h.elim
@[go_sem] def Γa23:FuncId → Con:=ext Γa22 22 zabb
theorem Γa23_ok:∀ g,ConOk Tryz.prog g (Γa23 g):=Qn Vv zafj

end
end Go.Proofs.YtiilmjojffjhlaaGreatDoor.Vm

