import Derived.Test.YtiilmjojffjhlaaGreatDoorKJ10
import Derived.Test.YtiilmjojffjhlaaGreatDoorKTr
/-
  Automata: rows of Bools, of transitions; sz, to, eq. No conditions.
-/
namespace Go.Proofs.YtiilmjojffjhlaaGreatDoor.Vm
open Go
open Nat renaming sub_pos_of_lt → zsP
open List renaming getD_eq_getElem?_getD → zg,drop_one → zd
noncomputable section
set_option linter.unusedVariables false
set_option linter.unusedSimpArgs false
set_option maxRecDepth 200000

@[go_sem] def Γa1:FuncId → Con:=Γj4
theorem Γa1_ok:∀ g,ConOk Tryz.prog g (Γa1 g):=Γj4_ok

@[go_sem] def Γa2:FuncId → Con:=Γa1
theorem Γa2_ok:∀ g,ConOk Tryz.prog g (Γa2 g):=Γa1_ok

@[go_sem] def Γa3:FuncId → Con:=Γa2
theorem Γa3_ok:∀ g,ConOk Tryz.prog g (Γa3 g):=Γa2_ok

@[go_sem] def Γa4:FuncId → Con:=Γa3
theorem Γa4_ok:∀ g,ConOk Tryz.prog g (Γa4 g):=Γa3_ok

@[go_sem] def Γa5:FuncId → Con:=Γa4
theorem Jm:∀ g,ConOk Tryz.prog g (Γa5 g):=Γa4_ok

theorem eqBoolS_pure (xs:List Bool) (ys:List Bool)  : Pure Tryz.prog 34 [li cB xs,li cB ys] (.bool (decide (xs = ys))):=by
  refine Pure.of_walk Tryz.func34 rfl (by simp [Tryz.f34]) (by simp [-zd,go_sem]) fun B hK=>?_
  (repeat' (first
 | refine Qr ?_
 | (refine AW_len 0 rfl fun hm=>?_);refine Qc (id:=0) Jm [] (by kernel_rfl) ?_;simp [-zg,-zd,↓Qb,↓Qa,go_sem]
 | refine Qc (id:=1) Jm [] (by kernel_rfl) ?_;simp [-zg,-zd,↓Qb,↓Qa,go_sem]
 | refine Qc (id:=2) Jm [] (by kernel_rfl) ?_;simp [-zg,-zd,↓Qb,↓Qa,go_sem]
 | refine Qc (id:=3) Jm [] (by kernel_rfl) ?_;simp [-zg,-zd,↓Qb,↓Qa,go_sem]
 | refine Qc (id:=4) Jm [] (by kernel_rfl) ?_;simp [-zg,-zd,↓Qb,↓Qa,go_sem]
 | (have cy:k < ys.length:=by omega);refine Zf (id:=6) Jm mixed [] [5] (by kernel_rfl) (by kernel_rfl) (by simp [-zg,-zd,↓Qb,↓Qa,go_sem,c14,Qh c14,zsP c14,cy,Qh cy,zsP cy]) ?_;simp [-zg,-zd,↓Qb,↓Qa,go_sem,c14,Qh c14,zsP c14,cy,Qh cy,zsP cy]
 | refine Qc (id:=7) Jm [] (by kernel_rfl) ?_;simp [-zg,-zd,↓Qb,↓Qa,go_sem]
 | refine Qc (id:=5) Jm [] (by kernel_rfl) ?_;simp [-zg,-zd,↓Qb,↓Qa,go_sem,wrapS (k:=k) (by omega)]
 | refine Qc (id:=8) Jm [] (by kernel_rfl) ?_;simp [-zg,-zd,↓Qb,↓Qa,go_sem]
 | refine Qf (c:=.tmp 10) ?_;simp [-zg,-zd,↓Qb,↓Qa,go_sem];try first | (refine ⟨?_,?_⟩ <;> refine zA ?_) | (refine ⟨fun c10=>?_,fun c10=>?_⟩ <;> (try simp [B_iff,B_not] at c10))
 | refine Qf (c:=.tmp 14) ?_;simp [-zg,-zd,↓Qb,↓Qa,go_sem];try first | (refine ⟨?_,?_⟩ <;> refine zA ?_) | (refine ⟨fun c14=>?_,fun c14=>?_⟩ <;> (try simp [B_iff,B_not] at c14))
 | refine Qf (c:=.tmp 25) ?_;simp [-zg,-zd,↓Qb,↓Qa,go_sem];try first | (refine ⟨?_,?_⟩ <;> refine zA ?_) | (refine ⟨fun c25=>?_,fun c25=>?_⟩ <;> (try simp [B_iff,B_not] at c25))
 | (refine Qg (id:=0) (Xc (ι:=Nat) (fun k:Nat=>⟨(upd (upd (upd (fun _=>.any) 0 (li cB xs)) 1 (li cB ys)) 5 (.int .i64 k)),fun _=>none⟩) (fun k=>k ≤ xs.length ∧ NoneTill (neAt xs ys) k) (fun k=>xs.length - k) (0) ?_ ?_ ?_);exact ⟨Nat.zero_le _,.zero _⟩;((repeat' (first | exact Qj (by assumption) | exact Ql | refine Qm ?_ ?_ | refine Qk ?_)) <;> simp [-zg,-zd,↓Qb,↓Qa,go_sem]);rintro k ⟨hk,ht⟩)
 | (refine ⟨k + 1,⟨by omega,ht.succ (by simp [neAt];first | exact c25 | (apply Prod.ext <;> simp_all;done) | (simp_all [Prod.ext_iff];done) | simp_all)⟩,by first | omega | (simp;done) | (simp;omega),?_⟩;((repeat' (first | exact Qj (by assumption) | exact Ql | refine Qm ?_ ?_ | refine Qk ?_)) <;> simp [-zg,-zd,↓Qb,↓Qa,go_sem]))
 | (refine Qg ?_)
 | (refine Qq ?_;simp [-zg,-zd,↓Qb,↓Qa,go_sem])
 | (refine Qp ?_;simp [-zg,-zd,↓Qb,↓Qa,go_sem])
 | (refine Qs ?_;simp [-zg,-zd,↓Qb,↓Qa,go_sem,Tryz.results34])
 | (intro hx;refine zA ?_)
 | (refine ⟨?_,?_⟩ <;> refine zA ?_)
 | (intro hx;constructor <;> intro hs)
 | (constructor <;> intro hs)
 | (refine ⟨?_,fun hs=>?_⟩;refine zA ?_)
 | (refine ⟨fun hs=>?_,?_⟩;rotate_left;refine zA ?_;rotate_left)))
  all_goals (first
 | (rintro rfl;simp at c10;done)
 | (rintro rfl;simp at c25;done)
 | exact zaaw (by omega) ht (by omega)
 | skip)
@[go_sem] def zacd:Con:=.pure fun
  | [.list n_xs c_xs,.list n_ys c_ys]=>((Is cB n_xs c_xs) ∧ (Is cB n_ys c_ys),.bool (decide ((de cB c_xs) = (de cB c_ys))))
  | _=>(False,.any)
theorem zagb:ConOk Tryz.prog 34 zacd:=by
  refine ⟨Qn Tryz.func34 (by decide) rfl,fun args h=>?_⟩
  revert h
  dsimp only
  split
  · intro h
    obtain ⟨⟨xs,rfl,rfl⟩,⟨ys,rfl,rfl⟩⟩:=h
    try simp only [Xb] at *
    exact ⟨eqBoolS_pure xs ys,by simp [go_sem]⟩
  · intro h
    exact h.elim
@[go_sem] def Γa6:FuncId → Con:=ext Γa5 34 zacd
theorem Ja:∀ g,ConOk Tryz.prog g (Γa6 g):=Qu Jm zagb

theorem zaej (p:Int) (q:Int) (r:Int) (s:Int) (p':Int) (q':Int) (r':Int) (s':Int)  : Pure Tryz.prog 69 [.st [.int .i64 p,.int .i64 q,.int .i64 r,.int .i64 s],.st [.int .i64 p',.int .i64 q',.int .i64 r',.int .i64 s']] (.bool (decide (p = p') && decide (q = q') && decide (r = r') && decide (s = s'))):=by
  refine Pure.of_walk Tryz.func69 rfl (by simp [Tryz.f69]) (by simp [-zd,go_sem]) fun B hK=>?_
  (repeat' (first
 | refine Qr ?_
 | refine Qc (id:=0) Ja [] (by kernel_rfl) ?_;simp [-zg,-zd,↓Qb,↓Qa,go_sem];try (refine Xm hK 2 ?_;simp [go_sem];refine Xm hK 3 ?_;simp [go_sem])
 | refine Qc (id:=1) Ja [] (by kernel_rfl) ?_;simp [-zg,-zd,↓Qb,↓Qa,go_sem]
 | refine Qc (id:=2) Ja [] (by kernel_rfl) ?_;simp [-zg,-zd,↓Qb,↓Qa,go_sem]
 | refine Qc (id:=3) Ja [] (by kernel_rfl) ?_;simp [-zg,-zd,↓Qb,↓Qa,go_sem]
 | refine Qc (id:=4) Ja [] (by kernel_rfl) ?_;simp [-zg,-zd,↓Qb,↓Qa,go_sem]
 | refine Qc (id:=5) Ja [] (by kernel_rfl) ?_;simp [-zg,-zd,↓Qb,↓Qa,go_sem]
 | refine Qc (id:=6) Ja [] (by kernel_rfl) ?_;simp [-zg,-zd,↓Qb,↓Qa,go_sem]
 | refine Qc (id:=7) Ja [] (by kernel_rfl) ?_;simp [-zg,-zd,↓Qb,↓Qa,go_sem]
 | refine Qc (id:=8) Ja [] (by kernel_rfl) ?_;simp [-zg,-zd,↓Qb,↓Qa,go_sem]
 | refine Qc (id:=9) Ja [] (by kernel_rfl) ?_;simp [-zg,-zd,↓Qb,↓Qa,go_sem]
 | refine Qf (c:=.tmp 9) ?_;simp [-zg,-zd,↓Qb,↓Qa,go_sem];try first | (refine ⟨?_,?_⟩ <;> refine zA ?_) | (refine ⟨fun c9=>?_,fun c9=>?_⟩ <;> (try simp [B_iff,B_not] at c9))
 | refine Qf (c:=.tmp 14) ?_;simp [-zg,-zd,↓Qb,↓Qa,go_sem];try first | (refine ⟨?_,?_⟩ <;> refine zA ?_) | (refine ⟨fun c14=>?_,fun c14=>?_⟩ <;> (try simp [B_iff,B_not] at c14))
 | refine Qf (c:=.tmp 19) ?_;simp [-zg,-zd,↓Qb,↓Qa,go_sem];try first | (refine ⟨?_,?_⟩ <;> refine zA ?_) | (refine ⟨fun c19=>?_,fun c19=>?_⟩ <;> (try simp [B_iff,B_not] at c19))
 | refine Qf (c:=.tmp 24) ?_;simp [-zg,-zd,↓Qb,↓Qa,go_sem];try first | (refine ⟨?_,?_⟩ <;> refine zA ?_) | (refine ⟨fun c24=>?_,fun c24=>?_⟩ <;> (try simp [B_iff,B_not] at c24))
 | (refine Qg ?_)
 | (refine Qq ?_;simp [-zg,-zd,↓Qb,↓Qa,go_sem])
 | (refine Qp ?_;simp [-zg,-zd,↓Qb,↓Qa,go_sem])
 | (refine Qs ?_;simp [-zg,-zd,↓Qb,↓Qa,go_sem,Tryz.results69])
 | (intro hx;refine zA ?_)
 | (refine ⟨?_,?_⟩ <;> refine zA ?_)
 | (intro hx;constructor <;> intro hs)
 | (constructor <;> intro hs)
 | (refine ⟨?_,fun hs=>?_⟩;refine zA ?_)
 | (refine ⟨fun hs=>?_,?_⟩;rotate_left;refine zA ?_;rotate_left)))
  all_goals (first
 | (simp_all;done)
 | (intros;simp_all;done)
 | skip)
@[go_sem] def zaal:Con:=.pure fun
  | [.st [.int .i64 p,.int .i64 q,.int .i64 r,.int .i64 s],.st [.int .i64 p',.int .i64 q',.int .i64 r',.int .i64 s']]=>(True,.bool (decide (p = p') && decide (q = q') && decide (r = r') && decide (s = s')))
  | _=>(False,.any)
theorem zacm:ConOk Tryz.prog 69 zaal:=by
  refine ⟨Qn Tryz.func69 (by decide) rfl,fun args h=>?_⟩
  revert h
  dsimp only
  split
  · intro h
    skip
    skip
    exact ⟨zaej _ _ _ _ _ _ _ _,by simp [go_sem]⟩
  · intro h
    exact h.elim
@[go_sem] def Γa7:FuncId → Con:=ext Γa6 69 zaal
theorem Jl:∀ g,ConOk Tryz.prog g (Γa7 g):=Qu Ja zacm

theorem zadw (xs:List Tr4) (ys:List Tr4)  : Pure Tryz.prog 35 [li cT xs,li cT ys] (.bool (decide (xs = ys))):=by
  refine Pure.of_walk Tryz.func35 rfl (by simp [Tryz.f35]) (by simp [-zd,go_sem]) fun B hK=>?_
  (repeat' (first
 | refine Qr ?_
 | (refine AW_len 0 rfl fun hm=>?_);refine Qc (id:=0) Jl [] (by kernel_rfl) ?_;simp [-zg,-zd,↓Qb,↓Qa,go_sem]
 | refine Qc (id:=1) Jl [] (by kernel_rfl) ?_;simp [-zg,-zd,↓Qb,↓Qa,go_sem]
 | refine Qc (id:=2) Jl [] (by kernel_rfl) ?_;simp [-zg,-zd,↓Qb,↓Qa,go_sem]
 | refine Qc (id:=3) Jl [] (by kernel_rfl) ?_;simp [-zg,-zd,↓Qb,↓Qa,go_sem]
 | refine Qc (id:=4) Jl [] (by kernel_rfl) ?_;simp [-zg,-zd,↓Qb,↓Qa,go_sem]
 | (have cy:k < ys.length:=by omega);refine Zf (id:=6) Jl mixed [] [5] (by kernel_rfl) (by kernel_rfl) (by simp [-zg,-zd,↓Qb,↓Qa,go_sem,c14,Qh c14,zsP c14,cy,Qh cy,zsP cy]) ?_;simp [-zg,-zd,↓Qb,↓Qa,go_sem,c14,Qh c14,zsP c14,cy,Qh cy,zsP cy]
 | refine Qc (id:=7) Jl [] (by kernel_rfl) ?_;simp [-zg,-zd,↓Qb,↓Qa,go_sem]
 | refine Qc (id:=5) Jl [] (by kernel_rfl) ?_;simp [-zg,-zd,↓Qb,↓Qa,go_sem,wrapS (k:=k) (by omega)]
 | refine Qc (id:=8) Jl [] (by kernel_rfl) ?_;simp [-zg,-zd,↓Qb,↓Qa,go_sem]
 | refine Qf (c:=.tmp 10) ?_;simp [-zg,-zd,↓Qb,↓Qa,go_sem];try first | (refine ⟨?_,?_⟩ <;> refine zA ?_) | (refine ⟨fun c10=>?_,fun c10=>?_⟩ <;> (try simp [B_iff,B_not] at c10))
 | refine Qf (c:=.tmp 14) ?_;simp [-zg,-zd,↓Qb,↓Qa,go_sem];try first | (refine ⟨?_,?_⟩ <;> refine zA ?_) | (refine ⟨fun c14=>?_,fun c14=>?_⟩ <;> (try simp [B_iff,B_not] at c14))
 | refine Qf (c:=.tmp 26) ?_;simp [-zg,-zd,↓Qb,↓Qa,go_sem];try first | (refine ⟨?_,?_⟩ <;> refine zA ?_) | (refine ⟨fun c26=>?_,fun c26=>?_⟩ <;> (try simp [B_iff,B_not] at c26))
 | (refine Qg (id:=0) (Xc (ι:=Nat) (fun k:Nat=>⟨(upd (upd (upd (fun _=>.any) 0 (li cT xs)) 1 (li cT ys)) 5 (.int .i64 k)),fun _=>none⟩) (fun k=>k ≤ xs.length ∧ NoneTill (neAt xs ys) k) (fun k=>xs.length - k) (0) ?_ ?_ ?_);exact ⟨Nat.zero_le _,.zero _⟩;((repeat' (first | exact Qj (by assumption) | exact Ql | refine Qm ?_ ?_ | refine Qk ?_)) <;> simp [-zg,-zd,↓Qb,↓Qa,go_sem]);rintro k ⟨hk,ht⟩)
 | (refine ⟨k + 1,⟨by omega,ht.succ (by simp [neAt];first | exact c26 | (apply Prod.ext <;> simp_all;done) | (simp_all [Prod.ext_iff];done) | simp_all)⟩,by first | omega | (simp;done) | (simp;omega),?_⟩;((repeat' (first | exact Qj (by assumption) | exact Ql | refine Qm ?_ ?_ | refine Qk ?_)) <;> simp [-zg,-zd,↓Qb,↓Qa,go_sem]))
 | (refine Qg ?_)
 | (refine Qq ?_;simp [-zg,-zd,↓Qb,↓Qa,go_sem])
 | (refine Qp ?_;simp [-zg,-zd,↓Qb,↓Qa,go_sem])
 | (refine Qs ?_;simp [-zg,-zd,↓Qb,↓Qa,go_sem,Tryz.results35])
 | (intro hx;refine zA ?_)
 | (refine ⟨?_,?_⟩ <;> refine zA ?_)
 | (intro hx;constructor <;> intro hs)
 | (constructor <;> intro hs)
 | (refine ⟨?_,fun hs=>?_⟩;refine zA ?_)
 | (refine ⟨fun hs=>?_,?_⟩;rotate_left;refine zA ?_;rotate_left)))
  all_goals (first
 | (rintro rfl;simp at c10;done)
 | (rintro rfl;simp at c26;done)
 | exact zaaw (by omega) ht (by omega)
 | skip)
@[go_sem] def zaah:Con:=.pure fun
  | [.list n_xs c_xs,.list n_ys c_ys]=>((Is cT n_xs c_xs) ∧ (Is cT n_ys c_ys),.bool (decide ((de cT c_xs) = (de cT c_ys))))
  | _=>(False,.any)
theorem zacc:ConOk Tryz.prog 35 zaah:=by
  refine ⟨Qn Tryz.func35 (by decide) rfl,fun args h=>?_⟩
  revert h
  dsimp only
  split
  · intro h
    obtain ⟨⟨xs,rfl,rfl⟩,⟨ys,rfl,rfl⟩⟩:=h
    try simp only [Xb] at *
    exact ⟨zadw xs ys,by simp [go_sem]⟩
  · intro h
    exact h.elim
@[go_sem] def Γa8:FuncId → Con:=ext Γa7 35 zaah
theorem Γa8_ok:∀ g,ConOk Tryz.prog g (Γa8 g):=Qu Jl zacc

@[go_sem] def Γa9:FuncId → Con:=Γa8
theorem Γa9_ok:∀ g,ConOk Tryz.prog g (Γa9 g):=Γa8_ok

@[go_sem] def Γa10:FuncId → Con:=Γa9
theorem Jt:∀ g,ConOk Tryz.prog g (Γa10 g):=Γa9_ok

theorem zagc (a:List Int) (b:List Bool) (c:List Tr4) (a':List Int) (b':List Bool) (c':List Tr4)  : Pure Tryz.prog 8 [.st [li cI a,li cB b,li cT c],.st [li cI a',li cB b',li cT c']] (.bool (decide (a = a') && decide (b = b') && decide (c = c'))):=by
  refine Pure.of_walk Tryz.func8 rfl (by simp [Tryz.f8]) (by simp [-zd,go_sem]) fun B hK=>?_
  (repeat' (first
 | refine Qr ?_
 | refine Qc (id:=0) Jt [] (by kernel_rfl) ?_;simp [-zg,-zd,↓Qb,↓Qa,go_sem];try (refine Xm hK 2 ?_;simp [go_sem];refine Xm hK 3 ?_;simp [go_sem])
 | refine Qc (id:=1) Jt [] (by kernel_rfl) ?_;simp [-zg,-zd,↓Qb,↓Qa,go_sem]
 | refine Qc (id:=2) Jt [] (by kernel_rfl) ?_;simp [-zg,-zd,↓Qb,↓Qa,go_sem]
 | refine Qc (id:=3) Jt [] (by kernel_rfl) ?_;simp [-zg,-zd,↓Qb,↓Qa,go_sem]
 | refine Qc (id:=4) Jt [] (by kernel_rfl) ?_;simp [-zg,-zd,↓Qb,↓Qa,go_sem]
 | refine Qc (id:=5) Jt [] (by kernel_rfl) ?_;simp [-zg,-zd,↓Qb,↓Qa,go_sem]
 | refine Qc (id:=6) Jt [] (by kernel_rfl) ?_;simp [-zg,-zd,↓Qb,↓Qa,go_sem]
 | refine Qc (id:=7) Jt [] (by kernel_rfl) ?_;simp [-zg,-zd,↓Qb,↓Qa,go_sem]
 | refine Qf (c:=.tmp 10) ?_;simp [-zg,-zd,↓Qb,↓Qa,go_sem];try first | (refine ⟨?_,?_⟩ <;> refine zA ?_) | (refine ⟨fun c10=>?_,fun c10=>?_⟩ <;> (try simp [B_iff,B_not] at c10))
 | refine Qf (c:=.tmp 16) ?_;simp [-zg,-zd,↓Qb,↓Qa,go_sem];try first | (refine ⟨?_,?_⟩ <;> refine zA ?_) | (refine ⟨fun c16=>?_,fun c16=>?_⟩ <;> (try simp [B_iff,B_not] at c16))
 | refine Qf (c:=.tmp 22) ?_;simp [-zg,-zd,↓Qb,↓Qa,go_sem];try first | (refine ⟨?_,?_⟩ <;> refine zA ?_) | (refine ⟨fun c22=>?_,fun c22=>?_⟩ <;> (try simp [B_iff,B_not] at c22))
 | (refine Qg ?_)
 | (refine Qq ?_;simp [-zg,-zd,↓Qb,↓Qa,go_sem])
 | (refine Qp ?_;simp [-zg,-zd,↓Qb,↓Qa,go_sem])
 | (refine Qs ?_;simp [-zg,-zd,↓Qb,↓Qa,go_sem,Tryz.results8])
 | (intro hx;refine zA ?_)
 | (refine ⟨?_,?_⟩ <;> refine zA ?_)
 | (intro hx;constructor <;> intro hs)
 | (constructor <;> intro hs)
 | (refine ⟨?_,fun hs=>?_⟩;refine zA ?_)
 | (refine ⟨fun hs=>?_,?_⟩;rotate_left;refine zA ?_;rotate_left)))
  all_goals (first
 | (simp_all;done)
 | (intros;simp_all;done)
 | skip)
@[go_sem] def zaao:Con:=.pure fun
  | [.st [.list n_a c_a,.list n_b c_b,.list n_c c_c],.st [.list n_a' c_a',.list n_b' c_b',.list n_c' c_c']]=>((Is cI n_a c_a) ∧ (Is cB n_b c_b) ∧ (Is cT n_c c_c) ∧ (Is cI n_a' c_a') ∧ (Is cB n_b' c_b') ∧ (Is cT n_c' c_c'),.bool (decide ((de cI c_a) = (de cI c_a')) && decide ((de cB c_b) = (de cB c_b')) && decide ((de cT c_c) = (de cT c_c'))))
  | _=>(False,.any)
theorem zacw:ConOk Tryz.prog 8 zaao:=by
  refine ⟨Qn Tryz.func8 (by decide) rfl,fun args h=>?_⟩
  revert h
  dsimp only
  split
  · intro h
    obtain ⟨⟨a,rfl,rfl⟩,⟨b,rfl,rfl⟩,⟨c,rfl,rfl⟩,⟨a',rfl,rfl⟩,⟨b',rfl,rfl⟩,⟨c',rfl,rfl⟩⟩:=h
    try simp only [Xb] at *
    exact ⟨zagc a b c a' b' c',by simp [go_sem]⟩
  · intro h
    exact h.elim
@[go_sem] def Γa11:FuncId → Con:=ext Γa10 8 zaao
theorem Γa11_ok:∀ g,ConOk Tryz.prog g (Γa11 g):=Qu Jt zacw


theorem st4_tr:St4 Tryz.prog 49:=by
  refine ⟨by kernel_rfl,fun a b c d a' b' c' d' w=>?_⟩
  have hI:=Tryz.underlying3
  have hS:Tryz.prog.underlying 49 = some (.struct (Tryz.prog.fieldsOf 49)):=by kernel_rfl
  have hp:Tryz.prog.stoodInHeld 49 = false:=by kernel_rfl
  rw [show (10000:Nat) = 9999 + 1 from rfl,run_equalIn_agg w 9999 _ _ _ hS hp]
  have hz:∀ w,(sizeOf 3).run Tryz.prog w = .ok 1 w:=Xw (P:=Tryz.prog) (ty3)
  have ha:∀ w,(isAgg 3).run Tryz.prog w = .ok false w:=run_agg (P:=Tryz.prog) (ty3)
  have hf:(Tryz.prog.fieldsOf 49).toList.map (fun f=>(f.name,f.type,f.offset)) = [("From",3,0),("Care",3,1),("Value",3,2),("To",3,3)]:=by kernel_rfl
  simp only [Program.fieldsOf,Tryz.underlying49]
  simp [Op.eqFields,part,ha,run_equalIn_int w 9998 _ _ _ _ _ hI]
  by_cases h1:a = a' <;> by_cases h2:b = b' <;> by_cases h3:c = c' <;> by_cases h4:d = d' <;> simp [h1,h2,h3,h4]
@[go_sem] theorem st4_on:St4 Tryz.prog 49 = True:=eq_true st4_tr

@[go_sem] def Γa12:FuncId → Con:=Γa11
theorem Zz:∀ g,ConOk Tryz.prog g (Γa12 g):=Γa11_ok

theorem sEqI_pure (xs:List Int) (ys:List Int)  : Pure Tryz.prog 58 [li cI xs,li cI ys] (.bool (decide (xs = ys))):=by
  refine Pure.of_walk Tryz.func58 rfl (by simp [Tryz.f58]) (by simp [-zd,go_sem]) fun B hK=>?_
  (repeat' (first
 | refine Qr ?_
 | (refine AW_len 0 rfl fun hm=>?_);refine Qc (id:=0) Zz [] (by kernel_rfl) ?_;simp [-zg,-zd,↓Qb,↓Qa,go_sem]
 | refine Qc (id:=1) Zz [] (by kernel_rfl) ?_;simp [-zg,-zd,↓Qb,↓Qa,go_sem]
 | refine Qc (id:=2) Zz [] (by kernel_rfl) ?_;simp [-zg,-zd,↓Qb,↓Qa,go_sem]
 | refine Qc (id:=3) Zz [] (by kernel_rfl) ?_;simp [-zg,-zd,↓Qb,↓Qa,go_sem]
 | refine Qc (id:=4) Zz [] (by kernel_rfl) ?_;simp [-zg,-zd,↓Qb,↓Qa,go_sem]
 | refine Qc (id:=5) Zz [] (by kernel_rfl) ?_;simp [-zg,-zd,↓Qb,↓Qa,go_sem,c14,Qh c14,zsP c14]
 | (have cy:k < ys.length:=by omega);refine Zf (id:=6) Zz mixed [] [5] (by kernel_rfl) (by kernel_rfl) (by simp [-zg,-zd,↓Qb,↓Qa,go_sem,c14,Qh c14,zsP c14,cy,Qh cy,zsP cy]) ?_;simp [-zg,-zd,↓Qb,↓Qa,go_sem,c14,Qh c14,zsP c14,cy,Qh cy,zsP cy]
 | refine Qc (id:=7) Zz [] (by kernel_rfl) ?_;simp [-zg,-zd,↓Qb,↓Qa,go_sem]
 | refine Qc (id:=8) Zz [] (by kernel_rfl) ?_;simp [-zg,-zd,↓Qb,↓Qa,go_sem,wrapS (k:=k) (by omega)]
 | refine Qc (id:=9) Zz [] (by kernel_rfl) ?_;simp [-zg,-zd,↓Qb,↓Qa,go_sem]
 | refine Qf (c:=.tmp 10) ?_;simp [-zg,-zd,↓Qb,↓Qa,go_sem];try first | (refine ⟨?_,?_⟩ <;> refine zA ?_) | (refine ⟨fun c10=>?_,fun c10=>?_⟩ <;> (try simp [B_iff,B_not] at c10))
 | refine Qf (c:=.tmp 14) ?_;simp [-zg,-zd,↓Qb,↓Qa,go_sem];try first | (refine ⟨?_,?_⟩ <;> refine zA ?_) | (refine ⟨fun c14=>?_,fun c14=>?_⟩ <;> (try simp [B_iff,B_not] at c14))
 | refine Qf (c:=.tmp 24) ?_;simp [-zg,-zd,↓Qb,↓Qa,go_sem];try first | (refine ⟨?_,?_⟩ <;> refine zA ?_) | (refine ⟨fun c24=>?_,fun c24=>?_⟩ <;> (try simp [B_iff,B_not] at c24))
 | (refine Qg (id:=0) (Xc (ι:=Nat) (fun k:Nat=>⟨(upd (upd (upd (upd (upd (fun _=>.any) 0 (li cI xs)) 1 (li cI ys)) 11 (li cI xs)) 12 (.int .i64 xs.length)) 13 (.int .i64 k)),fun _=>none⟩) (fun k=>k ≤ xs.length ∧ NoneTill (neAt xs ys) k) (fun k=>xs.length - k) (0) ?_ ?_ ?_);exact ⟨Nat.zero_le _,.zero _⟩;((repeat' (first | exact Qj (by assumption) | exact Ql | refine Qm ?_ ?_ | refine Qk ?_)) <;> simp [-zg,-zd,↓Qb,↓Qa,go_sem]);rintro k ⟨hk,ht⟩)
 | (refine ⟨k + 1,⟨by omega,ht.succ (by simp [neAt];first | exact c24 | (simp_all [Prod.ext_iff];done) | simp_all)⟩,by first | omega | (simp;done) | (simp;omega),?_⟩;((repeat' (first | exact Qj (by assumption) | exact Ql | refine Qm ?_ ?_ | refine Qk ?_)) <;> simp [-zg,-zd,↓Qb,↓Qa,go_sem]))
 | (refine Qg ?_)
 | (refine Qq ?_;simp [-zg,-zd,↓Qb,↓Qa,go_sem])
 | (refine Qp ?_;simp [-zg,-zd,↓Qb,↓Qa,go_sem])
 | (refine Qs ?_;simp [-zg,-zd,↓Qb,↓Qa,go_sem,Tryz.results58])
 | (intro hx;refine zA ?_)
 | (refine ⟨?_,?_⟩ <;> refine zA ?_)
 | (intro hx;constructor <;> intro hs)
 | (constructor <;> intro hs)
 | (refine ⟨?_,fun hs=>?_⟩;refine zA ?_)
 | (refine ⟨fun hs=>?_,?_⟩;rotate_left;refine zA ?_;rotate_left)))
  all_goals (first
 | (rintro rfl;simp at c10;done)
 | (rintro rfl;simp at c24;done)
 | (rintro rfl;exact c24 rfl)
 | exact zaaw (by omega) ht (by omega)
 | skip)
@[go_sem] def zafg:Con:=.pure fun
  | [.list n_xs c_xs,.list n_ys c_ys]=>((Is cI n_xs c_xs) ∧ (Is cI n_ys c_ys),.bool (decide ((de cI c_xs) = (de cI c_ys))))
  | _=>(False,.any)
theorem sEqI_pureC_ok:ConOk Tryz.prog 58 zafg:=by
  refine ⟨Qn Tryz.func58 (by decide) rfl,fun args h=>?_⟩
  revert h
  dsimp only
  split
  · intro h
    obtain ⟨⟨xs,rfl,rfl⟩,⟨ys,rfl,rfl⟩⟩:=h
    try simp only [Xb] at *
    exact ⟨sEqI_pure xs ys,by simp [go_sem]⟩
  · intro h
    exact h.elim
@[go_sem] def Γa13:FuncId → Con:=ext Γa12 58 zafg
theorem Zy:∀ g,ConOk Tryz.prog g (Γa13 g):=Qu Zz sEqI_pureC_ok

theorem sEqB_pure (xs:List Bool) (ys:List Bool)  : Pure Tryz.prog 59 [li cB xs,li cB ys] (.bool (decide (xs = ys))):=by
  refine Pure.of_walk Tryz.func59 rfl (by simp [Tryz.f59]) (by simp [-zd,go_sem]) fun B hK=>?_
  (repeat' (first
 | refine Qr ?_
 | (refine AW_len 0 rfl fun hm=>?_);refine Qc (id:=0) Zy [] (by kernel_rfl) ?_;simp [-zg,-zd,↓Qb,↓Qa,go_sem]
 | refine Qc (id:=1) Zy [] (by kernel_rfl) ?_;simp [-zg,-zd,↓Qb,↓Qa,go_sem]
 | refine Qc (id:=2) Zy [] (by kernel_rfl) ?_;simp [-zg,-zd,↓Qb,↓Qa,go_sem]
 | refine Qc (id:=3) Zy [] (by kernel_rfl) ?_;simp [-zg,-zd,↓Qb,↓Qa,go_sem]
 | refine Qc (id:=4) Zy [] (by kernel_rfl) ?_;simp [-zg,-zd,↓Qb,↓Qa,go_sem]
 | refine Qc (id:=5) Zy [] (by kernel_rfl) ?_;simp [-zg,-zd,↓Qb,↓Qa,go_sem,c14,Qh c14,zsP c14]
 | (have cy:k < ys.length:=by omega);refine Zf (id:=6) Zy mixed [] [5] (by kernel_rfl) (by kernel_rfl) (by simp [-zg,-zd,↓Qb,↓Qa,go_sem,c14,Qh c14,zsP c14,cy,Qh cy,zsP cy]) ?_;simp [-zg,-zd,↓Qb,↓Qa,go_sem,c14,Qh c14,zsP c14,cy,Qh cy,zsP cy]
 | refine Qc (id:=7) Zy [] (by kernel_rfl) ?_;simp [-zg,-zd,↓Qb,↓Qa,go_sem]
 | refine Qc (id:=8) Zy [] (by kernel_rfl) ?_;simp [-zg,-zd,↓Qb,↓Qa,go_sem,wrapS (k:=k) (by omega)]
 | refine Qc (id:=9) Zy [] (by kernel_rfl) ?_;simp [-zg,-zd,↓Qb,↓Qa,go_sem]
 | refine Qf (c:=.tmp 10) ?_;simp [-zg,-zd,↓Qb,↓Qa,go_sem];try first | (refine ⟨?_,?_⟩ <;> refine zA ?_) | (refine ⟨fun c10=>?_,fun c10=>?_⟩ <;> (try simp [B_iff,B_not] at c10))
 | refine Qf (c:=.tmp 14) ?_;simp [-zg,-zd,↓Qb,↓Qa,go_sem];try first | (refine ⟨?_,?_⟩ <;> refine zA ?_) | (refine ⟨fun c14=>?_,fun c14=>?_⟩ <;> (try simp [B_iff,B_not] at c14))
 | refine Qf (c:=.tmp 24) ?_;simp [-zg,-zd,↓Qb,↓Qa,go_sem];try first | (refine ⟨?_,?_⟩ <;> refine zA ?_) | (refine ⟨fun c24=>?_,fun c24=>?_⟩ <;> (try simp [B_iff,B_not] at c24))
 | (refine Qg (id:=0) (Xc (ι:=Nat) (fun k:Nat=>⟨(upd (upd (upd (upd (upd (fun _=>.any) 0 (li cB xs)) 1 (li cB ys)) 11 (li cB xs)) 12 (.int .i64 xs.length)) 13 (.int .i64 k)),fun _=>none⟩) (fun k=>k ≤ xs.length ∧ NoneTill (neAt xs ys) k) (fun k=>xs.length - k) (0) ?_ ?_ ?_);exact ⟨Nat.zero_le _,.zero _⟩;((repeat' (first | exact Qj (by assumption) | exact Ql | refine Qm ?_ ?_ | refine Qk ?_)) <;> simp [-zg,-zd,↓Qb,↓Qa,go_sem]);rintro k ⟨hk,ht⟩)
 | (refine ⟨k + 1,⟨by omega,ht.succ (by simp [neAt];first | exact c24 | (simp_all [Prod.ext_iff];done) | simp_all)⟩,by first | omega | (simp;done) | (simp;omega),?_⟩;((repeat' (first | exact Qj (by assumption) | exact Ql | refine Qm ?_ ?_ | refine Qk ?_)) <;> simp [-zg,-zd,↓Qb,↓Qa,go_sem]))
 | (refine Qg ?_)
 | (refine Qq ?_;simp [-zg,-zd,↓Qb,↓Qa,go_sem])
 | (refine Qp ?_;simp [-zg,-zd,↓Qb,↓Qa,go_sem])
 | (refine Qs ?_;simp [-zg,-zd,↓Qb,↓Qa,go_sem,Tryz.results59])
 | (intro hx;refine zA ?_)
 | (refine ⟨?_,?_⟩ <;> refine zA ?_)
 | (intro hx;constructor <;> intro hs)
 | (constructor <;> intro hs)
 | (refine ⟨?_,fun hs=>?_⟩;refine zA ?_)
 | (refine ⟨fun hs=>?_,?_⟩;rotate_left;refine zA ?_;rotate_left)))
  all_goals (first
 | (rintro rfl;simp at c10;done)
 | (rintro rfl;simp at c24;done)
 | (rintro rfl;exact c24 rfl)
 | exact zaaw (by omega) ht (by omega)
 | skip)
@[go_sem] def zafh:Con:=.pure fun
  | [.list n_xs c_xs,.list n_ys c_ys]=>((Is cB n_xs c_xs) ∧ (Is cB n_ys c_ys),.bool (decide ((de cB c_xs) = (de cB c_ys))))
  | _=>(False,.any)
theorem sEqB_pureC_ok:ConOk Tryz.prog 59 zafh:=by
  refine ⟨Qn Tryz.func59 (by decide) rfl,fun args h=>?_⟩
  revert h
  dsimp only
  split
  · intro h
    obtain ⟨⟨xs,rfl,rfl⟩,⟨ys,rfl,rfl⟩⟩:=h
    try simp only [Xb] at *
    exact ⟨sEqB_pure xs ys,by simp [go_sem]⟩
  · intro h
    exact h.elim
@[go_sem] def Γa14:FuncId → Con:=ext Γa13 59 zafh
theorem Zx:∀ g,ConOk Tryz.prog g (Γa14 g):=Qu Zy sEqB_pureC_ok

theorem sEqT_pure (xs:List Tr4) (ys:List Tr4)  : Pure Tryz.prog 60 [li cT xs,li cT ys] (.bool (decide (xs = ys))):=by
  refine Pure.of_walk Tryz.func60 rfl (by simp [Tryz.f60]) (by simp [-zd,go_sem]) fun B hK=>?_
  (repeat' (first
 | refine Qr ?_
 | (refine AW_len 0 rfl fun hm=>?_);refine Qc (id:=0) Zx [] (by kernel_rfl) ?_;simp [-zg,-zd,↓Qb,↓Qa,go_sem]
 | refine Qc (id:=1) Zx [] (by kernel_rfl) ?_;simp [-zg,-zd,↓Qb,↓Qa,go_sem]
 | refine Qc (id:=2) Zx [] (by kernel_rfl) ?_;simp [-zg,-zd,↓Qb,↓Qa,go_sem]
 | refine Qc (id:=3) Zx [] (by kernel_rfl) ?_;simp [-zg,-zd,↓Qb,↓Qa,go_sem]
 | refine Qc (id:=4) Zx [] (by kernel_rfl) ?_;simp [-zg,-zd,↓Qb,↓Qa,go_sem]
 | refine Qc (id:=5) Zx [] (by kernel_rfl) ?_;simp [-zg,-zd,↓Qb,↓Qa,go_sem,c14,Qh c14,zsP c14]
 | (have cy:k < ys.length:=by omega);refine Zf (id:=6) Zx mixed [] [5] (by kernel_rfl) (by kernel_rfl) (by simp [-zg,-zd,↓Qb,↓Qa,go_sem,c14,Qh c14,zsP c14,cy,Qh cy,zsP cy]) ?_;simp [-zg,-zd,↓Qb,↓Qa,go_sem,c14,Qh c14,zsP c14,cy,Qh cy,zsP cy]
 | refine Qc (id:=7) Zx [] (by kernel_rfl) ?_;simp [-zg,-zd,↓Qb,↓Qa,go_sem]
 | refine Qc (id:=8) Zx [] (by kernel_rfl) ?_;simp [-zg,-zd,↓Qb,↓Qa,go_sem,wrapS (k:=k) (by omega)]
 | refine Qc (id:=9) Zx [] (by kernel_rfl) ?_;simp [-zg,-zd,↓Qb,↓Qa,go_sem]
 | refine Qf (c:=.tmp 10) ?_;simp [-zg,-zd,↓Qb,↓Qa,go_sem];try first | (refine ⟨?_,?_⟩ <;> refine zA ?_) | (refine ⟨fun c10=>?_,fun c10=>?_⟩ <;> (try simp [B_iff,B_not] at c10))
 | refine Qf (c:=.tmp 14) ?_;simp [-zg,-zd,↓Qb,↓Qa,go_sem];try first | (refine ⟨?_,?_⟩ <;> refine zA ?_) | (refine ⟨fun c14=>?_,fun c14=>?_⟩ <;> (try simp [B_iff,B_not] at c14))
 | refine Qf (c:=.tmp 24) ?_;simp [-zg,-zd,↓Qb,↓Qa,go_sem];try first | (refine ⟨?_,?_⟩ <;> refine zA ?_) | (refine ⟨fun c24=>?_,fun c24=>?_⟩ <;> (try simp [B_iff,B_not] at c24))
 | (refine Qg (id:=0) (Xc (ι:=Nat) (fun k:Nat=>⟨(upd (upd (upd (upd (upd (fun _=>.any) 0 (li cT xs)) 1 (li cT ys)) 11 (li cT xs)) 12 (.int .i64 xs.length)) 13 (.int .i64 k)),fun _=>none⟩) (fun k=>k ≤ xs.length ∧ NoneTill (neAt xs ys) k) (fun k=>xs.length - k) (0) ?_ ?_ ?_);exact ⟨Nat.zero_le _,.zero _⟩;((repeat' (first | exact Qj (by assumption) | exact Ql | refine Qm ?_ ?_ | refine Qk ?_)) <;> simp [-zg,-zd,↓Qb,↓Qa,go_sem]);rintro k ⟨hk,ht⟩)
 | (refine ⟨k + 1,⟨by omega,ht.succ (by simp [neAt];first | exact c24 | (simp_all [Prod.ext_iff];done) | simp_all)⟩,by first | omega | (simp;done) | (simp;omega),?_⟩;((repeat' (first | exact Qj (by assumption) | exact Ql | refine Qm ?_ ?_ | refine Qk ?_)) <;> simp [-zg,-zd,↓Qb,↓Qa,go_sem]))
 | (refine Qg ?_)
 | (refine Qq ?_;simp [-zg,-zd,↓Qb,↓Qa,go_sem])
 | (refine Qp ?_;simp [-zg,-zd,↓Qb,↓Qa,go_sem])
 | (refine Qs ?_;simp [-zg,-zd,↓Qb,↓Qa,go_sem,Tryz.results60])
 | (intro hx;refine zA ?_)
 | (refine ⟨?_,?_⟩ <;> refine zA ?_)
 | (intro hx;constructor <;> intro hs)
 | (constructor <;> intro hs)
 | (refine ⟨?_,fun hs=>?_⟩;refine zA ?_)
 | (refine ⟨fun hs=>?_,?_⟩;rotate_left;refine zA ?_;rotate_left)))
  all_goals (first
 | (rintro rfl;simp at c10;done)
 | (rintro rfl;simp at c24;done)
 | (rintro rfl;exact c24 rfl)
 | exact zaaw (by omega) ht (by omega)
 | skip)
@[go_sem] def zaff:Con:=.pure fun
  | [.list n_xs c_xs,.list n_ys c_ys]=>((Is cT n_xs c_xs) ∧ (Is cT n_ys c_ys),.bool (decide ((de cT c_xs) = (de cT c_ys))))
  | _=>(False,.any)
theorem sEqT_pureC_ok:ConOk Tryz.prog 60 zaff:=by
  refine ⟨Qn Tryz.func60 (by decide) rfl,fun args h=>?_⟩
  revert h
  dsimp only
  split
  · intro h
    obtain ⟨⟨xs,rfl,rfl⟩,⟨ys,rfl,rfl⟩⟩:=h
    try simp only [Xb] at *
    exact ⟨sEqT_pure xs ys,by simp [go_sem]⟩
  · intro h
    exact h.elim
@[go_sem] def Γa15:FuncId → Con:=ext Γa14 60 zaff
theorem Γa15_ok:∀ g,ConOk Tryz.prog g (Γa15 g):=Qu Zx sEqT_pureC_ok

theorem zaca (a:List Int) (b:List Bool) (c:List Tr4) (a':List Int) (b':List Bool) (c':List Tr4)  : Pure Tryz.prog 23 [.st [li cI a,li cB b,li cT c],.st [li cI a',li cB b',li cT c']] (.bool (decide (a = a') && decide (b = b') && decide (c = c'))):=by
  refine Pure.of_walk Tryz.func23 rfl (by simp [Tryz.f23]) (by simp [-zd,go_sem]) fun B hK=>?_
  (repeat' (first
 | refine Qr ?_
 | refine Qc (id:=0) Γa15_ok [] (by kernel_rfl) ?_;simp [-zg,-zd,↓Qb,↓Qa,go_sem];try (refine Xm hK 2 ?_;simp [go_sem];refine Xm hK 3 ?_;simp [go_sem])
 | refine Qc (id:=1) Γa15_ok [10,17] (by kernel_rfl) ?_;simp [-zg,-zd,↓Qb,↓Qa,go_sem];try (refine ⟨fun s1a=>?_,fun s1a=>?_⟩ <;> (try simp [B_iff,B_not] at s1a) <;> try (refine ⟨fun s1b=>?_,fun s1b=>?_⟩ <;> (try simp [B_iff,B_not] at s1b) <;> try (refine ⟨fun s1c=>?_,fun s1c=>?_⟩ <;> (try simp [B_iff,B_not] at s1c))))
 | (refine Qg ?_)
 | (refine Qq ?_;simp [-zg,-zd,↓Qb,↓Qa,go_sem])
 | (refine Qp ?_;simp [-zg,-zd,↓Qb,↓Qa,go_sem])
 | (refine Qs ?_;simp [-zg,-zd,↓Qb,↓Qa,go_sem,Tryz.results23])
 | (intro hx;refine zA ?_)
 | (refine ⟨?_,?_⟩ <;> refine zA ?_)
 | (intro hx;constructor <;> intro hs)
 | (constructor <;> intro hs)
 | (refine ⟨?_,fun hs=>?_⟩;refine zA ?_)
 | (refine ⟨fun hs=>?_,?_⟩;rotate_left;refine zA ?_;rotate_left)))
  all_goals (first
 | (simp_all;done)
 | (intros;simp_all;done)
 | skip)
@[go_sem] def zaae:Con:=.pure fun
  | [.st [.list n_a c_a,.list n_b c_b,.list n_c c_c],.st [.list n_a' c_a',.list n_b' c_b',.list n_c' c_c']]=>((Is cI n_a c_a) ∧ (Is cB n_b c_b) ∧ (Is cT n_c c_c) ∧ (Is cI n_a' c_a') ∧ (Is cB n_b' c_b') ∧ (Is cT n_c' c_c'),.bool (decide ((de cI c_a) = (de cI c_a')) && decide ((de cB c_b) = (de cB c_b')) && decide ((de cT c_c) = (de cT c_c'))))
  | _=>(False,.any)
theorem zabf:ConOk Tryz.prog 23 zaae:=by
  refine ⟨Qn Tryz.func23 (by decide) rfl,fun args h=>?_⟩
  revert h
  dsimp only
  split
  · intro h
    obtain ⟨⟨a,rfl,rfl⟩,⟨b,rfl,rfl⟩,⟨c,rfl,rfl⟩,⟨a',rfl,rfl⟩,⟨b',rfl,rfl⟩,⟨c',rfl,rfl⟩⟩:=h
    try simp only [Xb] at *
    exact ⟨zaca a b c a' b' c',by simp [go_sem]⟩
  · intro h
    exact h.elim
@[go_sem] def Γa16:FuncId → Con:=ext Γa15 23 zaae
theorem Γa16_ok:∀ g,ConOk Tryz.prog g (Γa16 g):=Qu Γa15_ok zabf

@[go_sem] def Γa17:FuncId → Con:=Γa16
theorem Γa17_ok:∀ g,ConOk Tryz.prog g (Γa17 g):=Γa16_ok


theorem bits_iff (a b:BitVec 64):a &&& b = a ↔ a &&& ~~~b = 0#64:=by
  constructor
  · intro h
    apply BitVec.eq_of_getLsbD_eq
    intro i hi
    have:=congrArg (fun x=>x.getLsbD i) h
    simp only [BitVec.getLsbD_and] at this
    simp only [BitVec.getLsbD_and,BitVec.getLsbD_not,BitVec.getLsbD_zero]
    cases h1:a.getLsbD i <;> cases h2:b.getLsbD i <;> simp_all
  · intro h
    apply BitVec.eq_of_getLsbD_eq
    intro i hi
    have:=congrArg (fun x=>x.getLsbD i) h
    simp only [BitVec.getLsbD_and,BitVec.getLsbD_not,BitVec.getLsbD_zero] at this
    simp only [BitVec.getLsbD_and]
    cases h1:a.getLsbD i <;> cases h2:b.getLsbD i <;> simp_all
theorem bits_same {v c:Int} (h0:0 ≤ v) (h1:v ≤ 9223372036854775807):(bitsD .and .i64 v c = v) = (bitsD .andNot .i64 v c = 0):=by
  have key:∀ x:BitVec 64,x.toNat ≤ v.toNat → IntKind.i64.wrap (x.toNat:Int) = x.toNat:=fun x hx=>wrap_in (by omega) (by omega)
  have hv:(BitVec.ofInt 64 v).toNat = v.toNat:=by
    rw [BitVec.toNat_ofInt]
    have:v % ((2 ^ 64:Nat):Int) = v:=Int.emod_eq_of_lt h0 (by omega)
    rw [this]
  have k1:(BitVec.ofInt 64 v &&& BitVec.ofInt 64 c).toNat ≤ v.toNat:=by rw [BitVec.toNat_and,hv];exact Nat.and_le_left
  have k2:(BitVec.ofInt 64 v &&& ~~~ BitVec.ofInt 64 c).toNat ≤ v.toNat:=by rw [BitVec.toNat_and,hv];exact Nat.and_le_left
  have e1:bitsD .and .i64 v c = ((BitVec.ofInt 64 v &&& BitVec.ofInt 64 c).toNat:Int):=key _ k1
  have e2:bitsD .andNot .i64 v c = ((BitVec.ofInt 64 v &&& ~~~ BitVec.ofInt 64 c).toNat:Int):=key _ k2
  rw [e1,e2,eq_iff_iff]
  have b:=bits_iff (BitVec.ofInt 64 v) (BitVec.ofInt 64 c)
  constructor
  · intro h
    have:BitVec.ofInt 64 v &&& BitVec.ofInt 64 c = BitVec.ofInt 64 v:=BitVec.eq_of_toNat_eq (by rw [hv];omega)
    rw [b.1 this];rfl
  · intro h
    have q:(BitVec.ofInt 64 v &&& ~~~ BitVec.ofInt 64 c).toNat = 0:=by omega
    have:BitVec.ofInt 64 v &&& ~~~ BitVec.ofInt 64 c = 0#64:=BitVec.eq_of_toNat_eq (q.trans rfl)
    rw [b.2 this,hv];omega

def EdgeOk (e:Tr4) (n:Int):Prop:=0 ≤ e.1 ∧ e.1 < n ∧ 0 ≤ e.2.2.2 ∧ e.2.2.2 < n ∧ 0 ≤ e.2.1 ∧ e.2.1 ≤ 7 ∧ 0 ≤ e.2.2.1 ∧ bitsD .and .i64 e.2.2.1 e.2.1 = e.2.2.1

set_option maxHeartbeats 2000000 in

theorem l7Edge_pure (p:Int) (q:Int) (r:Int) (s:Int) (n:Int)  : Pure Tryz.prog 57 [.st [.int .i64 p,.int .i64 q,.int .i64 r,.int .i64 s],.int .i64 n] (.bool (B (EdgeOk (p,q,r,s) n))):=by
  refine Pure.of_walk Tryz.func57 rfl (by simp [Tryz.f57]) (by simp [-zd,go_sem]) fun B hK=>?_
  (repeat' (first
 | refine Qr ?_
 | refine Qc (id:=0) Γa17_ok [] (by kernel_rfl) ?_;simp [-zg,-zd,↓Qb,↓Qa,go_sem];try (refine Xm hK 2 ?_;simp [go_sem])
 | refine Qc (id:=1) Γa17_ok [8,14,19,25,30,35,40] (by kernel_rfl) ?_;simp [-zg,-zd,↓Qb,↓Qa,go_sem];try (refine ⟨fun s1a=>?_,fun s1a=>?_⟩ <;> (try simp [B_iff,B_not] at s1a) <;> try (refine ⟨fun s1b=>?_,fun s1b=>?_⟩ <;> (try simp [B_iff,B_not] at s1b) <;> try (refine ⟨fun s1c=>?_,fun s1c=>?_⟩ <;> (try simp [B_iff,B_not] at s1c) <;> try (refine ⟨fun s1d=>?_,fun s1d=>?_⟩ <;> (try simp [B_iff,B_not] at s1d) <;> try (refine ⟨fun s1e=>?_,fun s1e=>?_⟩ <;> (try simp [B_iff,B_not] at s1e) <;> try (refine ⟨fun s1f=>?_,fun s1f=>?_⟩ <;> (try simp [B_iff,B_not] at s1f) <;> try (refine ⟨fun s1g=>?_,fun s1g=>?_⟩ <;> (try simp [B_iff,B_not] at s1g) <;> try (refine ⟨fun s1h=>?_,fun s1h=>?_⟩ <;> (try simp [B_iff,B_not] at s1h)))))))))
 | (refine Qg ?_)
 | (refine Qq ?_;simp [-zg,-zd,↓Qb,↓Qa,go_sem])
 | (refine Qp ?_;simp [-zg,-zd,↓Qb,↓Qa,go_sem])
 | (refine Qs ?_;simp [-zg,-zd,↓Qb,↓Qa,go_sem,Tryz.results57])
 | (intro hx;refine zA ?_)
 | (refine ⟨?_,?_⟩ <;> refine zA ?_)
 | (intro hx;constructor <;> intro hs)
 | (constructor <;> intro hs)
 | (refine ⟨?_,fun hs=>?_⟩;refine zA ?_)
 | (refine ⟨fun hs=>?_,?_⟩;rotate_left;refine zA ?_;rotate_left)))
  all_goals (first
 | (rintro ⟨g1,g2,g3,g4,g5,g6,g7,g8⟩;dsimp only at *;omega)
 | (rw [Bool.eq_iff_iff,B_iff,decide_eq_true_eq];exact ⟨fun h=>⟨by assumption,by assumption,by assumption,by assumption,by assumption,by assumption,by assumption,h⟩,fun h=>h.2.2.2.2.2.2.2⟩)
 | skip)
@[go_sem] def zacs:Con:=.pure fun
  | [.st [.int .i64 p,.int .i64 q,.int .i64 r,.int .i64 s],.int .i64 n]=>(True,.bool (B (EdgeOk (p,q,r,s) n)))
  | _=>(False,.any)
theorem zagr:ConOk Tryz.prog 57 zacs:=by
  refine ⟨Qn Tryz.func57 (by decide) rfl,fun args h=>?_⟩
  revert h
  dsimp only
  split
  · intro h
    skip
    skip
    exact ⟨l7Edge_pure _ _ _ _ _,by simp [go_sem]⟩
  · intro h
    exact h.elim
@[go_sem] def Γa18:FuncId → Con:=ext Γa17 57 zacs
theorem Γa18_ok:∀ g,ConOk Tryz.prog g (Γa18 g):=Qu Γa17_ok zagr

def Zr (n:Int) (e:Tr4):Bool:=!B (EdgeOk e n)
def AllSmall (xs:List Tr4):Prop:=∀ i,i < xs.length → (nth xs i).2.2.1 ≤ 9223372036854775807
set_option maxHeartbeats 2000000 in

theorem edge1_pure (p:Int) (q:Int) (r:Int) (s:Int) (n:Int) (h0:0 ≤ n) (h1:n ≤ 9223372036854775807) (h2:r ≤ 9223372036854775807):Pure Tryz.prog 56 [.st [.int .i64 p,.int .i64 q,.int .i64 r,.int .i64 s],.pd [.int .i64 n]] (.bool (Zr n (p,q,r,s))):=by
  refine Pure.of_walk Tryz.func56 rfl (by simp [Tryz.f56]) (by simp [-zd,go_sem]) fun B hK=>?_
  (repeat' (first
 | refine Qr ?_
 | refine Qc (id:=0) Γa18_ok [] (by kernel_rfl) ?_;simp [-zg,-zd,↓Qb,↓Qa,go_sem];try (refine Xm hK 2 ?_;simp [go_sem])
 | refine Qc (id:=1) Γa18_ok [10,18,24,29] (by kernel_rfl) ?_;simp [-zg,-zd,↓Qb,↓Qa,go_sem,wrap_in (x:=n - 1) (by omega) (by omega)];try (refine ⟨fun s1a=>?_,fun s1a=>?_⟩ <;> (try simp [B_iff,B_not] at s1a) <;> try (refine ⟨fun s1b=>?_,fun s1b=>?_⟩ <;> (try simp [B_iff,B_not] at s1b) <;> try (refine ⟨fun s1c=>?_,fun s1c=>?_⟩ <;> (try simp [B_iff,B_not] at s1c) <;> try (refine ⟨fun s1d=>?_,fun s1d=>?_⟩ <;> (try simp [B_iff,B_not] at s1d) <;> try (refine ⟨fun s1e=>?_,fun s1e=>?_⟩ <;> (try simp [B_iff,B_not] at s1e))))))
 | (refine Qg ?_)
 | (refine Qq ?_;simp [-zg,-zd,↓Qb,↓Qa,go_sem])
 | (refine Qp ?_;simp [-zg,-zd,↓Qb,↓Qa,go_sem])
 | (refine Qs ?_;simp [-zg,-zd,↓Qb,↓Qa,go_sem,Tryz.results56])
 | (intro hx;refine zA ?_)
 | (refine ⟨?_,?_⟩ <;> refine zA ?_)
 | (intro hx;constructor <;> intro hs)
 | (constructor <;> intro hs)
 | (refine ⟨?_,fun hs=>?_⟩;refine zA ?_)
 | (refine ⟨fun hs=>?_,?_⟩;rotate_left;refine zA ?_;rotate_left)))
  all_goals (first
 | (rw [Zr,Bool.not_eq_true',B_not];rintro ⟨g1,g2,g3,g4,g5,g6,g7,g8⟩;dsimp only at *;omega)
 | (rw [Zr,Bool.not_not,Bool.eq_iff_iff,decide_eq_true_eq,B_iff,← bits_same (by omega) h2];exact ⟨fun h=>⟨s1a.1,by dsimp only;omega,s1b.1,by dsimp only;omega,s1c.1,s1c.2,s1d,h⟩,fun h=>h.2.2.2.2.2.2.2⟩)
 | skip)
@[go_sem] def zadx:Con:=.pure fun
  | [.st [.int .i64 p,.int .i64 q,.int .i64 r,.int .i64 s],.pd [.int .i64 n]]=>((0 ≤ n) ∧ (n ≤ 9223372036854775807) ∧ (r ≤ 9223372036854775807),.bool (Zr n (p,q,r,s)))
  | _=>(False,.any)
theorem edge1_pureC_ok:ConOk Tryz.prog 56 zadx:=by
  refine ⟨Qn Tryz.func56 (by decide) rfl,fun args h=>?_⟩
  revert h
  dsimp only
  split
  · intro h
    obtain ⟨h0,h1,h2⟩:=h
    skip
    exact ⟨edge1_pure _ _ _ _ _ h0 h1 h2,by simp [go_sem]⟩
  · intro h
    exact h.elim
@[go_sem] def Γa19:FuncId → Con:=ext Γa18 56 zadx
theorem Js:∀ g,ConOk Tryz.prog g (Γa19 g):=Qu Γa18_ok edge1_pureC_ok

theorem indexEdge_pure (xs:List Tr4) (n:Int) (h0:0 ≤ n) (h1:n ≤ 9223372036854775807) (hS:AllSmall xs):Pure Tryz.prog 79 [li cT xs,.fn 56 [.pd [.int .i64 n]]] (.int .i64 (findI (Zr n) xs)):=by
  refine Pure.of_walk Tryz.func79 rfl (by simp [Tryz.f79]) (by simp [-zd,go_sem]) fun B hK=>?_
  (repeat' (first
 | refine Qr ?_
 | (refine AW_len 0 rfl fun hm=>?_);refine Qc (id:=0) Js [] (by kernel_rfl) ?_;simp [-zg,-zd,↓Qb,↓Qa,go_sem]
 | refine Qc (id:=1) Js [] (by kernel_rfl) ?_;simp [-zg,-zd,↓Qb,↓Qa,go_sem]
 | refine Qc (id:=2) Js [] (by kernel_rfl) ?_;simp [-zg,-zd,↓Qb,↓Qa,go_sem]
 | refine Qc (id:=3) Js [] (by kernel_rfl) ?_;simp [-zg,-zd,↓Qb,↓Qa,go_sem]
 | refine Qc (id:=4) Js [] (by kernel_rfl) ?_;simp [-zg,-zd,↓Qb,↓Qa,go_sem,c9,Qh c9,zsP c9,h0,h1,hS k c9]
 | refine Qc (id:=5) Js [] (by kernel_rfl) ?_;simp [-zg,-zd,↓Qb,↓Qa,go_sem]
 | refine Qc (id:=6) Js [] (by kernel_rfl) ?_;simp [-zg,-zd,↓Qb,↓Qa,go_sem,wrapS (k:=k) (by omega)]
 | refine Qc (id:=7) Js [] (by kernel_rfl) ?_;simp [-zg,-zd,↓Qb,↓Qa,go_sem]
 | refine Qf (c:=.tmp 9) ?_;simp [-zg,-zd,↓Qb,↓Qa,go_sem];try first | (refine ⟨?_,?_⟩ <;> refine zA ?_) | (refine ⟨fun c9=>?_,fun c9=>?_⟩ <;> (try simp [B_iff,B_not] at c9))
 | refine Qf (c:=.tmp 16) ?_;simp [-zg,-zd,↓Qb,↓Qa,go_sem];try first | (refine ⟨?_,?_⟩ <;> refine zA ?_) | (refine ⟨fun c16=>?_,fun c16=>?_⟩ <;> (try simp [B_iff,B_not] at c16))
 | (refine Qg (id:=0) (Xc (ι:=Nat) (fun k:Nat=>⟨(upd (upd (upd (upd (upd (fun _=>.any) 0 (li cT xs)) 1 (.fn 56 [.pd [.int .i64 n]])) 6 (li cT xs)) 7 (.int .i64 xs.length)) 8 (.int .i64 k)),fun _=>none⟩) (fun k=>k ≤ xs.length ∧ NoneTill (fun i=>(Zr n) (nth xs i)) k) (fun k=>xs.length - k) (0) ?_ ?_ ?_);exact ⟨Nat.zero_le _,.zero _⟩;((repeat' (first | exact Qj (by assumption) | exact Ql | refine Qm ?_ ?_ | refine Qk ?_)) <;> simp [-zg,-zd,↓Qb,↓Qa,go_sem]);rintro k ⟨hk,ht⟩)
 | (refine ⟨k + 1,⟨by omega,ht.succ (by simp_all)⟩,by first | omega | (simp;done) | (simp;omega),?_⟩;((repeat' (first | exact Qj (by assumption) | exact Ql | refine Qm ?_ ?_ | refine Qk ?_)) <;> simp [-zg,-zd,↓Qb,↓Qa,go_sem]))
 | (refine Qg ?_)
 | (refine Qq ?_;simp [-zg,-zd,↓Qb,↓Qa,go_sem])
 | (refine Qp ?_;simp [-zg,-zd,↓Qb,↓Qa,go_sem])
 | (refine Qs ?_;simp [-zg,-zd,↓Qb,↓Qa,go_sem,Tryz.results79])
 | (intro hx;refine zA ?_)
 | (refine ⟨?_,?_⟩ <;> refine zA ?_)
 | (intro hx;constructor <;> intro hs)
 | (constructor <;> intro hs)
 | (refine ⟨?_,fun hs=>?_⟩;refine zA ?_)
 | (refine ⟨fun hs=>?_,?_⟩;rotate_left;refine zA ?_;rotate_left)))
  all_goals (first
 | (rw [findI_at ht c9 (by simp_all)])
 | (rw [findI_none ht (by omega)])
 | skip)
@[go_sem] def zabe:Con:=.pure fun
  | [.list n_xs c_xs,.fn 56 [.pd [.int .i64 n]]]=>((Is cT n_xs c_xs) ∧ (0 ≤ n) ∧ (n ≤ 9223372036854775807) ∧ (AllSmall (de cT c_xs)),.int .i64 (findI (Zr n) (de cT c_xs)))
  | _=>(False,.any)
theorem zadr:ConOk Tryz.prog 79 zabe:=by
  refine ⟨Qn Tryz.func79 (by decide) rfl,fun args h=>?_⟩
  revert h
  dsimp only
  split
  · intro h
    obtain ⟨⟨xs,rfl,rfl⟩,h0,h1,hS⟩:=h
    try simp only [Xb] at *
    exact ⟨indexEdge_pure xs _ h0 h1 hS,by simp [go_sem]⟩
  · intro h
    exact h.elim
@[go_sem] def Γa20:FuncId → Con:=ext Γa19 79 zabe
theorem Γa20_ok:∀ g,ConOk Tryz.prog g (Γa20 g):=Qu Js zadr

theorem zaek (xs:List Tr4) (n:Int) (h0:0 ≤ n) (h1:n ≤ 9223372036854775807) (hS:AllSmall xs):Pure Tryz.prog 55 [li cT xs,.fn 56 [.pd [.int .i64 n]]] (.bool (decide (0 ≤ findI (Zr n) xs))):=by
  refine Pure.of_walk Tryz.func55 rfl (by simp [Tryz.f55]) (by simp [-zd,go_sem]) fun B hK=>?_
  (repeat' (first
 | refine Qr ?_
 | refine Qc (id:=0) Γa20_ok [] (by kernel_rfl) ?_;simp [-zg,-zd,↓Qb,↓Qa,go_sem]
 | refine Qc (id:=1) Γa20_ok [] (by kernel_rfl) ?_;simp [-zg,-zd,↓Qb,↓Qa,go_sem,h0,h1,hS]
 | (refine Qg ?_)
 | (refine Qq ?_;simp [-zg,-zd,↓Qb,↓Qa,go_sem])
 | (refine Qp ?_;simp [-zg,-zd,↓Qb,↓Qa,go_sem])
 | (refine Qs ?_;simp [-zg,-zd,↓Qb,↓Qa,go_sem,Tryz.results55])
 | (intro hx;refine zA ?_)
 | (refine ⟨?_,?_⟩ <;> refine zA ?_)
 | (intro hx;constructor <;> intro hs)
 | (constructor <;> intro hs)
 | (refine ⟨?_,fun hs=>?_⟩;refine zA ?_)
 | (refine ⟨fun hs=>?_,?_⟩;rotate_left;refine zA ?_;rotate_left)))
@[go_sem] def zaam:Con:=.pure fun
  | [.list n_xs c_xs,.fn 56 [.pd [.int .i64 n]]]=>((Is cT n_xs c_xs) ∧ (0 ≤ n) ∧ (n ≤ 9223372036854775807) ∧ (AllSmall (de cT c_xs)),.bool (decide (0 ≤ findI (Zr n) (de cT c_xs))))
  | _=>(False,.any)
theorem zacn:ConOk Tryz.prog 55 zaam:=by
  refine ⟨Qn Tryz.func55 (by decide) rfl,fun args h=>?_⟩
  revert h
  dsimp only
  split
  · intro h
    obtain ⟨⟨xs,rfl,rfl⟩,h0,h1,hS⟩:=h
    try simp only [Xb] at *
    exact ⟨zaek xs _ h0 h1 hS,by simp [go_sem]⟩
  · intro h
    exact h.elim
@[go_sem] def Γa21:FuncId → Con:=ext Γa20 55 zaam
theorem Zp:∀ g,ConOk Tryz.prog g (Γa21 g):=Qu Γa20_ok zacn

def ahead (a:List Int):Nat → Int
  | 0=>-1
  | k + 1=>nth a k
def AutOk (a:List Int) (n:Nat) (c:List Tr4):Prop:=1 ≤ n ∧ n ≤ 64 ∧ (∀ i,i < a.length → ahead a i < nth a i ∧ nth a i < n) ∧ c.length ≤ 2048 ∧ ∀ i,i < c.length → EdgeOk (nth c i) n
theorem sorted_ge {a:List Int} {k:Nat} (h:AllTill (fun i=>ahead a i < nth a i) k):∀ i,i < k → (i:Int) ≤ nth a i
  | 0,hi=>by have:=h 0 hi;simp only [ahead] at this;omega
  | i + 1,hi=>by
    have:=h (i + 1) hi
    have:=sorted_ge h i (by omega)
    simp only [ahead] at *
    omega
theorem sorted_len {a:List Int} {n:Nat} (h:∀ i,i < a.length → ahead a i < nth a i ∧ nth a i < n):a.length ≤ n:=by
  rcases Nat.eq_zero_or_pos a.length with h0 | h0
  · omega
  · have h1:=sorted_ge (a:=a) (k:=a.length) (fun i hi=>(h i hi).1) (a.length - 1) (by omega)
    have h2:=(h (a.length - 1) (by omega)).2
    omega
theorem ahead_bd {a:List Int} {n k:Nat} (h:AllTill (fun i=>ahead a i < nth a i ∧ nth a i < n) k):-1 ≤ ahead a k ∧ ahead a k < n:=by
  cases k with
  | zero=>simp only [ahead];omega
  | succ k =>
    have:=h k (by omega)
    have:=sorted_ge (a:=a) (k:=k + 1) (fun i hi=>(h i hi).1) k (by omega)
    simp only [ahead];omega
theorem ahead_pos {a:List Int} {k:Nat} (h:0 < k):ahead a k = nth a (k - 1):=by
  cases k with
  | zero=>omega
  | succ k=>rfl
theorem find_edge {c:List Tr4} {n:Int}:(0 ≤ findI (Zr n) c) = ¬ ∀ i,i < c.length → EdgeOk (nth c i) n:=by
  rw [findI_ge,eq_iff_iff]
  constructor
  · rintro ⟨i,h,e⟩ k
    rw [Zr,Bool.not_eq_true',B_not] at e
    exact e (k i h)
  · intro h
    apply Classical.byContradiction;intro h2
    apply h;intro i hi
    apply Classical.byContradiction;intro h3
    exact h2 ⟨i,hi,by rw [Zr,Bool.not_eq_true',B_not];exact h3⟩

set_option maxHeartbeats 2000000 in

theorem implAutomatonValid_pure (a:List Int) (b:List Bool) (c:List Tr4) (hS:AllSmall c):Pure Tryz.prog 21 [.st [li cI a,li cB b,li cT c]] (.bool (B (AutOk a b.length c))):=by
  refine Pure.of_walk Tryz.func21 rfl (by simp [Tryz.f21]) (by simp [-zd,go_sem]) fun B hK=>?_
  (repeat' (first
 | refine Qr ?_
 | refine Qc (id:=0) Zp [] (by kernel_rfl) ?_;simp [-zg,-zd,↓Qb,↓Qa,go_sem];try (refine Xm hK 1 ?_;simp [go_sem])
 | (refine AW_lenP 1 1 ⟨rfl,rfl⟩ fun hm=>?_;refine AW_lenP 1 0 ⟨rfl,rfl⟩ fun hma=>?_);refine Qc (id:=1) Zp [] (by kernel_rfl) ?_;simp [-zg,-zd,↓Qb,↓Qa,go_sem];try (refine Xm hK 3 ?_;simp [go_sem])
 | refine Qc (id:=2) Zp [] (by kernel_rfl) ?_;simp [-zg,-zd,↓Qb,↓Qa,go_sem]
 | refine Qc (id:=3) Zp [] (by kernel_rfl) ?_;simp [-zg,-zd,↓Qb,↓Qa,go_sem]
 | refine Qc (id:=4) Zp [] (by kernel_rfl) ?_;simp [-zg,-zd,↓Qb,↓Qa,go_sem]
 | refine Qc (id:=5) Zp [] (by kernel_rfl) ?_;simp [-zg,-zd,↓Qb,↓Qa,go_sem,c14,Qh c14,zsP c14]
 | (obtain ⟨a1,a2⟩:=ahead_bd ht);refine Qc (id:=6) Zp [] (by kernel_rfl) ?_;simp [-zg,-zd,↓Qb,↓Qa,go_sem,wrap_in (x:=ahead a k + 1) (by omega) (by omega),wrap_in (x:=(b.length:Int) - 1) (by omega) (by omega)]
 | refine Qc (id:=7) Zp [] (by kernel_rfl) ?_;simp [-zg,-zd,↓Qb,↓Qa,go_sem]
 | refine Qc (id:=8) Zp [] (by kernel_rfl) ?_;simp [-zg,-zd,↓Qb,↓Qa,go_sem]
 | refine Qc (id:=9) Zp [] (by kernel_rfl) ?_;simp [-zg,-zd,↓Qb,↓Qa,go_sem,wrapS (k:=k) (by omega)]
 | refine Qc (id:=10) Zp [28,34] (by kernel_rfl) ?_;simp [-zg,-zd,↓Qb,↓Qa,go_sem,hS,(by omega:(b.length:Int) ≤ 9223372036854775807),(by omega:b.length ≤ 9223372036854775807)];try (refine ⟨fun s10a=>?_,fun s10a=>?_⟩ <;> (try simp [B_iff,B_not] at s10a) <;> try (refine ⟨fun s10b=>?_,fun s10b=>?_⟩ <;> (try simp [B_iff,B_not] at s10b) <;> try (refine ⟨fun s10c=>?_,fun s10c=>?_⟩ <;> (try simp [B_iff,B_not] at s10c))))
 | refine Qf (c:=.tmp 14) ?_;simp [-zg,-zd,↓Qb,↓Qa,go_sem];try first | (refine ⟨?_,?_⟩ <;> refine zA ?_) | (refine ⟨fun c14=>?_,fun c14=>?_⟩ <;> (try simp [B_iff,B_not] at c14))
 | refine Qf (c:=.tmp 23) ?_;simp [-zg,-zd,↓Qb,↓Qa,go_sem];try first | (refine ⟨?_,?_⟩ <;> refine zA ?_) | (refine ⟨fun c23=>?_,fun c23=>?_⟩ <;> (try simp [B_iff,B_not] at c23))
 | (refine Qg (id:=0) (Xc (ι:=Nat) (fun k:Nat=>⟨(upd (upd (upd (upd (upd (upd (fun _=>.any) 1 (.pd [li cI a,li cB b,li cT c])) 3 (.pd [.int .i64 b.length])) 4 (.int .i64 (ahead a k))) 11 (li cI a)) 12 (.int .i64 a.length)) 13 (.int .i64 k)),fun _=>none⟩) (fun k=>k ≤ a.length ∧ AllTill (fun i=>ahead a i < nth a i ∧ nth a i < (b.length:Nat)) k) (fun k=>a.length - k) (0) ?_ ?_ ?_);exact ⟨Nat.zero_le _,.zero _⟩;((repeat' (first | exact Qj (by assumption) | exact Ql | refine Qm ?_ ?_ | refine Qk ?_)) <;> simp [-zg,-zd,↓Qb,↓Qa,go_sem,ahead]);rintro k ⟨hk,ht⟩)
 | (refine ⟨k + 1,⟨by omega,ht.succ ⟨by omega,by omega⟩⟩,by first | omega | (simp;done) | (simp;omega),?_⟩;((repeat' (first | exact Qj (by assumption) | exact Ql | refine Qm ?_ ?_ | refine Qk ?_)) <;> simp [-zg,-zd,↓Qb,↓Qa,go_sem,ahead]))
 | (refine Qg ?_)
 | (refine Qq ?_;simp [-zg,-zd,↓Qb,↓Qa,go_sem])
 | (refine Qp ?_;simp [-zg,-zd,↓Qb,↓Qa,go_sem])
 | (refine Qs ?_;simp [-zg,-zd,↓Qb,↓Qa,go_sem,Tryz.results21])
 | (intro hx;refine zA ?_)
 | (refine ⟨?_,?_⟩ <;> refine zA ?_)
 | (intro hx;constructor <;> intro hs)
 | (constructor <;> intro hs)
 | (refine ⟨?_,fun hs=>?_⟩;refine zA ?_)
 | (refine ⟨fun hs=>?_,?_⟩;rotate_left;refine zA ?_;rotate_left)))
  all_goals (first
 | (rintro ⟨g1,g2,g3,g4,g5⟩;have:=g3 k c14;omega)
 | (rintro ⟨g1,g2,g3,g4,g5⟩;omega)
 | (rw [Bool.eq_iff_iff,decide_eq_true_eq,find_edge,Bool.not_eq_true',B_not];exact ⟨fun h k=>h k.2.2.2.2,fun h k=>h ⟨by omega,by omega,fun i hi=>ht i (by omega),by omega,k⟩⟩)
 | skip)
@[go_sem] def zaad:Con:=.pure fun
  | [.st [.list n_a c_a,.list n_b c_b,.list n_c c_c]]=>((Is cI n_a c_a) ∧ (Is cB n_b c_b) ∧ (Is cT n_c c_c) ∧ (AllSmall (de cT c_c)),.bool (B (AutOk (de cI c_a) (de cB c_b).length (de cT c_c))))
  | _=>(False,.any)
theorem zaba:ConOk Tryz.prog 21 zaad:=by
  refine ⟨Qn Tryz.func21 (by decide) rfl,fun args h=>?_⟩
  revert h
  dsimp only
  split
  · intro h
    obtain ⟨⟨a,rfl,rfl⟩,⟨b,rfl,rfl⟩,⟨c,rfl,rfl⟩,hS⟩:=h
    try simp only [Xb] at *
    exact ⟨implAutomatonValid_pure a b c hS,by simp [go_sem]⟩
  · intro h
    exact h.elim
@[go_sem] def Γa22:FuncId → Con:=ext Γa21 21 zaad
theorem Xv:∀ g,ConOk Tryz.prog g (Γa22 g):=Qu Zp zaba

set_option maxHeartbeats 2000000 in

theorem zabx (a:List Int) (b:List Bool) (c:List Tr4) (hS:AllSmall c):Pure Tryz.prog 22 [.st [li cI a,li cB b,li cT c]] (.bool (B (AutOk a b.length c))):=by
  refine Pure.of_walk Tryz.func22 rfl (by simp [Tryz.f22]) (by simp [-zd,go_sem]) fun B hK=>?_
  (repeat' (first
 | refine Qr ?_
 | refine Qc (id:=0) Xv [] (by kernel_rfl) ?_;simp [-zg,-zd,↓Qb,↓Qa,go_sem];try (refine Xm hK 1 ?_;simp [go_sem])
 | (refine AW_lenP 1 1 ⟨rfl,rfl⟩ fun hm=>?_;refine AW_lenP 1 0 ⟨rfl,rfl⟩ fun hma=>?_);refine Qc (id:=1) Xv [] (by kernel_rfl) ?_;simp [-zg,-zd,↓Qb,↓Qa,go_sem]
 | refine Qc (id:=2) Xv [11,15,22] (by kernel_rfl) ?_;simp [-zg,-zd,↓Qb,↓Qa,go_sem];try (refine ⟨fun s2a=>?_,fun s2a=>?_⟩ <;> (try simp [B_iff,B_not] at s2a) <;> try (refine ⟨fun s2b=>?_,fun s2b=>?_⟩ <;> (try simp [B_iff,B_not] at s2b) <;> try (refine ⟨fun s2c=>?_,fun s2c=>?_⟩ <;> (try simp [B_iff,B_not] at s2c) <;> try (refine ⟨fun s2d=>?_,fun s2d=>?_⟩ <;> (try simp [B_iff,B_not] at s2d)))))
 | refine Qc (id:=3) Xv [] (by kernel_rfl) ?_;simp [-zg,-zd,↓Qb,↓Qa,go_sem]
 | refine Qc (id:=4) Xv [] (by kernel_rfl) ?_;simp [-zg,-zd,↓Qb,↓Qa,go_sem]
 | refine Qc (id:=5) Xv [] (by kernel_rfl) ?_;simp [-zg,-zd,↓Qb,↓Qa,go_sem]
 | refine Zf (id:=7) Xv mixed [41,50,53] [1,4] (by kernel_rfl) (by kernel_rfl) (by simp [-zg,-zd,↓Qb,↓Qa,go_sem,(show k = 0 from h0),(show 0 < a.length by omega),Qh c32,zsP c32]) ?_;simp [-zg,-zd,↓Qb,↓Qa,go_sem,(show k = 0 from h0),(show 0 < a.length by omega),Qh c32,zsP c32];try (refine ⟨fun s7a=>?_,fun s7a=>?_⟩ <;> (try simp [B_iff,B_not] at s7a) <;> try (refine ⟨fun s7b=>?_,fun s7b=>?_⟩ <;> (try simp [B_iff,B_not] at s7b) <;> try (refine ⟨fun s7c=>?_,fun s7c=>?_⟩ <;> (try simp [B_iff,B_not] at s7c) <;> try (refine ⟨fun s7d=>?_,fun s7d=>?_⟩ <;> (try simp [B_iff,B_not] at s7d)))))
 | refine Zf (id:=7) Xv mixed [41,50,53] [1,4] (by kernel_rfl) (by kernel_rfl) (by simp [-zg,-zd,↓Qb,↓Qa,go_sem,(show 0 < k by omega),c32,Qh c32,zsP c32,wrap_in (x:=(k:Int) - 1) (by omega) (by omega),(show (k - 1) < a.length by omega),(show (0:Int) ≤ (k:Int) - 1 by omega),(show (k:Int) - 1 < a.length by omega),(show (1:Int) ≤ (k:Int) by omega),(show 0 < a.length - (k - 1) by omega),(show ((k:Int) - 1).toNat = k - 1 by omega)]) ?_;simp [-zg,-zd,↓Qb,↓Qa,go_sem,(show 0 < k by omega),c32,Qh c32,zsP c32,wrap_in (x:=(k:Int) - 1) (by omega) (by omega),(show (k - 1) < a.length by omega),(show (0:Int) ≤ (k:Int) - 1 by omega),(show (k:Int) - 1 < a.length by omega),(show (1:Int) ≤ (k:Int) by omega),(show 0 < a.length - (k - 1) by omega),(show ((k:Int) - 1).toNat = k - 1 by omega)];try (refine ⟨fun s7a=>?_,fun s7a=>?_⟩ <;> (try simp [B_iff,B_not] at s7a) <;> try (refine ⟨fun s7b=>?_,fun s7b=>?_⟩ <;> (try simp [B_iff,B_not] at s7b) <;> try (refine ⟨fun s7c=>?_,fun s7c=>?_⟩ <;> (try simp [B_iff,B_not] at s7c) <;> try (refine ⟨fun s7d=>?_,fun s7d=>?_⟩ <;> (try simp [B_iff,B_not] at s7d)))))
 | refine Qc (id:=8) Xv [] (by kernel_rfl) ?_;simp [-zg,-zd,↓Qb,↓Qa,go_sem]
 | refine Qc (id:=6) Xv [] (by kernel_rfl) ?_;simp [-zg,-zd,↓Qb,↓Qa,go_sem,wrapS (k:=k) (by omega),(by decide:IntKind.i64.wrap 1 = 1)]
 | refine Qc (id:=9) Xv [] (by kernel_rfl) ?_;simp [-zg,-zd,↓Qb,↓Qa,go_sem]
 | refine Qc (id:=10) Xv [] (by kernel_rfl) ?_;simp [-zg,-zd,↓Qb,↓Qa,go_sem]
 | refine Qc (id:=12) Xv [] (by kernel_rfl) ?_;simp [-zg,-zd,↓Qb,↓Qa,go_sem,c72,Qh c72,zsP c72]
 | refine Qc (id:=13) Xv [] (by kernel_rfl) ?_;simp [-zg,-zd,↓Qb,↓Qa,go_sem]
 | refine Qc (id:=11) Xv [] (by kernel_rfl) ?_;simp [-zg,-zd,↓Qb,↓Qa,go_sem,wrapS (k:=i) (by omega)]
 | refine Qc (id:=14) Xv [] (by kernel_rfl) ?_;simp [-zg,-zd,↓Qb,↓Qa,go_sem]
 | refine Qf (c:=.tmp 27) ?_;simp [-zg,-zd,↓Qb,↓Qa,go_sem];try first | (refine ⟨?_,?_⟩ <;> refine zA ?_) | (refine ⟨fun c27=>?_,fun c27=>?_⟩ <;> (try simp [B_iff,B_not] at c27))
 | refine Qf (c:=.tmp 32) ?_;simp [-zg,-zd,↓Qb,↓Qa,go_sem];try first | (refine ⟨?_,?_⟩ <;> refine zA ?_) | (refine ⟨fun c32=>?_,fun c32=>?_⟩ <;> (try simp [B_iff,B_not] at c32))
 | refine Qf (c:=.tmp 67) ?_;simp [-zg,-zd,↓Qb,↓Qa,go_sem];try first | (refine ⟨?_,?_⟩ <;> refine zA ?_) | (refine ⟨fun c67=>?_,fun c67=>?_⟩ <;> (try simp [B_iff,B_not] at c67))
 | refine Qf (c:=.tmp 72) ?_;simp [-zg,-zd,↓Qb,↓Qa,go_sem];try first | (refine ⟨?_,?_⟩ <;> refine zA ?_) | (refine ⟨fun c72=>?_,fun c72=>?_⟩ <;> (try simp [B_iff,B_not] at c72))
 | refine Qf (c:=.tmp 82) ?_;simp [-zg,-zd,↓Qb,↓Qa,go_sem];try first | (refine ⟨?_,?_⟩ <;> refine zA ?_) | (refine ⟨fun c82=>?_,fun c82=>?_⟩ <;> (try simp [B_iff,B_not] at c82))
 | (refine Qg (id:=0) (Xc (ι:=Nat) (fun k:Nat=>⟨(upd (upd (upd (fun _=>.any) 1 (.pd [li cI a,li cB b,li cT c])) 3 (.int .i64 b.length)) 4 (.int .i64 k)),fun _=>none⟩) (fun k=>k ≤ a.length ∧ AllTill (fun i=>ahead a i < nth a i ∧ nth a i < (b.length:Nat)) k) (fun k=>a.length - k) (0) ?_ ?_ ?_);exact ⟨Nat.zero_le _,.zero _⟩;((repeat' (first | exact Qj (by assumption) | exact Ql | refine Qm ?_ ?_ | refine Qk ?_)) <;> simp [-zg,-zd,↓Qb,↓Qa,go_sem]);rintro k ⟨hk,ht⟩;obtain ⟨k0,h0⟩ | ⟨j,h0⟩:(∃ z:Nat,k = 0) ∨ ∃ j,k = j + 1:=(by rcases k with _ | j;exact .inl ⟨0,rfl⟩;exact .inr ⟨j,rfl⟩))
 | (refine ⟨k + 1,⟨by omega,ht.succ (by first | (subst h0;simp only [ahead];omega) | (show ahead a k < nth a k ∧ nth a k < ((b.length:Nat):Int);rw [ahead_pos (by omega)];omega))⟩,by first | omega | (simp;done) | (simp;omega),?_⟩;((repeat' (first | exact Qj (by assumption) | exact Ql | refine Qm ?_ ?_ | refine Qk ?_)) <;> simp [-zg,-zd,↓Qb,↓Qa,go_sem,h0]))
 | (refine Qg (id:=2) (Xc (ι:=Nat) (fun i:Nat=>⟨(upd (upd (upd (fun _=>.any) 1 (.pd [li cI a,li cB b,li cT c])) 3 (.int .i64 b.length)) 5 (.int .i64 i)),fun _=>none⟩) (fun i=>i ≤ c.length ∧ AllTill (fun j=>EdgeOk (nth c j) (b.length:Nat)) i) (fun i=>c.length - i) (0) ?_ ?_ ?_);exact ⟨Nat.zero_le _,.zero _⟩;((repeat' (first | exact Qj (by assumption) | exact Ql | refine Qm ?_ ?_ | refine Qk ?_)) <;> simp [-zg,-zd,↓Qb,↓Qa,go_sem]);rintro i ⟨hi,hu⟩)
 | (refine ⟨i + 1,⟨by omega,hu.succ c82⟩,by first | omega | (simp;done) | (simp;omega),?_⟩;((repeat' (first | exact Qj (by assumption) | exact Ql | refine Qm ?_ ?_ | refine Qk ?_)) <;> simp [-zg,-zd,↓Qb,↓Qa,go_sem]))
 | (refine Qg ?_)
 | (refine Qq ?_;simp [-zg,-zd,↓Qb,↓Qa,go_sem])
 | (refine Qp ?_;simp [-zg,-zd,↓Qb,↓Qa,go_sem])
 | (refine Qs ?_;simp [-zg,-zd,↓Qb,↓Qa,go_sem,Tryz.results22])
 | (intro hx;refine zA ?_)
 | (refine ⟨?_,?_⟩ <;> refine zA ?_)
 | (intro hx;constructor <;> intro hs)
 | (constructor <;> intro hs)
 | (refine ⟨?_,fun hs=>?_⟩;refine zA ?_)
 | (refine ⟨fun hs=>?_,?_⟩;rotate_left;refine zA ?_;rotate_left)))
  all_goals (first
 | (rintro ⟨g1,g2,g3,g4,g5⟩;have q:=g3 k c32;subst h0;simp only [ahead] at q;omega)
 | (rintro ⟨g1,g2,g3,g4,g5⟩;have q:=g3 k c32;rw [ahead_pos (by omega)] at q;have q2:=sorted_ge (a:=a) (k:=k + 1) (fun i hi=>(g3 i (by omega)).1) k (by omega);omega)
 | (rintro ⟨g1,g2,g3,g4,g5⟩;omega)
 | (intro h;have:=sorted_len h.2.2.1;omega)
 | (rintro ⟨g1,g2,g3,g4,g5⟩;exact c82 (g5 i c72))
 | exact ⟨by omega,by omega,fun j hj=>ht j (by omega),by omega,fun j hj=>hu j (by omega)⟩
 | skip)
  all_goals trace_state
@[go_sem] def zaac:Con:=.pure fun
  | [.st [.list n_a c_a,.list n_b c_b,.list n_c c_c]]=>((Is cI n_a c_a) ∧ (Is cB n_b c_b) ∧ (Is cT n_c c_c) ∧ (AllSmall (de cT c_c)),.bool (B (AutOk (de cI c_a) (de cB c_b).length (de cT c_c))))
  | _=>(False,.any)
theorem zaaz:ConOk Tryz.prog 22 zaac:=by
  refine ⟨Qn Tryz.func22 (by decide) rfl,fun args h=>?_⟩
  revert h
  dsimp only
  split
  · intro h
    obtain ⟨⟨a,rfl,rfl⟩,⟨b,rfl,rfl⟩,⟨c,rfl,rfl⟩,hS⟩:=h
    try simp only [Xb] at *
    exact ⟨zabx a b c hS,by simp [go_sem]⟩
  · intro h
    exact h.elim
@[go_sem] def Γa23:FuncId → Con:=ext Γa22 22 zaac
theorem Zw:∀ g,ConOk Tryz.prog g (Γa23 g):=Qu Xv zaaz

end
end Go.Proofs.YtiilmjojffjhlaaGreatDoor.Vm

