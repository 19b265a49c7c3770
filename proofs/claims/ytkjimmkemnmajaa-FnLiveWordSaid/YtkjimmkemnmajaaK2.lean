import Derived.Test.YtkjimmkemnmajaaN9
/-
  Lassos behind the automata's functions; the small functions of Accepts. No conditions.
-/
namespace Go.Proofs.Ytkjimmkemnmajaa.Vm
open Go
open List renaming getD_eq_getElem?_getD → zg,drop_one → zd
noncomputable section
set_option linter.unusedVariables false
set_option linter.unusedSimpArgs false
set_option maxRecDepth 200000

@[go_sem] def Γk1:FuncId → Con:=Γn13
theorem Γk1_ok:∀ g,ConOk Try.prog g (Γk1 g):=Wc

@[go_sem] def Γk2:FuncId → Con:=Γk1
theorem Γk2_ok:∀ g,ConOk Try.prog g (Γk2 g):=Γk1_ok

@[go_sem] def Γk3:FuncId → Con:=Γk2
theorem Γk3_ok:∀ g,ConOk Try.prog g (Γk3 g):=Γk2_ok

def LetOk (xs:List Int):Prop:=∀ i,i < xs.length → 0 ≤ nth xs i ∧ nth xs i ≤ 7
def LasOk (a b:List Int):Prop:=LetOk a ∧ LetOk b ∧ a.length ≤ 80 ∧ 1 ≤ b.length ∧ b.length ≤ 80
@[go_sem] def Γk4:FuncId → Con:=Γk3
theorem Γk4_ok:∀ g,ConOk Try.prog g (Γk4 g):=Γk3_ok

def noLet (n:Int):Bool:=!(decide (0 ≤ n) && decide (n ≤ 7))
theorem find_let {xs:List Int}:(0 ≤ findI noLet xs) = ¬ LetOk xs:=by
  rw [zagu,eq_iff_iff]
  constructor
  · rintro ⟨i,h,e⟩ k
    have:=k i h
    simp [noLet] at e
    omega
  · intro h
    apply Classical.byContradiction;intro h2
    apply h;intro i hi
    apply Classical.byContradiction;intro h3
    exact h2 ⟨i,hi,by simp [noLet];omega⟩

theorem letters1_pure (n:Int)  : Pure Try.prog 226 [.int .i64 n] (.bool (noLet n)):=by
  refine Pure.of_walk Try.func226 rfl (by simp [Try.f226]) (by simp [-zd,go_sem]) fun B hK=>?_
  (repeat' (first
 | refine Qt ?_
 | refine Qc (id:=0) Γk4_ok [] (by kernel_rfl) ?_;simp [-zg,-zd,↓Qb,↓Qa,go_sem,noLet]
 | refine Qc (id:=1) Γk4_ok [] (by kernel_rfl) ?_;simp [-zg,-zd,↓Qb,↓Qa,go_sem,noLet]
 | (refine Qe ?_)
 | (refine Qs ?_;simp [-zg,-zd,↓Qb,↓Qa,go_sem])
 | (refine Qr ?_;simp [-zg,-zd,↓Qb,↓Qa,go_sem])
 | (refine Qu ?_;simp [-zg,-zd,↓Qb,↓Qa,go_sem,Try.results226,noLet])
 | (intro hx;refine zA ?_)
 | (refine ⟨?_,?_⟩ <;> refine zA ?_)
 | (intro hx;constructor <;> intro hs)
 | (constructor <;> intro hs)
 | (refine ⟨?_,fun hs=>?_⟩;refine zA ?_)
 | (refine ⟨fun hs=>?_,?_⟩;rotate_left;refine zA ?_;rotate_left)))
@[go_sem] def zadv:Con:=.pure fun
  | [.int .i64 n]=>(True,.bool (noLet n))
  | _=>(False,.any)
theorem zajy:ConOk Try.prog 226 zadv:=by
  refine ⟨Qp Try.func226 (by decide) rfl,fun args h=>?_⟩
  revert h
  dsimp only
  split
  · intro h
    skip
    skip
    exact ⟨letters1_pure _,by simp [go_sem]⟩
  · intro h
    exact h.elim
@[go_sem] def Γk5:FuncId → Con:=ext Γk4 226 zadv
theorem Wh:∀ g,ConOk Try.prog g (Γk5 g):=Qo Γk4_ok zajy

theorem indexLet_pure (xs:List Int)   : Pure Try.prog 235 [li cI xs,.fn 226 []] (.int .i64 (findI (noLet) xs)):=by
  refine Pure.of_walk Try.func235 rfl (by simp [Try.f235]) (by simp [-zd,go_sem]) fun B hK=>?_
  (repeat' (first
 | refine Qt ?_
 | (refine Vl 0 rfl fun hm=>?_);refine Qc (id:=0) Wh [] (by kernel_rfl) ?_;simp [-zg,-zd,↓Qb,↓Qa,go_sem]
 | refine Qc (id:=1) Wh [] (by kernel_rfl) ?_;simp [-zg,-zd,↓Qb,↓Qa,go_sem]
 | refine Qc (id:=2) Wh [] (by kernel_rfl) ?_;simp [-zg,-zd,↓Qb,↓Qa,go_sem]
 | refine Qc (id:=3) Wh [] (by kernel_rfl) ?_;simp [-zg,-zd,↓Qb,↓Qa,go_sem]
 | refine Qc (id:=4) Wh [] (by kernel_rfl) ?_;simp [-zg,-zd,↓Qb,↓Qa,go_sem,c9,Qj c9,Nat.sub_pos_of_lt c9]
 | refine Qc (id:=5) Wh [] (by kernel_rfl) ?_;simp [-zg,-zd,↓Qb,↓Qa,go_sem]
 | refine Qc (id:=6) Wh [] (by kernel_rfl) ?_;simp [-zg,-zd,↓Qb,↓Qa,go_sem,wrapS (k:=k) (by omega)]
 | refine Qc (id:=7) Wh [] (by kernel_rfl) ?_;simp [-zg,-zd,↓Qb,↓Qa,go_sem]
 | refine Qd (c:=.tmp 9) ?_;simp [-zg,-zd,↓Qb,↓Qa,go_sem];try first | (refine ⟨?_,?_⟩ <;> refine zA ?_) | (refine ⟨fun c9=>?_,fun c9=>?_⟩ <;> (try simp [B_iff,B_not] at c9))
 | refine Qd (c:=.tmp 16) ?_;simp [-zg,-zd,↓Qb,↓Qa,go_sem];try first | (refine ⟨?_,?_⟩ <;> refine zA ?_) | (refine ⟨fun c16=>?_,fun c16=>?_⟩ <;> (try simp [B_iff,B_not] at c16))
 | (refine Qe (id:=0) (Qy (ι:=Nat) (fun k:Nat=>⟨(upd (upd (upd (upd (upd (fun _=>.any) 0 (li cI xs)) 1 (.fn 226 [])) 6 (li cI xs)) 7 (.int .i64 xs.length)) 8 (.int .i64 k)),fun _=>none⟩) (fun k=>k ≤ xs.length ∧ NoneTill (fun i=>(noLet) (nth xs i)) k) (fun k=>xs.length - k) (0) ?_ ?_ ?_);exact ⟨Nat.zero_le _,.zero _⟩;((repeat' (first | exact Qg (by assumption) | exact Qi | refine Qf ?_ ?_ | refine Qh ?_)) <;> simp [-zg,-zd,↓Qb,↓Qa,go_sem]);rintro k ⟨hk,ht⟩)
 | (refine ⟨k + 1,⟨by omega,ht.succ (by simp_all)⟩,by first | omega | (simp;done) | (simp;omega),?_⟩;((repeat' (first | exact Qg (by assumption) | exact Qi | refine Qf ?_ ?_ | refine Qh ?_)) <;> simp [-zg,-zd,↓Qb,↓Qa,go_sem]))
 | (refine Qe ?_)
 | (refine Qs ?_;simp [-zg,-zd,↓Qb,↓Qa,go_sem])
 | (refine Qr ?_;simp [-zg,-zd,↓Qb,↓Qa,go_sem])
 | (refine Qu ?_;simp [-zg,-zd,↓Qb,↓Qa,go_sem,Try.results235])
 | (intro hx;refine zA ?_)
 | (refine ⟨?_,?_⟩ <;> refine zA ?_)
 | (intro hx;constructor <;> intro hs)
 | (constructor <;> intro hs)
 | (refine ⟨?_,fun hs=>?_⟩;refine zA ?_)
 | (refine ⟨fun hs=>?_,?_⟩;rotate_left;refine zA ?_;rotate_left)))
  all_goals (first
 | (rw [Wg ht c9 (by simp_all)])
 | (rw [zacv ht (by omega)])
 | skip)
@[go_sem] def zaeb:Con:=.pure fun
  | [.list n_xs c_xs,.fn 226 []]=>((Is cI n_xs c_xs),.int .i64 (findI (noLet) (de cI c_xs)))
  | _=>(False,.any)
theorem zakd:ConOk Try.prog 235 zaeb:=by
  refine ⟨Qp Try.func235 (by decide) rfl,fun args h=>?_⟩
  revert h
  dsimp only
  split
  · intro h
    obtain ⟨xs,rfl,rfl⟩:=h
    try simp only [Qm] at *
    exact ⟨indexLet_pure xs ,by simp [go_sem]⟩
  · intro h
    exact h.elim
@[go_sem] def Γk6:FuncId → Con:=ext Γk5 235 zaeb
theorem Γk6_ok:∀ g,ConOk Try.prog g (Γk6 g):=Qo Wh zakd

theorem zank (xs:List Int)   : Pure Try.prog 201 [li cI xs,.fn 226 []] (.bool (decide (0 ≤ findI noLet xs))):=by
  refine Pure.of_walk Try.func201 rfl (by simp [Try.f201]) (by simp [-zd,go_sem]) fun B hK=>?_
  (repeat' (first
 | refine Qt ?_
 | refine Qc (id:=0) Γk6_ok [] (by kernel_rfl) ?_;simp [-zg,-zd,↓Qb,↓Qa,go_sem]
 | refine Qc (id:=1) Γk6_ok [] (by kernel_rfl) ?_;simp [-zg,-zd,↓Qb,↓Qa,go_sem]
 | (refine Qe ?_)
 | (refine Qs ?_;simp [-zg,-zd,↓Qb,↓Qa,go_sem])
 | (refine Qr ?_;simp [-zg,-zd,↓Qb,↓Qa,go_sem])
 | (refine Qu ?_;simp [-zg,-zd,↓Qb,↓Qa,go_sem,Try.results201])
 | (intro hx;refine zA ?_)
 | (refine ⟨?_,?_⟩ <;> refine zA ?_)
 | (intro hx;constructor <;> intro hs)
 | (constructor <;> intro hs)
 | (refine ⟨?_,fun hs=>?_⟩;refine zA ?_)
 | (refine ⟨fun hs=>?_,?_⟩;rotate_left;refine zA ?_;rotate_left)))
@[go_sem] def zabz:Con:=.pure fun
  | [.list n_xs c_xs,.fn 226 []]=>((Is cI n_xs c_xs),.bool (decide (0 ≤ findI noLet (de cI c_xs))))
  | _=>(False,.any)
theorem zagw:ConOk Try.prog 201 zabz:=by
  refine ⟨Qp Try.func201 (by decide) rfl,fun args h=>?_⟩
  revert h
  dsimp only
  split
  · intro h
    obtain ⟨xs,rfl,rfl⟩:=h
    try simp only [Qm] at *
    exact ⟨zank xs ,by simp [go_sem]⟩
  · intro h
    exact h.elim
@[go_sem] def Γk7:FuncId → Con:=ext Γk6 201 zabz
theorem Γk7_ok:∀ g,ConOk Try.prog g (Γk7 g):=Qo Γk6_ok zagw

theorem letters_pure (xs:List Int)  : Pure Try.prog 188 [li cI xs] (.bool (B (LetOk xs))):=by
  refine Pure.of_walk Try.func188 rfl (by simp [Try.f188]) (by simp [-zd,go_sem]) fun B hK=>?_
  (repeat' (first
 | refine Qt ?_
 | refine Qc (id:=0) Γk7_ok [] (by kernel_rfl) ?_;simp [-zg,-zd,↓Qb,↓Qa,go_sem]
 | refine Qc (id:=1) Γk7_ok [] (by kernel_rfl) ?_;simp [-zg,-zd,↓Qb,↓Qa,go_sem]
 | (refine Qe ?_)
 | (refine Qs ?_;simp [-zg,-zd,↓Qb,↓Qa,go_sem])
 | (refine Qr ?_;simp [-zg,-zd,↓Qb,↓Qa,go_sem])
 | (refine Qu ?_;simp [-zg,-zd,↓Qb,↓Qa,go_sem,Try.results188])
 | (intro hx;refine zA ?_)
 | (refine ⟨?_,?_⟩ <;> refine zA ?_)
 | (intro hx;constructor <;> intro hs)
 | (constructor <;> intro hs)
 | (refine ⟨?_,fun hs=>?_⟩;refine zA ?_)
 | (refine ⟨fun hs=>?_,?_⟩;rotate_left;refine zA ?_;rotate_left)))
  all_goals (first
 | (rw [Bool.eq_iff_iff,decide_eq_true_eq,find_let,Bool.not_eq_true',B_not])
 | (rw [Bool.eq_iff_iff,B_iff,Bool.not_eq_true',decide_eq_false_iff_not,find_let,Classical.not_not])
 | skip)
  all_goals trace_state
@[go_sem] def zaep:Con:=.pure fun
  | [.list n_xs c_xs]=>((Is cI n_xs c_xs),.bool (B (LetOk (de cI c_xs))))
  | _=>(False,.any)
theorem zamj:ConOk Try.prog 188 zaep:=by
  refine ⟨Qp Try.func188 (by decide) rfl,fun args h=>?_⟩
  revert h
  dsimp only
  split
  · intro h
    obtain ⟨xs,rfl,rfl⟩:=h
    try simp only [Qm] at *
    exact ⟨letters_pure xs,by simp [go_sem]⟩
  · intro h
    exact h.elim
@[go_sem] def Γk8:FuncId → Con:=ext Γk7 188 zaep
theorem Γk8_ok:∀ g,ConOk Try.prog g (Γk8 g):=Qo Γk7_ok zamj

@[go_sem] def Γk9:FuncId → Con:=Γk8
theorem Γk9_ok:∀ g,ConOk Try.prog g (Γk9 g):=Γk8_ok

theorem zahs (a:List Int) (b:List Int)  : Pure Try.prog 137 [.st [li cI a,li cI b]] (.bool (B (LasOk a b))):=by
  refine Pure.of_walk Try.func137 rfl (by simp [Try.f137]) (by simp [-zd,go_sem]) fun B hK=>?_
  (repeat' (first
 | refine Qt ?_
 | refine Qc (id:=0) Γk9_ok [] (by kernel_rfl) ?_;simp [-zg,-zd,↓Qb,↓Qa,go_sem];try (refine Xa hK 1 ?_;simp [go_sem])
 | refine Qc (id:=1) Γk9_ok [6,11,17] (by kernel_rfl) ?_;simp [-zg,-zd,↓Qb,↓Qa,go_sem];try (refine ⟨fun s1a=>?_,fun s1a=>?_⟩ <;> (try simp [B_iff,B_not] at s1a) <;> try (refine ⟨fun s1b=>?_,fun s1b=>?_⟩ <;> (try simp [B_iff,B_not] at s1b) <;> try (refine ⟨fun s1c=>?_,fun s1c=>?_⟩ <;> (try simp [B_iff,B_not] at s1c) <;> try (refine ⟨fun s1d=>?_,fun s1d=>?_⟩ <;> (try simp [B_iff,B_not] at s1d)))))
 | (refine Qe ?_)
 | (refine Qs ?_;simp [-zg,-zd,↓Qb,↓Qa,go_sem])
 | (refine Qr ?_;simp [-zg,-zd,↓Qb,↓Qa,go_sem])
 | (refine Qu ?_;simp [-zg,-zd,↓Qb,↓Qa,go_sem,Try.results137])
 | (intro hx;refine zA ?_)
 | (refine ⟨?_,?_⟩ <;> refine zA ?_)
 | (intro hx;constructor <;> intro hs)
 | (constructor <;> intro hs)
 | (refine ⟨?_,fun hs=>?_⟩;refine zA ?_)
 | (refine ⟨fun hs=>?_,?_⟩;rotate_left;refine zA ?_;rotate_left)))
  all_goals (first
 | (rintro ⟨g1,g2,g3,g4,g5⟩;omega)
 | (rintro ⟨g1,g2,g3,g4,g5⟩;simp_all;done)
 | (rw [Bool.eq_iff_iff,B_iff,Bool.and_eq_true,decide_eq_true_eq,decide_eq_true_eq];exact ⟨fun h=>⟨s1a,s1b,by omega,by omega,by omega⟩,fun h=>by have:=h.2.2.2;omega⟩)
 | skip)
@[go_sem] def zaaw:Con:=.pure fun
  | [.st [.list n_a c_a,.list n_b c_b]]=>((Is cI n_a c_a) ∧ (Is cI n_b c_b),.bool (B (LasOk (de cI c_a) (de cI c_b))))
  | _=>(False,.any)
theorem zaek:ConOk Try.prog 137 zaaw:=by
  refine ⟨Qp Try.func137 (by decide) rfl,fun args h=>?_⟩
  revert h
  dsimp only
  split
  · intro h
    obtain ⟨⟨a,rfl,rfl⟩,⟨b,rfl,rfl⟩⟩:=h
    try simp only [Qm] at *
    exact ⟨zahs a b,by simp [go_sem]⟩
  · intro h
    exact h.elim
@[go_sem] def Γk10:FuncId → Con:=ext Γk9 137 zaaw
theorem Γk10_ok:∀ g,ConOk Try.prog g (Γk10 g):=Qo Γk9_ok zaek

@[go_sem] def Γk11:FuncId → Con:=Γk10
theorem Γk11_ok:∀ g,ConOk Try.prog g (Γk11 g):=Γk10_ok

@[go_sem] def Γk12:FuncId → Con:=Γk11
theorem Γk12_ok:∀ g,ConOk Try.prog g (Γk12 g):=Γk11_ok
def nxI (a b:List Int) (i:Nat):Nat:=if i + 1 = a.length + b.length then a.length else i + 1
theorem nxI_lt {a b:List Int} {i:Nat} (h:0 < b.length) (hi:i < a.length + b.length):nxI a b i < a.length + b.length:=by
  unfold nxI;split <;> omega
@[go_sem] def Γk13:FuncId → Con:=Γk12
theorem zalb:∀ g,ConOk Try.prog g (Γk13 g):=Γk12_ok

theorem implNext_pure (a:List Int) (b:List Int) (i:Int) (hL:LasOk a b) (h0:0 ≤ i) (h1:i < (a.length:Int) + b.length):Pure Try.prog 191 [.st [li cI a,li cI b],.int .i64 i] (.int .i64 ((nxI a b i.toNat:Nat):Int)):=by
  refine Pure.of_walk Try.func191 rfl (by simp [Try.f191]) (by simp [-zd,go_sem]) fun B hK=>?_
  obtain ⟨l1,l2,l3,l4,l5⟩:=id hL
  all_goals (repeat' (first
 | refine Qt ?_
 | refine Qc (id:=0) zalb [] (by kernel_rfl) ?_;simp [-zg,-zd,↓Qb,↓Qa,go_sem];try (refine Xa hK 2 ?_;simp [go_sem])
 | refine Qc (id:=1) zalb [] (by kernel_rfl) ?_;simp [-zg,-zd,↓Qb,↓Qa,go_sem,Qv (x:=i + 1) (by omega) (by omega),Qv (x:=(a.length:Int) + (b.length:Int)) (by omega) (by omega)]
 | refine Qc (id:=2) zalb [] (by kernel_rfl) ?_;simp [-zg,-zd,↓Qb,↓Qa,go_sem]
 | refine Qc (id:=3) zalb [] (by kernel_rfl) ?_;simp [-zg,-zd,↓Qb,↓Qa,go_sem,Qv (x:=i + 1) (by omega) (by omega)]
 | refine Qd (c:=.tmp 14) ?_;simp [-zg,-zd,↓Qb,↓Qa,go_sem];try first | (refine ⟨?_,?_⟩ <;> refine zA ?_) | (refine ⟨fun c14=>?_,fun c14=>?_⟩ <;> (try simp [B_iff,B_not] at c14))
 | (refine Qe ?_)
 | (refine Qs ?_;simp [-zg,-zd,↓Qb,↓Qa,go_sem])
 | (refine Qr ?_;simp [-zg,-zd,↓Qb,↓Qa,go_sem])
 | (refine Qu ?_;simp [-zg,-zd,↓Qb,↓Qa,go_sem,Try.results191])
 | (intro hx;refine zA ?_)
 | (refine ⟨?_,?_⟩ <;> refine zA ?_)
 | (intro hx;constructor <;> intro hs)
 | (constructor <;> intro hs)
 | (refine ⟨?_,fun hs=>?_⟩;refine zA ?_)
 | (refine ⟨fun hs=>?_,?_⟩;rotate_left;refine zA ?_;rotate_left)))
  all_goals (first
 | (unfold nxI;rw [if_pos (by omega)])
 | (unfold nxI;rw [if_neg (by omega)];omega)
 | skip)
@[go_sem] def zaec:Con:=.pure fun
  | [.st [.list n_a c_a,.list n_b c_b],.int .i64 i]=>((Is cI n_a c_a) ∧ (Is cI n_b c_b) ∧ (LasOk (de cI c_a) (de cI c_b)) ∧ (0 ≤ i) ∧ (i < ((de cI c_a).length:Int) + (de cI c_b).length),.int .i64 ((nxI (de cI c_a) (de cI c_b) i.toNat:Nat):Int))
  | _=>(False,.any)
theorem zake:ConOk Try.prog 191 zaec:=by
  refine ⟨Qp Try.func191 (by decide) rfl,fun args h=>?_⟩
  revert h
  dsimp only
  split
  · intro h
    obtain ⟨⟨a,rfl,rfl⟩,⟨b,rfl,rfl⟩,hL,h0,h1⟩:=h
    try simp only [Qm] at *
    exact ⟨implNext_pure a b _ hL h0 h1,by simp [go_sem]⟩
  · intro h
    exact h.elim
@[go_sem] def Γk14:FuncId → Con:=ext Γk13 191 zaec
theorem Γk14_ok:∀ g,ConOk Try.prog g (Γk14 g):=Qo zalb zake

theorem all_pure (a:List Int) (b:List Int) (hL:LasOk a b):Pure Try.prog 189 [.st [li cI a,li cI b]] (fr 1 cI (a ++ b)):=by
  refine Pure.of_walk Try.func189 rfl (by simp [Try.f189]) (by simp [-zd,go_sem]) fun B hK=>?_
  obtain ⟨l1,l2,l3,l4,l5⟩:=id hL;have hf:[a,b].flatten = a ++ b:=(by simp)
  all_goals (repeat' (first
 | refine Qt ?_
 | refine Qc (id:=0) Γk14_ok [] (by kernel_rfl) ?_;simp [-zg,-zd,↓Qb,↓Qa,go_sem];try (refine Xa hK 1 ?_;simp [go_sem])
 | refine Qc (id:=1) Γk14_ok [] (by kernel_rfl) ?_;simp [-zg,-zd,↓Qb,↓Qa,go_sem,hf,makeD_two,(show a.length + b.length ≤ 1048576 by omega)]
 | (refine Qe ?_)
 | (refine Qs ?_;simp [-zg,-zd,↓Qb,↓Qa,go_sem])
 | (refine Qr ?_;simp [-zg,-zd,↓Qb,↓Qa,go_sem])
 | (refine Qu ?_;simp [-zg,-zd,↓Qb,↓Qa,go_sem,Try.results189])
 | (intro hx;refine zA ?_)
 | (refine ⟨?_,?_⟩ <;> refine zA ?_)
 | (intro hx;constructor <;> intro hs)
 | (constructor <;> intro hs)
 | (refine ⟨?_,fun hs=>?_⟩;refine zA ?_)
 | (refine ⟨fun hs=>?_,?_⟩;rotate_left;refine zA ?_;rotate_left)))
@[go_sem] def all_pureC:Con:=.pure fun
  | [.st [.list n_a c_a,.list n_b c_b]]=>((Is cI n_a c_a) ∧ (Is cI n_b c_b) ∧ (LasOk (de cI c_a) (de cI c_b)),fr 1 cI ((de cI c_a) ++ (de cI c_b)))
  | _=>(False,.any)
theorem all_pureC_ok:ConOk Try.prog 189 all_pureC:=by
  refine ⟨Qp Try.func189 (by decide) rfl,fun args h=>?_⟩
  revert h
  dsimp only
  split
  · intro h
    obtain ⟨⟨a,rfl,rfl⟩,⟨b,rfl,rfl⟩,hL⟩:=h
    try simp only [Qm] at *
    exact ⟨all_pure a b hL,by simp [go_sem]⟩
  · intro h
    exact h.elim
@[go_sem] def Γk15:FuncId → Con:=ext Γk14 189 all_pureC
theorem Γk15_ok:∀ g,ConOk Try.prog g (Γk15 g):=Qo Γk14_ok all_pureC_ok

def tk (x:Int) (e:Tr4):Bool:=decide (bitsD .and .i64 x e.2.1 = e.2.2.1)
@[go_sem] def Γk16:FuncId → Con:=Γk15
theorem Γk16_ok:∀ g,ConOk Try.prog g (Γk16 g):=Γk15_ok

theorem takes_pure (p:Int) (q:Int) (r:Int) (s:Int) (x:Int)  : Pure Try.prog 190 [.st [.int .i64 p,.int .i64 q,.int .i64 r,.int .i64 s],.int .i64 x] (.bool (tk x (p,q,r,s))):=by
  refine Pure.of_walk Try.func190 rfl (by simp [Try.f190]) (by simp [-zd,go_sem]) fun B hK=>?_
  (repeat' (first
 | refine Qt ?_
 | refine Qc (id:=0) Γk16_ok [] (by kernel_rfl) ?_;simp [-zg,-zd,↓Qb,↓Qa,go_sem,tk];try (refine Xa hK 2 ?_;simp [go_sem])
 | refine Qc (id:=1) Γk16_ok [] (by kernel_rfl) ?_;simp [-zg,-zd,↓Qb,↓Qa,go_sem,tk]
 | (refine Qe ?_)
 | (refine Qs ?_;simp [-zg,-zd,↓Qb,↓Qa,go_sem])
 | (refine Qr ?_;simp [-zg,-zd,↓Qb,↓Qa,go_sem])
 | (refine Qu ?_;simp [-zg,-zd,↓Qb,↓Qa,go_sem,Try.results190,tk])
 | (intro hx;refine zA ?_)
 | (refine ⟨?_,?_⟩ <;> refine zA ?_)
 | (intro hx;constructor <;> intro hs)
 | (constructor <;> intro hs)
 | (refine ⟨?_,fun hs=>?_⟩;refine zA ?_)
 | (refine ⟨fun hs=>?_,?_⟩;rotate_left;refine zA ?_;rotate_left)))
@[go_sem] def zaib:Con:=.pure fun
  | [.st [.int .i64 p,.int .i64 q,.int .i64 r,.int .i64 s],.int .i64 x]=>(True,.bool (tk x (p,q,r,s)))
  | _=>(False,.any)
theorem takes_pureC_ok:ConOk Try.prog 190 zaib:=by
  refine ⟨Qp Try.func190 (by decide) rfl,fun args h=>?_⟩
  revert h
  dsimp only
  split
  · intro h
    skip
    skip
    exact ⟨takes_pure _ _ _ _ _,by simp [go_sem]⟩
  · intro h
    exact h.elim
@[go_sem] def Γk17:FuncId → Con:=ext Γk16 190 zaib
theorem Zb:∀ g,ConOk Try.prog g (Γk17 g):=Qo Γk16_ok takes_pureC_ok


def aStep (n:Nat) (x:Int) (P Q:Nat) (r:List (List Int)) (e:Tr4):List (List Int):=if tk x e = true then addE r ((P:Int) + e.1) ((Q:Int) + e.2.2.2) else r
def aIn (n:Nat) (es:List Tr4) (x:Int) (P Q:Nat) (r:List (List Int)) (k:Nat):List (List Int):=(es.take k).foldl (aStep n x P Q) r
theorem aIn_zero (n:Nat) (es:List Tr4) (x:Int) (P Q:Nat) (r:List (List Int)):aIn n es x P Q r 0 = r:=by simp [aIn]
theorem zanw {n:Nat} {es:List Tr4} {x:Int} {P Q:Nat} {r:List (List Int)} {k:Nat} (h:k < es.length):aIn n es x P Q r (k + 1) = aStep n x P Q (aIn n es x P Q r k) (nth es k):=by
  unfold aIn;rw [List.take_succ_eq_append_getElem h,← Ql h,List.foldl_append];rfl
def aRow (n:Nat) (es:List Tr4) (a b:List Int):Nat → List (List Int)
  | 0=>List.replicate ((a.length + b.length) * n) []
  | i + 1=>aIn n es (nth (a ++ b) i) (i * n) (nxI a b i * n) (aRow n es a b i) es.length
structure AR (N M:Nat) (r:List (List Int)):Prop where
  len:r.length = N
  rng:∀ i,i < N → ∀ y,y ∈ nth r i → 0 ≤ y ∧ y < N
  row:∀ i,i < N → (nth r i).length ≤ M
theorem AR.start (N:Nat):AR N 0 (List.replicate N []):=by
  have h:∀ i,i < N → nth (List.replicate N ([]:List Int)) i = []:=fun i hi=>by rw [Ql (by simpa using hi)];simp
  exact ⟨by simp,fun i hi y hy=>(by rw [h i hi] at hy;cases hy),fun i hi=>(by rw [h i hi];simp)⟩
theorem AR.step {N M n:Nat} {r:List (List Int)} (h:AR N M r) {x:Int} {P Q:Nat} {e:Tr4} (h1:0 ≤ e.1) (h2:(P:Int) + e.1 < N) (h3:0 ≤ e.2.2.2) (h4:(Q:Int) + e.2.2.2 < N):AR N (M + 1) (aStep n x P Q r e):=by
  unfold aStep
  split
  · have hf:((P:Int) + e.1).toNat < r.length:=by rw [h.len];omega
    refine ⟨by rw [addE_len,h.len],fun i hi y hy=>?_,fun i hi=>?_⟩
    · rw [zaio hf] at hy
      rcases hy with q | ⟨_,rfl⟩
      · exact h.rng i hi y q
      · omega
    · rw [zaij hf]
      have:=h.row i hi
      split
      · simp;omega
      · omega
  · exact ⟨h.len,h.rng,fun i hi=>by have:=h.row i hi;omega⟩
theorem AR.aIn {N M n:Nat} {r:List (List Int)} (h:AR N M r) {es:List Tr4} (hr:InRng n es) {x:Int} {P Q:Nat} (hP:P + n ≤ N) (hQ:Q + n ≤ N):∀ k,k ≤ es.length → AR N (M + k) (aIn n es x P Q r k)
  | 0,_=>by rw [aIn_zero];exact h
  | k + 1,hk=>by
    rw [zanw (by omega)]
    obtain ⟨⟨g1,g2⟩,g3,g4⟩:=hr k (by omega)
    exact (h.aIn hr hP hQ k (by omega)).step g1 (by omega) g3 (by omega)
theorem We {i m n:Nat} (h:i < m):i * n + n ≤ m * n:=by rw [← Nat.succ_mul];exact Nat.mul_le_mul_right n h
theorem aRow_ok {n:Nat} {es:List Tr4} (hr:InRng n es) {a b:List Int} (hb:0 < b.length):∀ i,i ≤ a.length + b.length → AR ((a.length + b.length) * n) (i * es.length) (aRow n es a b i)
  | 0,_=>by simp only [aRow,Nat.zero_mul];exact AR.start _
  | i + 1,hi=>by
    have ih:=aRow_ok hr (a:=a) (b:=b) hb i (by omega)
    have:=ih.aIn hr (x:=nth (a ++ b) i) (We (n:=n) (show i < a.length + b.length by omega)) (We (n:=n) (nxI_lt (a:=a) (b:=b) hb (show i < a.length + b.length by omega))) es.length (Nat.le_refl _)
    rw [Nat.succ_mul]
    exact this
def aAll (n:Nat) (es:List Tr4) (a b:List Int):List (List Int):=aRow n es a b (a.length + b.length)
theorem aAll_ok {n:Nat} {es:List Tr4} (hr:InRng n es) {a b:List Int} (hL:LasOk a b) (hn:n ≤ 64) (he:es.length ≤ 2048):Xc (aAll n es a b) ∧ NextS (aAll n es a b) ∧ (aAll n es a b).length = (a.length + b.length) * n ∧ (a.length + b.length) * n ≤ 10240:=by
  obtain ⟨l1,l2,l3,l4,l5⟩:=hL
  have h:=aRow_ok hr (a:=a) (b:=b) (by omega) (a.length + b.length) (Nat.le_refl _)
  have hm:(a.length + b.length) * n ≤ 160 * 64:=Nat.mul_le_mul (by omega) hn
  have hs:(a.length + b.length) * es.length ≤ 160 * 2048:=Nat.mul_le_mul (by omega) he
  refine ⟨fun j hj k hk=>?_,fun j hj=>?_,h.len,by omega⟩
  · unfold aAll at hj hk ⊢
    rw [h.len] at hj ⊢
    exact h.rng j hj _ (Xe hk)
  · unfold aAll at hj ⊢
    rw [h.len] at hj
    have:=h.row j hj
    omega
def Acp (n:Nat) (acc:List Bool) (ss:List Int) (nx:List (List Int)):Prop:=∃ x:Nat,x < nx.length ∧ RchS nx ss (x:Int) ∧ Cyc nx (x:Int) ∧ nth acc (x % n) = true
theorem tmod_nat (k n:Nat):((k:Int)).tmod (n:Int) = ((k % n:Nat):Int):=by
  rw [Int.tmod_eq_emod_of_nonneg (by omega)];exact (Int.natCast_emod k n).symm
theorem oN_addG {xs:List (List Int)} {f t:Int} (hf:f.toNat < xs.length) (junk:List D):(cat oN xs ++ junk).set f.toNat (.fr 1 ((nth xs f.toNat).length + 1) (cat cI (nth xs f.toNat ++ [t]))) = cat oN (addE xs f t) ++ junk:=by
  have:=oN_set (xs:=xs) (i:=f.toNat) (junk:=junk) (y:=nth xs f.toNat ++ [t]) hf
  rw [addE,← this,Wf (by simp)]
  simp
end
end Go.Proofs.Ytkjimmkemnmajaa.Vm

