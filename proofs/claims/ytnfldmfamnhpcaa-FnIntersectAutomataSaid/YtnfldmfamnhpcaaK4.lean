import Derived.Test.YtnfldmfamnhpcaaN9
/-
  Lassos behind the automata's functions; the small functions of Accepts. No conditions.
-/
namespace Go.Proofs.Ytnfldmfamnhpcaa.Vm
open Go
open Nat renaming sub_pos_of_lt → zsP
open List renaming getD_eq_getElem?_getD → zg,drop_one → zd,replicate → zrP
noncomputable section
set_option linter.unusedVariables false
set_option linter.unusedSimpArgs false
set_option maxRecDepth 200000

@[go_sem] def Γk1:FuncId → Con:=Γn13
theorem Γk1_ok:∀ g,ConOk Try.prog g (Γk1 g):=Γn13_ok

@[go_sem] def Γk2:FuncId → Con:=Γk1
theorem Γk2_ok:∀ g,ConOk Try.prog g (Γk2 g):=Γk1_ok

@[go_sem] def Γk3:FuncId → Con:=Γk2
theorem Γk3_ok:∀ g,ConOk Try.prog g (Γk3 g):=Γk2_ok

def LetOk (xs:List Int):Prop:=∀ i,i < xs.length → 0 ≤ nth xs i ∧ nth xs i ≤ 7
def LasOk (a b:List Int):Prop:=LetOk a ∧ LetOk b ∧ a.length ≤ 80 ∧ 1 ≤ b.length ∧ b.length ≤ 80
@[go_sem] def Γk4:FuncId → Con:=Γk3
theorem Γk4_ok:∀ g,ConOk Try.prog g (Γk4 g):=Γk3_ok

def noLet (n:Int):Bool:=!(decide (0 ≤ n) && decide (n ≤ 7))
theorem find_let {xs:List Int}:(0 ≤ findI noLet xs) = ¬ LetOk xs:=by
  rw [findI_ge,eq_iff_iff]
  constructor
  · rintro ⟨i,h,e⟩ k
    have:=k i h
    simp [noLet] at e
    omega
  · intro h
    apply Classical.byContradiction;intro h2
    apply h;intro i hi
    apply Classical.byContradiction;intro h3
    exact h2 ⟨i,hi,by simp [noLet];omega⟩

theorem letters1_pure (n:Int)  : Pure Try.prog 82 [.int .i64 n] (.bool (noLet n)):=by
  refine Pure.of_walk Try.func82 rfl (by simp [Try.f82]) (by simp [-zd,go_sem]) fun B hK=>?_
  (repeat' (first
 | refine Qu ?_
 | refine Qc (id:=0) Γk4_ok [] (by kernel_rfl) ?_;simp [-zg,-zd,↓Qb,↓Qa,go_sem,noLet]
 | refine Qc (id:=1) Γk4_ok [] (by kernel_rfl) ?_;simp [-zg,-zd,↓Qb,↓Qa,go_sem,noLet]
 | (refine Qe ?_)
 | (refine Qt ?_;simp [-zg,-zd,↓Qb,↓Qa,go_sem])
 | (refine Qs ?_;simp [-zg,-zd,↓Qb,↓Qa,go_sem])
 | (refine Qv ?_;simp [-zg,-zd,↓Qb,↓Qa,go_sem,Try.results82,noLet])
 | (intro hx;refine zA ?_)
 | (refine ⟨?_,?_⟩ <;> refine zA ?_)
 | (intro hx;constructor <;> intro hs)
 | (constructor <;> intro hs)
 | (refine ⟨?_,fun hs=>?_⟩;refine zA ?_)
 | (refine ⟨fun hs=>?_,?_⟩;rotate_left;refine zA ?_;rotate_left)))
@[go_sem] def zadr:Con:=.pure fun
  | [.int .i64 n]=>(True,.bool (noLet n))
  | _=>(False,.any)
theorem zajd:ConOk Try.prog 82 zadr:=by
  refine ⟨Qp Try.func82 (by decide) rfl,fun args h=>?_⟩
  revert h
  dsimp only
  split
  · intro h
    skip
    skip
    exact ⟨letters1_pure _,by simp [go_sem]⟩
  · intro h
    exact h.elim
@[go_sem] def Γk5:FuncId → Con:=ext Γk4 82 zadr
theorem Uv:∀ g,ConOk Try.prog g (Γk5 g):=Qo Γk4_ok zajd

theorem indexLet_pure (xs:List Int)   : Pure Try.prog 102 [li cI xs,.fn 82 []] (.int .i64 (findI (noLet) xs)):=by
  refine Pure.of_walk Try.func102 rfl (by simp [Try.f102]) (by simp [-zd,go_sem]) fun B hK=>?_
  (repeat' (first
 | refine Qu ?_
 | (refine Vb 0 rfl fun hm=>?_);refine Qc (id:=0) Uv [] (by kernel_rfl) ?_;simp [-zg,-zd,↓Qb,↓Qa,go_sem]
 | refine Qc (id:=1) Uv [] (by kernel_rfl) ?_;simp [-zg,-zd,↓Qb,↓Qa,go_sem]
 | refine Qc (id:=2) Uv [] (by kernel_rfl) ?_;simp [-zg,-zd,↓Qb,↓Qa,go_sem]
 | refine Qc (id:=3) Uv [] (by kernel_rfl) ?_;simp [-zg,-zd,↓Qb,↓Qa,go_sem]
 | refine Qc (id:=4) Uv [] (by kernel_rfl) ?_;simp [-zg,-zd,↓Qb,↓Qa,go_sem,c9,Qj c9,zsP c9]
 | refine Qc (id:=5) Uv [] (by kernel_rfl) ?_;simp [-zg,-zd,↓Qb,↓Qa,go_sem]
 | refine Qc (id:=6) Uv [] (by kernel_rfl) ?_;simp [-zg,-zd,↓Qb,↓Qa,go_sem,wrapS (k:=k) (by omega)]
 | refine Qc (id:=7) Uv [] (by kernel_rfl) ?_;simp [-zg,-zd,↓Qb,↓Qa,go_sem]
 | refine Qd (c:=.tmp 9) ?_;simp [-zg,-zd,↓Qb,↓Qa,go_sem];try first | (refine ⟨?_,?_⟩ <;> refine zA ?_) | (refine ⟨fun c9=>?_,fun c9=>?_⟩ <;> (try simp [B_iff,B_not] at c9))
 | refine Qd (c:=.tmp 16) ?_;simp [-zg,-zd,↓Qb,↓Qa,go_sem];try first | (refine ⟨?_,?_⟩ <;> refine zA ?_) | (refine ⟨fun c16=>?_,fun c16=>?_⟩ <;> (try simp [B_iff,B_not] at c16))
 | (refine Qe (id:=0) (Qz (ι:=Nat) (fun k:Nat=>⟨(upd (upd (upd (upd (upd (fun _=>.any) 0 (li cI xs)) 1 (.fn 82 [])) 6 (li cI xs)) 7 (.int .i64 xs.length)) 8 (.int .i64 k)),fun _=>none⟩) (fun k=>k ≤ xs.length ∧ NoneTill (fun i=>(noLet) (nth xs i)) k) (fun k=>xs.length - k) (0) ?_ ?_ ?_);exact ⟨Nat.zero_le _,.zero _⟩;((repeat' (first | exact Qg (by assumption) | exact Qi | refine Qf ?_ ?_ | refine Qh ?_)) <;> simp [-zg,-zd,↓Qb,↓Qa,go_sem]);rintro k ⟨hk,ht⟩)
 | (refine ⟨k + 1,⟨by omega,ht.succ (by simp_all)⟩,by first | omega | (simp;done) | (simp;omega),?_⟩;((repeat' (first | exact Qg (by assumption) | exact Qi | refine Qf ?_ ?_ | refine Qh ?_)) <;> simp [-zg,-zd,↓Qb,↓Qa,go_sem]))
 | (refine Qe ?_)
 | (refine Qt ?_;simp [-zg,-zd,↓Qb,↓Qa,go_sem])
 | (refine Qs ?_;simp [-zg,-zd,↓Qb,↓Qa,go_sem])
 | (refine Qv ?_;simp [-zg,-zd,↓Qb,↓Qa,go_sem,Try.results102])
 | (intro hx;refine zA ?_)
 | (refine ⟨?_,?_⟩ <;> refine zA ?_)
 | (intro hx;constructor <;> intro hs)
 | (constructor <;> intro hs)
 | (refine ⟨?_,fun hs=>?_⟩;refine zA ?_)
 | (refine ⟨fun hs=>?_,?_⟩;rotate_left;refine zA ?_;rotate_left)))
  all_goals (first
 | (rw [findI_at ht c9 (by simp_all)])
 | (rw [zahj ht (by omega)])
 | skip)
@[go_sem] def zady:Con:=.pure fun
  | [.list n_xs c_xs,.fn 82 []]=>((Is cI n_xs c_xs),.int .i64 (findI (noLet) (de cI c_xs)))
  | _=>(False,.any)
theorem zajh:ConOk Try.prog 102 zady:=by
  refine ⟨Qp Try.func102 (by decide) rfl,fun args h=>?_⟩
  revert h
  dsimp only
  split
  · intro h
    obtain ⟨xs,rfl,rfl⟩:=h
    try simp only [Qr] at *
    exact ⟨indexLet_pure xs ,by simp [go_sem]⟩
  · intro h
    exact h.elim
@[go_sem] def Γk6:FuncId → Con:=ext Γk5 102 zady
theorem Γk6_ok:∀ g,ConOk Try.prog g (Γk6 g):=Qo Uv zajh

theorem zamh (xs:List Int)   : Pure Try.prog 81 [li cI xs,.fn 82 []] (.bool (decide (0 ≤ findI noLet xs))):=by
  refine Pure.of_walk Try.func81 rfl (by simp [Try.f81]) (by simp [-zd,go_sem]) fun B hK=>?_
  (repeat' (first
 | refine Qu ?_
 | refine Qc (id:=0) Γk6_ok [] (by kernel_rfl) ?_;simp [-zg,-zd,↓Qb,↓Qa,go_sem]
 | refine Qc (id:=1) Γk6_ok [] (by kernel_rfl) ?_;simp [-zg,-zd,↓Qb,↓Qa,go_sem]
 | (refine Qe ?_)
 | (refine Qt ?_;simp [-zg,-zd,↓Qb,↓Qa,go_sem])
 | (refine Qs ?_;simp [-zg,-zd,↓Qb,↓Qa,go_sem])
 | (refine Qv ?_;simp [-zg,-zd,↓Qb,↓Qa,go_sem,Try.results81])
 | (intro hx;refine zA ?_)
 | (refine ⟨?_,?_⟩ <;> refine zA ?_)
 | (intro hx;constructor <;> intro hs)
 | (constructor <;> intro hs)
 | (refine ⟨?_,fun hs=>?_⟩;refine zA ?_)
 | (refine ⟨fun hs=>?_,?_⟩;rotate_left;refine zA ?_;rotate_left)))
@[go_sem] def zabz:Con:=.pure fun
  | [.list n_xs c_xs,.fn 82 []]=>((Is cI n_xs c_xs),.bool (decide (0 ≤ findI noLet (de cI c_xs))))
  | _=>(False,.any)
theorem zagi:ConOk Try.prog 81 zabz:=by
  refine ⟨Qp Try.func81 (by decide) rfl,fun args h=>?_⟩
  revert h
  dsimp only
  split
  · intro h
    obtain ⟨xs,rfl,rfl⟩:=h
    try simp only [Qr] at *
    exact ⟨zamh xs ,by simp [go_sem]⟩
  · intro h
    exact h.elim
@[go_sem] def Γk7:FuncId → Con:=ext Γk6 81 zabz
theorem Γk7_ok:∀ g,ConOk Try.prog g (Γk7 g):=Qo Γk6_ok zagi

theorem letters_pure (xs:List Int)  : Pure Try.prog 62 [li cI xs] (.bool (B (LetOk xs))):=by
  refine Pure.of_walk Try.func62 rfl (by simp [Try.f62]) (by simp [-zd,go_sem]) fun B hK=>?_
  (repeat' (first
 | refine Qu ?_
 | refine Qc (id:=0) Γk7_ok [] (by kernel_rfl) ?_;simp [-zg,-zd,↓Qb,↓Qa,go_sem]
 | refine Qc (id:=1) Γk7_ok [] (by kernel_rfl) ?_;simp [-zg,-zd,↓Qb,↓Qa,go_sem]
 | (refine Qe ?_)
 | (refine Qt ?_;simp [-zg,-zd,↓Qb,↓Qa,go_sem])
 | (refine Qs ?_;simp [-zg,-zd,↓Qb,↓Qa,go_sem])
 | (refine Qv ?_;simp [-zg,-zd,↓Qb,↓Qa,go_sem,Try.results62])
 | (intro hx;refine zA ?_)
 | (refine ⟨?_,?_⟩ <;> refine zA ?_)
 | (intro hx;constructor <;> intro hs)
 | (constructor <;> intro hs)
 | (refine ⟨?_,fun hs=>?_⟩;refine zA ?_)
 | (refine ⟨fun hs=>?_,?_⟩;rotate_left;refine zA ?_;rotate_left)))
  all_goals (first
 | (rw [Bool.eq_iff_iff,decide_eq_true_eq,find_let,Bool.not_eq_true',B_not])
 | (rw [Bool.eq_iff_iff,B_iff,Bool.not_eq_true',decide_eq_false_iff_not,find_let,Classical.not_not])
 | skip)
  all_goals trace_state
@[go_sem] def zaeo:Con:=.pure fun
  | [.list n_xs c_xs]=>((Is cI n_xs c_xs),.bool (B (LetOk (de cI c_xs))))
  | _=>(False,.any)
theorem zald:ConOk Try.prog 62 zaeo:=by
  refine ⟨Qp Try.func62 (by decide) rfl,fun args h=>?_⟩
  revert h
  dsimp only
  split
  · intro h
    obtain ⟨xs,rfl,rfl⟩:=h
    try simp only [Qr] at *
    exact ⟨letters_pure xs,by simp [go_sem]⟩
  · intro h
    exact h.elim
@[go_sem] def Γk8:FuncId → Con:=ext Γk7 62 zaeo
theorem Γk8_ok:∀ g,ConOk Try.prog g (Γk8 g):=Qo Γk7_ok zald

@[go_sem] def Γk9:FuncId → Con:=Γk8
theorem Γk9_ok:∀ g,ConOk Try.prog g (Γk9 g):=Γk8_ok

theorem zahh (a:List Int) (b:List Int)  : Pure Try.prog 46 [.st [li cI a,li cI b]] (.bool (B (LasOk a b))):=by
  refine Pure.of_walk Try.func46 rfl (by simp [Try.f46]) (by simp [-zd,go_sem]) fun B hK=>?_
  (repeat' (first
 | refine Qu ?_
 | refine Qc (id:=0) Γk9_ok [] (by kernel_rfl) ?_;simp [-zg,-zd,↓Qb,↓Qa,go_sem];try (refine Xb hK 1 ?_;simp [go_sem])
 | refine Qc (id:=1) Γk9_ok [6,11,17] (by kernel_rfl) ?_;simp [-zg,-zd,↓Qb,↓Qa,go_sem];try (refine ⟨fun s1a=>?_,fun s1a=>?_⟩ <;> (try simp [B_iff,B_not] at s1a) <;> try (refine ⟨fun s1b=>?_,fun s1b=>?_⟩ <;> (try simp [B_iff,B_not] at s1b) <;> try (refine ⟨fun s1c=>?_,fun s1c=>?_⟩ <;> (try simp [B_iff,B_not] at s1c) <;> try (refine ⟨fun s1d=>?_,fun s1d=>?_⟩ <;> (try simp [B_iff,B_not] at s1d)))))
 | (refine Qe ?_)
 | (refine Qt ?_;simp [-zg,-zd,↓Qb,↓Qa,go_sem])
 | (refine Qs ?_;simp [-zg,-zd,↓Qb,↓Qa,go_sem])
 | (refine Qv ?_;simp [-zg,-zd,↓Qb,↓Qa,go_sem,Try.results46])
 | (intro hx;refine zA ?_)
 | (refine ⟨?_,?_⟩ <;> refine zA ?_)
 | (intro hx;constructor <;> intro hs)
 | (constructor <;> intro hs)
 | (refine ⟨?_,fun hs=>?_⟩;refine zA ?_)
 | (refine ⟨fun hs=>?_,?_⟩;rotate_left;refine zA ?_;rotate_left)))
  all_goals (first
 | (rintro ⟨g1,g2,g3,g4,g5⟩;omega)
 | (rintro ⟨g1,g2,g3,g4,g5⟩;simp_all;done)
 | (rw [Bool.eq_iff_iff,B_iff,Bool.and_eq_true,decide_eq_true_eq,decide_eq_true_eq];exact ⟨fun h=>⟨s1a,s1b,by omega,by omega,by omega⟩,fun h=>by have:=h.2.2.2;omega⟩)
 | skip)
@[go_sem] def zaau:Con:=.pure fun
  | [.st [.list n_a c_a,.list n_b c_b]]=>((Is cI n_a c_a) ∧ (Is cI n_b c_b),.bool (B (LasOk (de cI c_a) (de cI c_b))))
  | _=>(False,.any)
theorem zaej:ConOk Try.prog 46 zaau:=by
  refine ⟨Qp Try.func46 (by decide) rfl,fun args h=>?_⟩
  revert h
  dsimp only
  split
  · intro h
    obtain ⟨⟨a,rfl,rfl⟩,⟨b,rfl,rfl⟩⟩:=h
    try simp only [Qr] at *
    exact ⟨zahh a b,by simp [go_sem]⟩
  · intro h
    exact h.elim
@[go_sem] def Γk10:FuncId → Con:=ext Γk9 46 zaau
theorem Γk10_ok:∀ g,ConOk Try.prog g (Γk10 g):=Qo Γk9_ok zaej

def turn (a b:List Int) (i:Int):Nat:=((i - a.length).tmod b.length).toNat
@[go_sem] def Γk11:FuncId → Con:=Γk10
theorem Γk11_ok:∀ g,ConOk Try.prog g (Γk11 g):=Γk10_ok

theorem nth_appK {xs ys:List Int} {i:Nat} (h:xs.length ≤ i):nth (xs ++ ys) i = nth ys (i - xs.length):=by
  simp only [nth,List.getD_eq_getElem?_getD];rw [List.getElem?_append_right h]
@[go_sem] def Γk12:FuncId → Con:=Γk11
theorem Γk12_ok:∀ g,ConOk Try.prog g (Γk12 g):=Γk11_ok
def nxI (a b:List Int) (i:Nat):Nat:=if i + 1 = a.length + b.length then a.length else i + 1
theorem nxI_lt {a b:List Int} {i:Nat} (h:0 < b.length) (hi:i < a.length + b.length):nxI a b i < a.length + b.length:=by
  unfold nxI;split <;> omega
@[go_sem] def Γk13:FuncId → Con:=Γk12
theorem zakb:∀ g,ConOk Try.prog g (Γk13 g):=Γk12_ok

theorem implNext_pure (a:List Int) (b:List Int) (i:Int) (hL:LasOk a b) (h0:0 ≤ i) (h1:i < (a.length:Int) + b.length):Pure Try.prog 65 [.st [li cI a,li cI b],.int .i64 i] (.int .i64 ((nxI a b i.toNat:Nat):Int)):=by
  refine Pure.of_walk Try.func65 rfl (by simp [Try.f65]) (by simp [-zd,go_sem]) fun B hK=>?_
  obtain ⟨l1,l2,l3,l4,l5⟩:=id hL
  all_goals (repeat' (first
 | refine Qu ?_
 | refine Qc (id:=0) zakb [] (by kernel_rfl) ?_;simp [-zg,-zd,↓Qb,↓Qa,go_sem];try (refine Xb hK 2 ?_;simp [go_sem])
 | refine Qc (id:=1) zakb [] (by kernel_rfl) ?_;simp [-zg,-zd,↓Qb,↓Qa,go_sem,Qw (x:=i + 1) (by omega) (by omega),Qw (x:=(a.length:Int) + (b.length:Int)) (by omega) (by omega)]
 | refine Qc (id:=2) zakb [] (by kernel_rfl) ?_;simp [-zg,-zd,↓Qb,↓Qa,go_sem]
 | refine Qc (id:=3) zakb [] (by kernel_rfl) ?_;simp [-zg,-zd,↓Qb,↓Qa,go_sem,Qw (x:=i + 1) (by omega) (by omega)]
 | refine Qd (c:=.tmp 14) ?_;simp [-zg,-zd,↓Qb,↓Qa,go_sem];try first | (refine ⟨?_,?_⟩ <;> refine zA ?_) | (refine ⟨fun c14=>?_,fun c14=>?_⟩ <;> (try simp [B_iff,B_not] at c14))
 | (refine Qe ?_)
 | (refine Qt ?_;simp [-zg,-zd,↓Qb,↓Qa,go_sem])
 | (refine Qs ?_;simp [-zg,-zd,↓Qb,↓Qa,go_sem])
 | (refine Qv ?_;simp [-zg,-zd,↓Qb,↓Qa,go_sem,Try.results65])
 | (intro hx;refine zA ?_)
 | (refine ⟨?_,?_⟩ <;> refine zA ?_)
 | (intro hx;constructor <;> intro hs)
 | (constructor <;> intro hs)
 | (refine ⟨?_,fun hs=>?_⟩;refine zA ?_)
 | (refine ⟨fun hs=>?_,?_⟩;rotate_left;refine zA ?_;rotate_left)))
  all_goals (first
 | (unfold nxI;rw [if_pos (by omega)])
 | (unfold nxI;rw [if_neg (by omega)];omega)
 | skip)
@[go_sem] def zadz:Con:=.pure fun
  | [.st [.list n_a c_a,.list n_b c_b],.int .i64 i]=>((Is cI n_a c_a) ∧ (Is cI n_b c_b) ∧ (LasOk (de cI c_a) (de cI c_b)) ∧ (0 ≤ i) ∧ (i < ((de cI c_a).length:Int) + (de cI c_b).length),.int .i64 ((nxI (de cI c_a) (de cI c_b) i.toNat:Nat):Int))
  | _=>(False,.any)
theorem zaji:ConOk Try.prog 65 zadz:=by
  refine ⟨Qp Try.func65 (by decide) rfl,fun args h=>?_⟩
  revert h
  dsimp only
  split
  · intro h
    obtain ⟨⟨a,rfl,rfl⟩,⟨b,rfl,rfl⟩,hL,h0,h1⟩:=h
    try simp only [Qr] at *
    exact ⟨implNext_pure a b _ hL h0 h1,by simp [go_sem]⟩
  · intro h
    exact h.elim
@[go_sem] def Γk14:FuncId → Con:=ext Γk13 65 zadz
theorem Γk14_ok:∀ g,ConOk Try.prog g (Γk14 g):=Qo zakb zaji

theorem all_pure (a:List Int) (b:List Int) (hL:LasOk a b):Pure Try.prog 63 [.st [li cI a,li cI b]] (fr 1 cI (a ++ b)):=by
  refine Pure.of_walk Try.func63 rfl (by simp [Try.f63]) (by simp [-zd,go_sem]) fun B hK=>?_
  obtain ⟨l1,l2,l3,l4,l5⟩:=id hL;have hf:[a,b].flatten = a ++ b:=(by simp)
  all_goals (repeat' (first
 | refine Qu ?_
 | refine Qc (id:=0) Γk14_ok [] (by kernel_rfl) ?_;simp [-zg,-zd,↓Qb,↓Qa,go_sem];try (refine Xb hK 1 ?_;simp [go_sem])
 | refine Qc (id:=1) Γk14_ok [] (by kernel_rfl) ?_;simp [-zg,-zd,↓Qb,↓Qa,go_sem,hf,makeD_two,(show a.length + b.length ≤ 1048576 by omega)]
 | (refine Qe ?_)
 | (refine Qt ?_;simp [-zg,-zd,↓Qb,↓Qa,go_sem])
 | (refine Qs ?_;simp [-zg,-zd,↓Qb,↓Qa,go_sem])
 | (refine Qv ?_;simp [-zg,-zd,↓Qb,↓Qa,go_sem,Try.results63])
 | (intro hx;refine zA ?_)
 | (refine ⟨?_,?_⟩ <;> refine zA ?_)
 | (intro hx;constructor <;> intro hs)
 | (constructor <;> intro hs)
 | (refine ⟨?_,fun hs=>?_⟩;refine zA ?_)
 | (refine ⟨fun hs=>?_,?_⟩;rotate_left;refine zA ?_;rotate_left)))
@[go_sem] def all_pureC:Con:=.pure fun
  | [.st [.list n_a c_a,.list n_b c_b]]=>((Is cI n_a c_a) ∧ (Is cI n_b c_b) ∧ (LasOk (de cI c_a) (de cI c_b)),fr 1 cI ((de cI c_a) ++ (de cI c_b)))
  | _=>(False,.any)
theorem all_pureC_ok:ConOk Try.prog 63 all_pureC:=by
  refine ⟨Qp Try.func63 (by decide) rfl,fun args h=>?_⟩
  revert h
  dsimp only
  split
  · intro h
    obtain ⟨⟨a,rfl,rfl⟩,⟨b,rfl,rfl⟩,hL⟩:=h
    try simp only [Qr] at *
    exact ⟨all_pure a b hL,by simp [go_sem]⟩
  · intro h
    exact h.elim
@[go_sem] def Γk15:FuncId → Con:=ext Γk14 63 all_pureC
theorem Γk15_ok:∀ g,ConOk Try.prog g (Γk15 g):=Qo Γk14_ok all_pureC_ok

def tk (x:Int) (e:Tr4):Bool:=decide (bitsD .and .i64 x e.2.1 = e.2.2.1)
@[go_sem] def Γk16:FuncId → Con:=Γk15
theorem Γk16_ok:∀ g,ConOk Try.prog g (Γk16 g):=Γk15_ok

theorem takes_pure (p:Int) (q:Int) (r:Int) (s:Int) (x:Int)  : Pure Try.prog 64 [.st [.int .i64 p,.int .i64 q,.int .i64 r,.int .i64 s],.int .i64 x] (.bool (tk x (p,q,r,s))):=by
  refine Pure.of_walk Try.func64 rfl (by simp [Try.f64]) (by simp [-zd,go_sem]) fun B hK=>?_
  (repeat' (first
 | refine Qu ?_
 | refine Qc (id:=0) Γk16_ok [] (by kernel_rfl) ?_;simp [-zg,-zd,↓Qb,↓Qa,go_sem,tk];try (refine Xb hK 2 ?_;simp [go_sem])
 | refine Qc (id:=1) Γk16_ok [] (by kernel_rfl) ?_;simp [-zg,-zd,↓Qb,↓Qa,go_sem,tk]
 | (refine Qe ?_)
 | (refine Qt ?_;simp [-zg,-zd,↓Qb,↓Qa,go_sem])
 | (refine Qs ?_;simp [-zg,-zd,↓Qb,↓Qa,go_sem])
 | (refine Qv ?_;simp [-zg,-zd,↓Qb,↓Qa,go_sem,Try.results64,tk])
 | (intro hx;refine zA ?_)
 | (refine ⟨?_,?_⟩ <;> refine zA ?_)
 | (intro hx;constructor <;> intro hs)
 | (constructor <;> intro hs)
 | (refine ⟨?_,fun hs=>?_⟩;refine zA ?_)
 | (refine ⟨fun hs=>?_,?_⟩;rotate_left;refine zA ?_;rotate_left)))
@[go_sem] def zahp:Con:=.pure fun
  | [.st [.int .i64 p,.int .i64 q,.int .i64 r,.int .i64 s],.int .i64 x]=>(True,.bool (tk x (p,q,r,s)))
  | _=>(False,.any)
theorem takes_pureC_ok:ConOk Try.prog 64 zahp:=by
  refine ⟨Qp Try.func64 (by decide) rfl,fun args h=>?_⟩
  revert h
  dsimp only
  split
  · intro h
    skip
    skip
    exact ⟨takes_pure _ _ _ _ _,by simp [go_sem]⟩
  · intro h
    exact h.elim
@[go_sem] def Γk17:FuncId → Con:=ext Γk16 64 zahp
theorem Xz:∀ g,ConOk Try.prog g (Γk17 g):=Qo Γk16_ok takes_pureC_ok


def aStep (n:Nat) (x:Int) (P Q:Nat) (r:List (List Int)) (e:Tr4):List (List Int):=if tk x e = true then addE r ((P:Int) + e.1) ((Q:Int) + e.2.2.2) else r
def aIn (n:Nat) (es:List Tr4) (x:Int) (P Q:Nat) (r:List (List Int)) (k:Nat):List (List Int):=(es.take k).foldl (aStep n x P Q) r
theorem aIn_zero (n:Nat) (es:List Tr4) (x:Int) (P Q:Nat) (r:List (List Int)):aIn n es x P Q r 0 = r:=by simp [aIn]
theorem zamq {n:Nat} {es:List Tr4} {x:Int} {P Q:Nat} {r:List (List Int)} {k:Nat} (h:k < es.length):aIn n es x P Q r (k + 1) = aStep n x P Q (aIn n es x P Q r k) (nth es k):=by
  unfold aIn;rw [List.take_succ_eq_append_getElem h,← Qy h,List.foldl_append];rfl
def aRow (n:Nat) (es:List Tr4) (a b:List Int):Nat → List (List Int)
  | 0=>zrP ((a.length + b.length) * n) []
  | i + 1=>aIn n es (nth (a ++ b) i) (i * n) (nxI a b i * n) (aRow n es a b i) es.length
structure AR (N M:Nat) (r:List (List Int)):Prop where
  len:r.length = N
  rng:∀ i,i < N → ∀ y,y ∈ nth r i → 0 ≤ y ∧ y < N
  row:∀ i,i < N → (nth r i).length ≤ M
theorem AR.start (N:Nat):AR N 0 (zrP N []):=by
  have h:∀ i,i < N → nth (zrP N ([]:List Int)) i = []:=fun i hi=>by rw [Qy (by simpa using hi)];simp
  exact ⟨by simp,fun i hi y hy=>(by rw [h i hi] at hy;cases hy),fun i hi=>(by rw [h i hi];simp)⟩
theorem AR.step {N M n:Nat} {r:List (List Int)} (h:AR N M r) {x:Int} {P Q:Nat} {e:Tr4} (h1:0 ≤ e.1) (h2:(P:Int) + e.1 < N) (h3:0 ≤ e.2.2.2) (h4:(Q:Int) + e.2.2.2 < N):AR N (M + 1) (aStep n x P Q r e):=by
  unfold aStep
  split
  · have hf:((P:Int) + e.1).toNat < r.length:=by rw [h.len];omega
    refine ⟨by rw [addE_len,h.len],fun i hi y hy=>?_,fun i hi=>?_⟩
    · rw [mem_addE hf] at hy
      rcases hy with q | ⟨_,rfl⟩
      · exact h.rng i hi y q
      · omega
    · rw [nth_addE hf]
      have:=h.row i hi
      split
      · simp;omega
      · omega
  · exact ⟨h.len,h.rng,fun i hi=>by have:=h.row i hi;omega⟩
theorem AR.aIn {N M n:Nat} {r:List (List Int)} (h:AR N M r) {es:List Tr4} (hr:InRng n es) {x:Int} {P Q:Nat} (hP:P + n ≤ N) (hQ:Q + n ≤ N):∀ k,k ≤ es.length → AR N (M + k) (aIn n es x P Q r k)
  | 0,_=>by rw [aIn_zero];exact h
  | k + 1,hk=>by
    rw [zamq (by omega)]
    obtain ⟨⟨g1,g2⟩,g3,g4⟩:=hr k (by omega)
    exact (h.aIn hr hP hQ k (by omega)).step g1 (by omega) g3 (by omega)
theorem Uu {i m n:Nat} (h:i < m):i * n + n ≤ m * n:=by rw [← Nat.succ_mul];exact Nat.mul_le_mul_right n h
theorem aRow_ok {n:Nat} {es:List Tr4} (hr:InRng n es) {a b:List Int} (hb:0 < b.length):∀ i,i ≤ a.length + b.length → AR ((a.length + b.length) * n) (i * es.length) (aRow n es a b i)
  | 0,_=>by simp only [aRow,Nat.zero_mul];exact AR.start _
  | i + 1,hi=>by
    have ih:=aRow_ok hr (a:=a) (b:=b) hb i (by omega)
    have:=ih.aIn hr (x:=nth (a ++ b) i) (Uu (n:=n) (show i < a.length + b.length by omega)) (Uu (n:=n) (nxI_lt (a:=a) (b:=b) hb (show i < a.length + b.length by omega))) es.length (Nat.le_refl _)
    rw [Nat.succ_mul]
    exact this
def aAll (n:Nat) (es:List Tr4) (a b:List Int):List (List Int):=aRow n es a b (a.length + b.length)
theorem aAll_ok {n:Nat} {es:List Tr4} (hr:InRng n es) {a b:List Int} (hL:LasOk a b) (hn:n ≤ 64) (he:es.length ≤ 2048):Xp (aAll n es a b) ∧ NextS (aAll n es a b) ∧ (aAll n es a b).length = (a.length + b.length) * n ∧ (a.length + b.length) * n ≤ 10240:=by
  obtain ⟨l1,l2,l3,l4,l5⟩:=hL
  have h:=aRow_ok hr (a:=a) (b:=b) (by omega) (a.length + b.length) (Nat.le_refl _)
  have hm:(a.length + b.length) * n ≤ 160 * 64:=Nat.mul_le_mul (by omega) hn
  have hs:(a.length + b.length) * es.length ≤ 160 * 2048:=Nat.mul_le_mul (by omega) he
  refine ⟨fun j hj k hk=>?_,fun j hj=>?_,h.len,by omega⟩
  · unfold aAll at hj hk ⊢
    rw [h.len] at hj ⊢
    exact h.rng j hj _ (Xl hk)
  · unfold aAll at hj ⊢
    rw [h.len] at hj
    have:=h.row j hj
    omega
def Acp (n:Nat) (acc:List Bool) (ss:List Int) (nx:List (List Int)):Prop:=∃ x:Nat,x < nx.length ∧ RchS nx ss (x:Int) ∧ Cyc nx (x:Int) ∧ nth acc (x % n) = true
theorem tmod_nat (k n:Nat):((k:Int)).tmod (n:Int) = ((k % n:Nat):Int):=by
  rw [Int.tmod_eq_emod_of_nonneg (by omega)];exact (Int.natCast_emod k n).symm
theorem oN_addG {xs:List (List Int)} {f t:Int} (hf:f.toNat < xs.length) (junk:List D):(cat oN xs ++ junk).set f.toNat (.fr 1 ((nth xs f.toNat).length + 1) (cat cI (nth xs f.toNat ++ [t]))) = cat oN (addE xs f t) ++ junk:=by
  have:=oN_set (xs:=xs) (i:=f.toNat) (junk:=junk) (y:=nth xs f.toNat ++ [t]) hf
  rw [addE,← this,zahv (by simp)]
  simp

theorem AutOk.starts {a:List Int} {n:Nat} {c:List Tr4} (h:AutOk a n c) {N:Nat} (hN:n ≤ N):Starts N a:=by
  have h1:=h.2.2.1
  have hge:=zagt (a:=a) (k:=a.length) (fun i hi=>(h1 i hi).1)
  have hlt:∀ i j,i < j → j < a.length → nth a i < nth a j:=by
    intro i j hij
    induction j with
    | zero=>omega
    | succ j ih =>
      intro hj
      have h2:=(h1 (j + 1) hj).1
      simp only [ahead] at h2
      by_cases e:i = j
      · subst e;exact h2
      · have:=ih (by omega) (by omega);omega
  refine ⟨fun x hx=>?_,?_⟩
  · obtain ⟨i,hi,rfl⟩:=zaob hx
    have:=hge i hi
    have:=(h1 i hi).2
    omega
  · rw [List.nodup_iff_pairwise_ne,List.pairwise_iff_getElem]
    intro i j hi hj hij e
    have:=hlt i j hij hj
    rw [Qy hi,Qy hj] at this
    omega
def gdA (n:Nat) (acc:List Bool) (ss:List Int) (nx:List (List Int)) (i:Nat):Prop:=RchS nx ss (i:Int) ∧ Cyc nx (i:Int) ∧ nth acc (i % n) = true
theorem acp_none {n:Nat} {acc:List Bool} {ss:List Int} {nx:List (List Int)} (h:∀ i,i < nx.length → ¬ gdA n acc ss nx i):¬ Acp n acc ss nx:=fun ⟨x,x1,x2⟩=>h x x1 x2
set_option maxHeartbeats 8000000 in

theorem accepts_pure (a:List Int) (b:List Bool) (c:List Tr4) (s:List Int) (l:List Int) (hA:AutOk a b.length c) (hL:LasOk s l):Pure Try.prog 47 [.st [li cI a,li cB b,li cT c],.st [li cI s,li cI l]] (.bool (B (Acp b.length b a (aAll b.length c s l)))):=by
  refine Pure.of_walk Try.func47 rfl (by simp [Try.f47]) (by simp [-zd,go_sem]) fun B hK=>?_
  obtain ⟨n1,n2,n3,n4⟩:=hA.sizes;have hr:=hA.rng;obtain ⟨l1,l2,l3,l4,l5⟩:=id hL;obtain ⟨hx,hs,hlen,hle⟩:=aAll_ok hr hL n2 n4;have hsr:=fun i (hi:i < a.length)=>hA.2.2.1 i hi
  all_goals (repeat' (first
 | refine Qu ?_
 | refine Qc (id:=0) Xz [] (by kernel_rfl) ?_;simp [-zg,-zd,↓Qb,↓Qa,go_sem];try ((refine Xb hK 2 ?_);(refine Xb hK 3 ?_);simp [go_sem])
 | refine Xr (id:=1) Xz mixed [] [] (by kernel_rfl) (by kernel_rfl) (by simp [-zg,-zd,↓Qb,↓Qa,go_sem,hL]) ?_;simp [-zg,-zd,↓Qb,↓Qa,go_sem,hL];try ((refine Xb hK 5 ?_);(simp [go_sem]);(obtain ⟨w,hw⟩:∃ w,s ++ l = w:=⟨_,rfl⟩);(have hwl:w.length = s.length + l.length:=(by rw [← hw];simp));(try rw [hw]);(have e0:(s.length:Int) + (l.length:Int) = (w.length:Int):=(by omega));(have e1:s.length + l.length = w.length:=hwl.symm);(try rw [e1]);(rw [e1] at hlen hle);(obtain ⟨Qn,hQn⟩:∃ Qn,w.length * b.length = Qn:=⟨_,rfl⟩);(rw [hQn] at hlen hle);(have hmul:(w.length:Int) * (b.length:Int) = (Qn:Int):=(by rw [← hQn];exact (Int.natCast_mul ..).symm));(have hbQ:b.length ≤ Qn:=(by have:=Uu (n:=b.length) (show 0 < w.length by omega);omega)))
 | refine Qc (id:=2) Xz [] (by kernel_rfl) ?_;simp [-zg,-zd,↓Qb,↓Qa,go_sem,hmul,Qw (x:=(Qn:Int)) (by omega) (by omega),make_oN,(by omega:24 * (Qn:Int) ≤ 281474976710656),(by omega:(Qn:Int) ≤ 281474976710656),(by omega:(Qn:Int) ≤ 9223372036854775807),(by omega:(0:Int) ≤ (Qn:Int))];try ((refine Zk 7 rfl fun b7 c7 j7 q7 hc7 hj7=>?_);(clear q7);(refine Qq (fun H1=>H1 b7 = some (cat oN (aRow b.length c s l 0) ++ zrP j7 D.any)) (by simp [upd,aRow,e1,hQn]) fun H1 w7=>?_))
 | refine Qc (id:=3) Xz [] (by kernel_rfl) ?_;simp [-zg,-zd,↓Qb,↓Qa,go_sem]
 | refine Qc (id:=4) Xz [] (by kernel_rfl) ?_;simp [-zg,-zd,↓Qb,↓Qa,go_sem]
 | refine Qc (id:=5) Xz [] (by kernel_rfl) ?_;simp [-zg,-zd,↓Qb,↓Qa,go_sem,c28,Qj c28,zsP c28]
 | refine Qc (id:=6) Xz [] (by kernel_rfl) ?_;simp [-zg,-zd,↓Qb,↓Qa,go_sem];try ((have hqw:q.1 < w.length:=(by omega));(have hP':=Uu (n:=b.length) hqw);(have hzl:nxI s l q.1 < w.length:=(by rw [hwl];exact nxI_lt (by omega) (by omega)));(have hZ':=Uu (n:=b.length) hzl);(have hAR0:=aRow_ok hr (a:=s) (b:=l) (by omega) q.1 (by omega));(rw [← hwl] at hAR0);(have hcm:q.1 * c.length ≤ 160 * 2048:=Nat.mul_le_mul (by omega) n4);(have hqn:nxI s l ((q.1:Int)).toNat = nxI s l q.1:=(by rw [Int.toNat_natCast]));(have hPi:(q.1:Int) * (b.length:Int) = ((q.1 * b.length:Nat):Int):=(Int.natCast_mul ..).symm);(have hZi:((nxI s l q.1:Nat):Int) * (b.length:Int) = ((nxI s l q.1 * b.length:Nat):Int):=(Int.natCast_mul ..).symm);(rw [hQn] at hP' hZ' hAR0);(have hin:=fun k hk=>hAR0.aIn hr (x:=nth w q.1) hP' hZ' k hk);(have hsucc:aRow b.length c s l (q.1 + 1) = aIn b.length c (nth w q.1) (q.1 * b.length) (nxI s l q.1 * b.length) (aRow b.length c s l q.1) c.length:=(by rw [← hw];rfl));(obtain ⟨P,hP⟩:∃ P,q.1 * b.length = P:=⟨_,rfl⟩);(obtain ⟨Z,hZ⟩:∃ Z,nxI s l q.1 * b.length = Z:=⟨_,rfl⟩);(rw [hP] at hP' hPi hsucc);(rw [hZ] at hZ' hZi hsucc);(simp only [hP,hZ] at hin);(obtain ⟨z,hz⟩:∃ z,nxI s l q.1 = z:=⟨_,rfl⟩);(rw [hz] at hZi hzl hqn);(obtain ⟨x,hxw⟩:∃ x,nth w q.1 = x:=⟨_,rfl⟩);(try rw [hxw]);(rw [hxw] at hsucc);(simp only [hxw] at hin))
 | refine Qc (id:=7) Xz [] (by kernel_rfl) ?_;simp [-zg,-zd,↓Qb,↓Qa,go_sem]
 | refine Qc (id:=8) Xz [] (by kernel_rfl) ?_;simp [-zg,-zd,↓Qb,↓Qa,go_sem,c36,Qj c36,zsP c36];try ((refine Xb hK 11 ?_);(simp [go_sem]))
 | refine Qc (id:=9) Xz [] (by kernel_rfl) ?_;simp [-zg,-zd,↓Qb,↓Qa,go_sem];try ((cases htk:tk x (nth c y.1));rotate_left;(obtain ⟨f,hf⟩:∃ f,(P:Int) + (nth c y.1).1 = f:=⟨_,rfl⟩);(obtain ⟨t,ht⟩:∃ t,(Z:Int) + (nth c y.1).2.2.2 = t:=⟨_,rfl⟩);(obtain ⟨⟨p0,p1⟩,p2,p3⟩:=hr y.1 c36);(have f0:0 ≤ f:=(by omega));(have f1:f < (Qn:Int):=(by omega));(have t0:0 ≤ t:=(by omega));(have t1:t < (Qn:Int):=(by omega));(have hft:f.toNat < Qn:=(by omega));(have hAR:=hin y.1 (by omega));(have hnl:=hAR.len);(have hrow:=hAR.row f.toNat hft);(have hnext:(aIn b.length c x P Z (aRow b.length c s l q.1) (y.1 + 1)) = addE (aIn b.length c x P Z (aRow b.length c s l q.1) y.1) f t:=(by rw [zamq c36,aStep,if_pos htk,hf,ht]));(have hadd:=oN_addG (xs:=(aIn b.length c x P Z (aRow b.length c s l q.1) y.1)) (f:=f) (t:=t) (by omega) (zrP j7 D.any));(rw [← hnext] at hadd);(have hgt:=oN_get (xs:=(aIn b.length c x P Z (aRow b.length c s l q.1) y.1)) (i:=f.toNat) (by omega) (zrP j7 D.any));(have hcl:=oN_clen (xs:=(aIn b.length c x P Z (aRow b.length c s l q.1) y.1)) (junk:=zrP j7 D.any));(rw [List.length_replicate,hnl] at hcl);(by_cases he:(nth (aIn b.length c x P Z (aRow b.length c s l q.1) y.1) f.toNat) = []);(rw [he,oNd_nil] at hgt);(rw [he] at hadd);(obtain ⟨cells,hce⟩:∃ cells,(cat oN (aIn b.length c x P Z (aRow b.length c s l q.1) y.1) ++ zrP j7 D.any) = cells:=⟨_,rfl⟩);(rw [hce] at hgt hcl e2 hadd);(have hadd1:cells.set f.toNat (.fr 1 1 [.int .i64 t]) = cat oN (aIn b.length c x P Z (aRow b.length c s l q.1) (y.1 + 1)) ++ zrP j7 D.any:=hadd);rotate_left;(have hcell:=oN_cell (by omega) he (zrP j7 D.any));(refine Xs b7 f.toNat e2 hcell fun rb rcp rj q8 hrc hrj=>?_);(dsimp only at q8);(have rn:¬ rb = b7:=(by rintro rfl;rw [e2] at q8;cases q8));(clear q8);(have hset2:∀ z,((cat oN (aIn b.length c x P Z (aRow b.length c s l q.1) y.1) ++ zrP j7 D.any).set f.toNat (D.sl rb 1 0 (nth (aIn b.length c x P Z (aRow b.length c s l q.1) y.1) f.toNat).length rcp)).set f.toNat z = (cat oN (aIn b.length c x P Z (aRow b.length c s l q.1) y.1) ++ zrP j7 D.any).set f.toNat z:=fun z=>List.set_set ..);(have hgi2:((cat oN (aIn b.length c x P Z (aRow b.length c s l q.1) y.1) ++ zrP j7 D.any).set f.toNat (D.sl rb 1 0 (nth (aIn b.length c x P Z (aRow b.length c s l q.1) y.1) f.toNat).length rcp))[f.toNat]? = some (D.sl rb 1 0 (nth (aIn b.length c x P Z (aRow b.length c s l q.1) y.1) f.toNat).length rcp):=List.getElem?_set_self (by rw [oN_clen];omega));(have hgt2:((cat oN (aIn b.length c x P Z (aRow b.length c s l q.1) y.1) ++ zrP j7 D.any).set f.toNat (D.sl rb 1 0 (nth (aIn b.length c x P Z (aRow b.length c s l q.1) y.1) f.toNat).length rcp)).getD f.toNat D.any = (D.sl rb 1 0 (nth (aIn b.length c x P Z (aRow b.length c s l q.1) y.1) f.toNat).length rcp):=(by rw [List.getD_eq_getElem?_getD,hgi2];rfl));(have hadd2:=hadd);(rw [← hset2] at hadd2);(have hcl2:((cat oN (aIn b.length c x P Z (aRow b.length c s l q.1) y.1) ++ zrP j7 D.any).set f.toNat (D.sl rb 1 0 (nth (aIn b.length c x P Z (aRow b.length c s l q.1) y.1) f.toNat).length rcp)).length = Qn + j7:=(by rw [List.length_set];exact hcl));(obtain ⟨cells,hce⟩:∃ cells,(cat oN (aIn b.length c x P Z (aRow b.length c s l q.1) y.1) ++ zrP j7 D.any).set f.toNat (D.sl rb 1 0 (nth (aIn b.length c x P Z (aRow b.length c s l q.1) y.1) f.toNat).length rcp) = cells:=⟨_,rfl⟩);(refine Qq (fun H4=>H4 b7 = some cells ∧ H4 rb = some (cat cI (nth (aIn b.length c x P Z (aRow b.length c s l q.1) y.1) f.toNat) ++ zrP rj D.any)) ⟨by simp [upd,rn,Ne.symm rn,← hce],by simp [upd,rn,Ne.symm rn]⟩ fun H4 ⟨g4,hrb⟩=>?_);(rw [hce] at hgt2 hadd2 hcl2 hgi2))
 | refine Xq (id:=10) Xz mixed [(b7,cells)] [] [7,8,6,11] (by kernel_rfl) (by kernel_rfl) (by simp [-zg,-zd,↓Qb,↓Qa,go_sem,Zv,g4,hrb,rn,Ne.symm rn,hgt2,hcl2,Ja,hadd2,hPi,hZi,hf,ht,hL,hz,Qw (x:=(P:Int)) (by omega) (by omega),Qw (x:=f) (by omega) (by omega),Qw (x:=(Z:Int)) (by omega) (by omega),Qw (x:=t) (by omega) (by omega),(show (0:Int) ≤ (q.1:Int) by omega),(show (q.1:Int) < (s.length:Int) + (l.length:Int) by omega),hqn,(show f.toNat < Qn + j7 by omega),(show f.toNat + 1 ≤ Qn + j7 by omega),f0,f1,hft,(show rcp ≤ (nth (aIn b.length c x P Z (aRow b.length c s l q.1) y.1) f.toNat).length + rj by omega),(show (nth (aIn b.length c x P Z (aRow b.length c s l q.1) y.1) f.toNat).length + 1 ≤ 9223372036854775807 by omega),(show (nth (aIn b.length c x P Z (aRow b.length c s l q.1) y.1) f.toNat).length ≤ 9223372036854775806 by omega),(show 2 * ((nth (aIn b.length c x P Z (aRow b.length c s l q.1) y.1) f.toNat).length + 1) * 8 ≤ 281474976710656 by omega),Xy]) (by simp [-zg,-zd,↓Qb,↓Qa,go_sem,Zv,g4,hrb,rn,Ne.symm rn,hgt2,hcl2,Ja,hadd2,hPi,hZi,hf,ht,hL,hz,Qw (x:=(P:Int)) (by omega) (by omega),Qw (x:=f) (by omega) (by omega),Qw (x:=(Z:Int)) (by omega) (by omega),Qw (x:=t) (by omega) (by omega),(show (0:Int) ≤ (q.1:Int) by omega),(show (q.1:Int) < (s.length:Int) + (l.length:Int) by omega),hqn,(show f.toNat < Qn + j7 by omega),(show f.toNat + 1 ≤ Qn + j7 by omega),f0,f1,hft,(show rcp ≤ (nth (aIn b.length c x P Z (aRow b.length c s l q.1) y.1) f.toNat).length + rj by omega),(show (nth (aIn b.length c x P Z (aRow b.length c s l q.1) y.1) f.toNat).length + 1 ≤ 9223372036854775807 by omega),(show (nth (aIn b.length c x P Z (aRow b.length c s l q.1) y.1) f.toNat).length ≤ 9223372036854775806 by omega),(show 2 * ((nth (aIn b.length c x P Z (aRow b.length c s l q.1) y.1) f.toNat).length + 1) * 8 ≤ 281474976710656 by omega),Xy]) ?_;simp [-zg,-zd,↓Qb,↓Qa,go_sem,Zv,g4,hrb,rn,Ne.symm rn,hgt2,hcl2,Ja,hadd2,hPi,hZi,hf,ht,hL,hz,Qw (x:=(P:Int)) (by omega) (by omega),Qw (x:=f) (by omega) (by omega),Qw (x:=(Z:Int)) (by omega) (by omega),Qw (x:=t) (by omega) (by omega),(show (0:Int) ≤ (q.1:Int) by omega),(show (q.1:Int) < (s.length:Int) + (l.length:Int) by omega),hqn,(show f.toNat < Qn + j7 by omega),(show f.toNat + 1 ≤ Qn + j7 by omega),f0,f1,hft,(show rcp ≤ (nth (aIn b.length c x P Z (aRow b.length c s l q.1) y.1) f.toNat).length + rj by omega),(show (nth (aIn b.length c x P Z (aRow b.length c s l q.1) y.1) f.toNat).length + 1 ≤ 9223372036854775807 by omega),(show (nth (aIn b.length c x P Z (aRow b.length c s l q.1) y.1) f.toNat).length ≤ 9223372036854775806 by omega),(show 2 * ((nth (aIn b.length c x P Z (aRow b.length c s l q.1) y.1) f.toNat).length + 1) * 8 ≤ 281474976710656 by omega),Xy];try ((refine Qq (fun H1=>H1 b7 = some (cat oN (aIn b.length c x P Z (aRow b.length c s l q.1) (y.1 + 1)) ++ zrP j7 D.any)) (by first | (simp [upd,Zv,rn,Ne.symm rn,hadd2];done) | (simp [upd,Zv,hadd1];done)) fun H9 t3=>?_);(have fl:True ∧ True:=⟨trivial,trivial⟩))
 | refine Xq (id:=10) Xz mixed [(b7,cells)] [] [7,8,6,11] (by kernel_rfl) (by kernel_rfl) (by simp [-zg,-zd,↓Qb,↓Qa,go_sem,Zv,e2,hgt,hcl,hadd1,hPi,hZi,hf,ht,hL,hz,Qw (x:=(P:Int)) (by omega) (by omega),Qw (x:=f) (by omega) (by omega),Qw (x:=(Z:Int)) (by omega) (by omega),Qw (x:=t) (by omega) (by omega),(show (0:Int) ≤ (q.1:Int) by omega),(show (q.1:Int) < (s.length:Int) + (l.length:Int) by omega),hqn,(show f.toNat < Qn + j7 by omega),(show f.toNat + 1 ≤ Qn + j7 by omega),f0,f1,hft,(show makeD [D.int .i64 0] 1 = [D.int .i64 0] from rfl)]) (by simp [-zg,-zd,↓Qb,↓Qa,go_sem,Zv,e2,hgt,hcl,hadd1,hPi,hZi,hf,ht,hL,hz,Qw (x:=(P:Int)) (by omega) (by omega),Qw (x:=f) (by omega) (by omega),Qw (x:=(Z:Int)) (by omega) (by omega),Qw (x:=t) (by omega) (by omega),(show (0:Int) ≤ (q.1:Int) by omega),(show (q.1:Int) < (s.length:Int) + (l.length:Int) by omega),hqn,(show f.toNat < Qn + j7 by omega),(show f.toNat + 1 ≤ Qn + j7 by omega),f0,f1,hft,(show makeD [D.int .i64 0] 1 = [D.int .i64 0] from rfl)]) ?_;simp [-zg,-zd,↓Qb,↓Qa,go_sem,Zv,e2,hgt,hcl,hadd1,hPi,hZi,hf,ht,hL,hz,Qw (x:=(P:Int)) (by omega) (by omega),Qw (x:=f) (by omega) (by omega),Qw (x:=(Z:Int)) (by omega) (by omega),Qw (x:=t) (by omega) (by omega),(show (0:Int) ≤ (q.1:Int) by omega),(show (q.1:Int) < (s.length:Int) + (l.length:Int) by omega),hqn,(show f.toNat < Qn + j7 by omega),(show f.toNat + 1 ≤ Qn + j7 by omega),f0,f1,hft,(show makeD [D.int .i64 0] 1 = [D.int .i64 0] from rfl)];try ((refine Qq (fun H1=>H1 b7 = some (cat oN (aIn b.length c x P Z (aRow b.length c s l q.1) (y.1 + 1)) ++ zrP j7 D.any)) (by first | (simp [upd,Zv,rn,Ne.symm rn,hadd2];done) | (simp [upd,Zv,hadd1];done)) fun H9 t3=>?_);(have fl:True ∧ True:=⟨trivial,trivial⟩))
 | (first | (rename True ∧ True=>k_;skip) | ((have hsame:(aIn b.length c x P Z (aRow b.length c s l q.1) (y.1 + 1)) = (aIn b.length c x P Z (aRow b.length c s l q.1) y.1):=(by rw [zamq (by omega),aStep,if_neg (by rw [htk];simp)]));(refine Qq (fun H1=>H1 b7 = some (cat oN (aIn b.length c x P Z (aRow b.length c s l q.1) (y.1 + 1)) ++ zrP j7 D.any)) (by dsimp only;rw [hsame];exact e2) fun H9 t3=>?_)));refine Qc (id:=11) Xz [] (by kernel_rfl) ?_;simp [-zg,-zd,↓Qb,↓Qa,go_sem,wrapS (k:=y.1) (by omega)]
 | refine Qc (id:=12) Xz [] (by kernel_rfl) ?_;simp [-zg,-zd,↓Qb,↓Qa,go_sem,wrapS (k:=q.1) (by omega)]
 | ((obtain ⟨kx,Hx⟩:=q);(dsimp only at *);(obtain rfl:kx = w.length:=by omega);(have hal:aRow b.length c s l w.length = aAll b.length c s l:=(by rw [hwl];rfl));(rw [hal] at g2);(obtain ⟨nx,hnx⟩:∃ nx,aAll b.length c s l = nx:=⟨_,rfl⟩);(rw [hnx] at g2 hx hs hlen ⊢);(refine Jz 7 (b:=b7) (all:=cat oN nx ++ zrP j7 D.any) rfl g2 (by omega) (by rw [oN_clen];simp;omega) (by rw [oN_clen];simp;omega) ?_);(rw [Nat.mul_one,Zg (f:=oN) nx (zrP j7 D.any) (n:=Qn) hlen.symm]);(refine Xb hK 7 ?_);(have hst:=hA.starts hbQ);(have hcyl:=cycL_len nx);(have hrcl:=zahs nx a);(have hSN:∀ z,z ∈ a → Nd nx z:=(fun z hz=>⟨(hst.1 z hz).1,by rw [hlen];exact (hst.1 z hz).2⟩)));refine Qc (id:=13) Xz [] (by kernel_rfl) ?_;simp [-zg,-zd,↓Qb,↓Qa,go_sem,hx,hs,hlen,(show Qn ≤ 1048576 by omega),(show nx.length ≤ 1048576 by omega)];try ((refine Xb hK 12 ?_);(simp [go_sem]))
 | refine Qc (id:=14) Xz [] (by kernel_rfl) ?_;simp [-zg,-zd,↓Qb,↓Qa,go_sem,hx,hs,hlen,(show Qn ≤ 1048576 by omega),(show nx.length ≤ 1048576 by omega),(show (∀ x,x ∈ a → Nd nx x) = True from eq_true hSN),hSN,hrcl,(show a.length ≤ 1048576 by omega)];try ((refine Xb hK 76 ?_);(simp [go_sem,hrcl]))
 | refine Qc (id:=15) Xz [] (by kernel_rfl) ?_;simp [-zg,-zd,↓Qb,↓Qa,go_sem]
 | ((have hkn:k < nx.length:=(by omega));(have hmo:=Nat.mod_lt k (show 0 < b.length by omega));(have hr1:(nth (rchL nx a) k = true) = RchS nx a (k:Int):=(by rw [nth_rchL hkn,B_iff]));(have hr2:(nth (cycL nx) k = true) = Cyc nx (k:Int):=(by rw [nth_cycL hkn,B_iff]));(have hcn:¬ cycL nx = []:=(by intro e;rw [e] at hcyl;simp at hcyl;omega));(have hrn:¬ rchL nx a = []:=(by intro e;rw [e] at hrcl;simp at hrcl;omega));(have hbn:¬ b = []:=(by rintro rfl;simp at n1));(obtain ⟨km,hkm⟩:∃ km:Nat,k % b.length = km:=⟨_,rfl⟩);(have htm:(k:Int).tmod (b.length:Int) = (km:Int):=(by rw [tmod_nat,hkm]));(rw [hkm] at hmo));refine Qc (id:=16) Xz [] (by kernel_rfl) ?_;simp [-zg,-zd,↓Qb,↓Qa,go_sem,hrcl,hlen,c79,hrn,zsP c79]
 | refine Xr (id:=17) Xz mixed [84,90] [] (by kernel_rfl) (by kernel_rfl) (by simp [-zg,-zd,↓Qb,↓Qa,go_sem,hcyl,hrcl,hlen,c79,hcn,hbn,zsP c79,htm,hmo,zsP hmo,(show ¬ (b.length:Int) = 0 by omega)]) ?_;simp [-zg,-zd,↓Qb,↓Qa,go_sem,hcyl,hrcl,hlen,c79,hcn,hbn,zsP c79,htm,hmo,zsP hmo,(show ¬ (b.length:Int) = 0 by omega)];try (refine ⟨fun s17a=>?_,fun s17a=>?_⟩ <;> (try simp [B_iff,B_not] at s17a) <;> try (refine ⟨fun s17b=>?_,fun s17b=>?_⟩ <;> (try simp [B_iff,B_not] at s17b) <;> try (refine ⟨fun s17c=>?_,fun s17c=>?_⟩ <;> (try simp [B_iff,B_not] at s17c))))
 | refine Qc (id:=18) Xz [] (by kernel_rfl) ?_;simp [-zg,-zd,↓Qb,↓Qa,go_sem]
 | refine Qc (id:=19) Xz [] (by kernel_rfl) ?_;simp [-zg,-zd,↓Qb,↓Qa,go_sem,wrapS (k:=k) (by omega)]
 | refine Qc (id:=20) Xz [] (by kernel_rfl) ?_;simp [-zg,-zd,↓Qb,↓Qa,go_sem]
 | refine Qd (c:=.tmp 28) ?_;simp [-zg,-zd,↓Qb,↓Qa,go_sem];try first | (refine ⟨?_,?_⟩ <;> refine zA ?_) | (refine ⟨fun c28=>?_,fun c28=>?_⟩ <;> (try simp [B_iff,B_not] at c28))
 | refine Qd (c:=.tmp 36) ?_;simp [-zg,-zd,↓Qb,↓Qa,go_sem];try first | (refine ⟨?_,?_⟩ <;> refine zA ?_) | (refine ⟨fun c36=>?_,fun c36=>?_⟩ <;> (try simp [B_iff,B_not] at c36))
 | refine Qd (c:=.tmp 41) ?_;simp [-zg,-zd,↓Qb,↓Qa,go_sem];try first | (refine ⟨?_,?_⟩ <;> refine zA ?_) | (refine ⟨fun c41=>?_,fun c41=>?_⟩ <;> (try simp [B_iff,B_not] at c41))
 | refine Qd (c:=.tmp 79) ?_;simp [-zg,-zd,↓Qb,↓Qa,go_sem];try first | (refine ⟨?_,?_⟩ <;> refine zA ?_) | (refine ⟨fun c79=>?_,fun c79=>?_⟩ <;> (try simp [B_iff,B_not] at c79))
 | refine Qd (c:=.tmp 98) ?_;simp [-zg,-zd,↓Qb,↓Qa,go_sem];try first | (refine ⟨?_,?_⟩ <;> refine zA ?_) | (refine ⟨fun c98=>?_,fun c98=>?_⟩ <;> (try simp [B_iff,B_not] at c98))
 | (refine Qe (id:=0) (Qz (ι:=Nat × Hp) (fun q:Nat × Hp=>⟨(upd (upd (upd (upd (upd (upd (upd (upd (fun _=>.any) 2 (.pd [li cI a,li cB b,li cT c])) 3 (.pd [li cI s,li cI l])) 5 (li cI w)) 6 (.int .i64 b.length)) 7 (.sl b7 1 0 Qn c7)) 25 (li cI w)) 26 (.int .i64 w.length)) 27 (.int .i64 q.1)),q.2⟩) (fun q=>q.1 ≤ w.length ∧ q.2 b7 = some (cat oN (aRow b.length c s l q.1) ++ zrP j7 D.any)) (fun q=>w.length - q.1) ((0,H1)) ?_ ?_ ?_);exact ⟨Nat.zero_le _,w7⟩;((repeat' (first | exact Qg (by assumption) | exact Qi | exact ⟨fun _=>Or.inl rfl,fun _ _ h=>nomatch h⟩ | refine Qf ?_ ?_ | refine Qh ?_)) <;> simp [-zg,-zd,↓Qb,↓Qa,go_sem]);rintro q ⟨g1,g2⟩)
 | (refine ⟨(q.1 + 1,y.2),⟨by dsimp only;omega,by dsimp only;(have e9:y.1 = c.length:=by omega);rw [hsucc,← e9];exact e2⟩,by first | omega | (simp;done) | (simp;omega),?_⟩;((repeat' (first | exact Qg (by assumption) | exact Qi | exact ⟨fun _=>Or.inl rfl,fun _ _ h=>nomatch h⟩ | refine Qf ?_ ?_ | refine Qh ?_)) <;> simp [-zg,-zd,↓Qb,↓Qa,go_sem]))
 | (refine Qe (id:=2) (Qz (ι:=Nat × Hp) (fun y:Nat × Hp=>⟨(upd (upd (upd (upd (upd (upd (upd (upd (upd (upd (upd (upd (upd (fun _=>.any) 2 (.pd [li cI a,li cB b,li cT c])) 3 (.pd [li cI s,li cI l])) 5 (li cI w)) 6 (.int .i64 b.length)) 7 (.sl b7 1 0 Qn c7)) 8 (.int .i64 q.1)) 9 (.int .i64 x)) 25 (li cI w)) 26 (.int .i64 w.length)) 27 (.int .i64 q.1)) 33 (li cT c)) 34 (.int .i64 c.length)) 35 (.int .i64 y.1)),y.2⟩) (fun y=>y.1 ≤ c.length ∧ y.2 b7 = some (cat oN (aIn b.length c x P Z (aRow b.length c s l q.1) y.1) ++ zrP j7 D.any)) (fun y=>c.length - y.1) ((0,q.2)) ?_ ?_ ?_);exact ⟨Nat.zero_le _,by dsimp only;rw [aIn_zero];exact g2⟩;((repeat' (first | exact Qg (by assumption) | exact Qi | exact ⟨fun _=>Or.inl rfl,fun _ _ h=>nomatch h⟩ | refine Qf ?_ ?_ | refine Qh ?_)) <;> simp [-zg,-zd,↓Qb,↓Qa,go_sem]);rintro y ⟨e1,e2⟩)
 | (refine ⟨(y.1 + 1,H9),⟨by dsimp only;omega,t3⟩,by first | omega | (simp;done) | (simp;omega),?_⟩;((repeat' (first | exact Qg (by assumption) | exact Qi | exact ⟨fun _=>Or.inl rfl,fun _ _ h=>nomatch h⟩ | refine Qf ?_ ?_ | refine Qh ?_)) <;> simp [-zg,-zd,↓Qb,↓Qa,go_sem,]))
 | (refine Qe (id:=4) (Qz (ι:=Nat) (fun k:Nat=>⟨(upd (upd (upd (upd (upd (upd (fun _=>.any) 2 (.pd [li cI a,li cB b,li cT c])) 6 (.int .i64 b.length)) 12 (li cB (cycL nx))) 76 (li cB (rchL nx a))) 77 (.int .i64 Qn)) 78 (.int .i64 k)),fun _=>none⟩) (fun k=>k ≤ Qn ∧ AllTill (fun i=>¬ gdA b.length b a nx i) k) (fun k=>Qn - k) (0) ?_ ?_ ?_);exact ⟨Nat.zero_le _,.zero _⟩;((repeat' (first | exact Qg (by assumption) | exact Qi | exact ⟨fun _=>Or.inl rfl,fun _ _ h=>nomatch h⟩ | refine Qf ?_ ?_ | refine Qh ?_)) <;> simp [-zg,-zd,↓Qb,↓Qa,go_sem,li,hcyl,hrcl,hlen]);rintro k ⟨hk,hat⟩)
 | (refine ⟨k + 1,⟨by omega,hat.succ (fun hg=>by have h1:=hg.1;have h2:=hg.2.1;have h3:=hg.2.2;rw [← hr1] at h1;rw [← hr2] at h2;simp_all)⟩,by first | omega | (simp;done) | (simp;omega),?_⟩;((repeat' (first | exact Qg (by assumption) | exact Qi | exact ⟨fun _=>Or.inl rfl,fun _ _ h=>nomatch h⟩ | refine Qf ?_ ?_ | refine Qh ?_)) <;> simp [-zg,-zd,↓Qb,↓Qa,go_sem,li,hcyl,hrcl,hlen]))
 | (refine Qe ?_)
 | (refine Qt ?_;simp [-zg,-zd,↓Qb,↓Qa,go_sem])
 | (refine Qs ?_;simp [-zg,-zd,↓Qb,↓Qa,go_sem])
 | (refine Qv ?_;simp [-zg,-zd,↓Qb,↓Qa,go_sem,Try.results47])
 | (intro hx;refine zA ?_)
 | (refine ⟨?_,?_⟩ <;> refine zA ?_)
 | (intro hx;constructor <;> intro hs)
 | (constructor <;> intro hs)
 | (refine ⟨?_,fun hs=>?_⟩;refine zA ?_)
 | (refine ⟨fun hs=>?_,?_⟩;rotate_left;refine zA ?_;rotate_left)))
  all_goals (first
 | (exact B_yes ⟨k,hkn,hr1 ▸ s17a,hr2 ▸ s17b,by rw [hkm];exact c98⟩)
 | (exact ⟨k,hkn,hr1 ▸ s17a,hr2 ▸ s17b,by rw [hkm];exact c98⟩)
 | (refine B_yes ⟨k,hkn,?_,?_,?_⟩;(rw [← hr1];simp_all;done);(rw [← hr2];simp_all;done);(simp_all;done))
 | (exact B_no (acp_none fun i hi=>hat i (by omega)))
 | (refine ⟨k,hkn,?_,?_,?_⟩;(rw [← hr1];simp_all;done);(rw [← hr2];simp_all;done);(simp_all;done))
 | (exact acp_none fun i hi=>hat i (by omega))
 | skip)
@[go_sem] def zafa:Con:=.pure fun
  | [.st [.list n_a c_a,.list n_b c_b,.list n_c c_c],.st [.list n_s c_s,.list n_l c_l]]=>((Is cI n_a c_a) ∧ (Is cB n_b c_b) ∧ (Is cT n_c c_c) ∧ (Is cI n_s c_s) ∧ (Is cI n_l c_l) ∧ (AutOk (de cI c_a) (de cB c_b).length (de cT c_c)) ∧ (LasOk (de cI c_s) (de cI c_l)),.bool (B (Acp (de cB c_b).length (de cB c_b) (de cI c_a) (aAll (de cB c_b).length (de cT c_c) (de cI c_s) (de cI c_l)))))
  | _=>(False,.any)
theorem zamp:ConOk Try.prog 47 zafa:=by
  refine ⟨Qp Try.func47 (by decide) rfl,fun args h=>?_⟩
  revert h
  dsimp only
  split
  · intro h
    obtain ⟨⟨a,rfl,rfl⟩,⟨b,rfl,rfl⟩,⟨c,rfl,rfl⟩,⟨s,rfl,rfl⟩,⟨l,rfl,rfl⟩,hA,hL⟩:=h
    try simp only [Qr] at *
    exact ⟨accepts_pure a b c s l hA hL,by simp [go_sem]⟩
  · intro h
    exact h.elim
@[go_sem] def Γk18:FuncId → Con:=ext Γk17 47 zafa
theorem Γk18_ok:∀ g,ConOk Try.prog g (Γk18 g):=Qo Xz zamp


def AcAsk (a:List Int) (b:List Bool) (c:List Tr4) (s l:List Int):Prop:=AutOk a b.length c ∧ LasOk s l
def acR (a:List Int) (b:List Bool) (c:List Tr4) (s l:List Int):Bool:=B (AcAsk a b c s l) && B (Acp b.length b a (aAll b.length c s l))
theorem acR_no {a:List Int} {b:List Bool} {c:List Tr4} {s l:List Int} (h:¬ AcAsk a b c s l):acR a b c s l = false:=by rw [acR,B_no h];rfl
theorem acR_yes {a:List Int} {b:List Bool} {c:List Tr4} {s l:List Int} (h:AcAsk a b c s l):acR a b c s l = B (Acp b.length b a (aAll b.length c s l)):=by rw [acR,B_yes h];rfl
set_option maxHeartbeats 2000000 in

theorem implAc_pure (a:List Int) (b:List Bool) (c:List Tr4) (s:List Int) (l:List Int) (hS:Xn c):Pure Try.prog 15 [.st [li cI a,li cB b,li cT c],.st [li cI s,li cI l]] (.tup [.bool (acR a b c s l),.bool (B (AcAsk a b c s l))]):=by
  refine Pure.of_walk Try.func15 rfl (by simp [Try.f15]) (by simp [-zd,go_sem]) fun B hK=>?_
  cases hg:Vm.B (AutOk a b.length c) <;> cases hg2:Vm.B (LasOk s l)
  all_goals (repeat' (first
 | refine Qu ?_
 | refine Qc (id:=0) Γk18_ok [] (by kernel_rfl) ?_;simp [-zg,-zd,↓Qb,↓Qa,go_sem];try ((refine Xb hK 2 ?_);(refine Xb hK 3 ?_);simp [go_sem])
 | refine Qc (id:=1) Γk18_ok [9] (by kernel_rfl) ?_;simp [-zg,-zd,↓Qb,↓Qa,go_sem,hg,hg2,hS];try (refine ⟨fun s1a=>?_,fun s1a=>?_⟩ <;> (try simp [B_iff,B_not] at s1a) <;> try (refine ⟨fun s1b=>?_,fun s1b=>?_⟩ <;> (try simp [B_iff,B_not] at s1b)))
 | refine Qc (id:=2) Γk18_ok [] (by kernel_rfl) ?_;simp [-zg,-zd,↓Qb,↓Qa,go_sem]
 | ((have hA:AutOk a b.length c:=(by rw [B_iff] at hg;exact hg));(have hL:LasOk s l:=(by rw [B_iff] at hg2;exact hg2)));refine Qc (id:=3) Γk18_ok [] (by kernel_rfl) ?_;simp [-zg,-zd,↓Qb,↓Qa,go_sem,hA,hL]
 | refine Qd (c:=.tmp 13) ?_;simp [-zg,-zd,↓Qb,↓Qa,go_sem];try first | (refine ⟨?_,?_⟩ <;> refine zA ?_) | (refine ⟨fun c13=>?_,fun c13=>?_⟩ <;> (try simp [B_iff,B_not] at c13))
 | (refine Qe ?_)
 | (refine Qt ?_;simp [-zg,-zd,↓Qb,↓Qa,go_sem])
 | (refine Qs ?_;simp [-zg,-zd,↓Qb,↓Qa,go_sem])
 | (refine Qv ?_;simp [-zg,-zd,↓Qb,↓Qa,go_sem,Try.results15])
 | (intro hx;refine zA ?_)
 | (refine ⟨?_,?_⟩ <;> refine zA ?_)
 | (intro hx;constructor <;> intro hs)
 | (constructor <;> intro hs)
 | (refine ⟨?_,fun hs=>?_⟩;refine zA ?_)
 | (refine ⟨fun hs=>?_,?_⟩;rotate_left;refine zA ?_;rotate_left)))
  all_goals (first
 | (have hn:¬ AcAsk a b c s l:=(fun h=>by first | (have:=B_yes h.1;rw [hg] at this;cases this;done) | (have:=B_yes h.2;rw [hg2] at this;cases this;done));exact ⟨acR_no hn,hn⟩)
 | (have hn:¬ AcAsk a b c s l:=(fun h=>by first | (have:=B_yes h.1;rw [hg] at this;cases this;done) | (have:=B_yes h.2;rw [hg2] at this;cases this;done));simp [acR_no hn,B_no hn];done)
 | (exact ⟨(acR_yes ⟨hA,hL⟩).symm,⟨hA,hL⟩⟩)
 | skip)
@[go_sem] def zagf:Con:=.pure fun
  | [.st [.list n_a c_a,.list n_b c_b,.list n_c c_c],.st [.list n_s c_s,.list n_l c_l]]=>((Is cI n_a c_a) ∧ (Is cB n_b c_b) ∧ (Is cT n_c c_c) ∧ (Is cI n_s c_s) ∧ (Is cI n_l c_l) ∧ (Xn (de cT c_c)),.tup [.bool (acR (de cI c_a) (de cB c_b) (de cT c_c) (de cI c_s) (de cI c_l)),.bool (B (AcAsk (de cI c_a) (de cB c_b) (de cT c_c) (de cI c_s) (de cI c_l)))])
  | _=>(False,.any)
theorem zani:ConOk Try.prog 15 zagf:=by
  refine ⟨Qp Try.func15 (by decide) rfl,fun args h=>?_⟩
  revert h
  dsimp only
  split
  · intro h
    obtain ⟨⟨a,rfl,rfl⟩,⟨b,rfl,rfl⟩,⟨c,rfl,rfl⟩,⟨s,rfl,rfl⟩,⟨l,rfl,rfl⟩,hS⟩:=h
    try simp only [Qr] at *
    exact ⟨implAc_pure a b c s l hS,by simp [go_sem]⟩
  · intro h
    exact h.elim
end
end Go.Proofs.Ytnfldmfamnhpcaa.Vm

