/-
  Intersections: the program's closures. No conditions.
-/
import Derived.Test.YtnfldmfamnhpcaaU2
import Derived.Test.YtnfldmfamnhpcaaIX1
namespace Go.Proofs.Ytnfldmfamnhpcaa.Vm
open Go
open Nat renaming sub_pos_of_lt → zsP
open List renaming getD_eq_getElem?_getD → zg,drop_one → zd
noncomputable section
set_option linter.unusedVariables false
set_option linter.unusedSimpArgs false
set_option maxRecDepth 200000

abbrev T3:=Int × Int × Int
def cK (x:T3):List D:=[.int .i64 x.1,.int .i64 x.2.1,.int .i64 x.2.2]
instance:Wide cK 3:=⟨fun _=>rfl,by omega,fun _=>rfl⟩
instance:Plain cK:=⟨fun _=>rfl,fun _ _ _=>rfl,fun _ _=>⟨trivial,trivial,trivial,trivial⟩,fun a b h=>by simp only [cK,List.cons.injEq,D.int.injEq,true_and,and_true] at h;exact Prod.ext h.1 (Prod.ext h.2.1 h.2.2)⟩
instance:Own cK cK 1:=⟨fun _=>rfl,fun _=>rfl,fun _ _=>⟨trivial,trivial,trivial,trivial⟩,fun _ _ j h=>by obtain ⟨j,rfl⟩:∃ i,j = i + 1:=⟨j - 1,by omega⟩;rfl⟩
def cV (x:Mv5):List D:=[.int .i64 x.1,.int .i64 x.2.1,.int .i64 x.2.2.1,.int .i64 x.2.2.2.1,.int .i64 x.2.2.2.2]
instance:Wide cV 5:=⟨fun _=>rfl,by omega,fun _=>rfl⟩
instance:Plain cV:=⟨fun _=>rfl,fun _ _ _=>rfl,fun _ _=>⟨trivial,trivial,trivial,trivial,trivial,trivial⟩,fun a b h=>by simp only [cV,List.cons.injEq,D.int.injEq,true_and,and_true] at h;exact Prod.ext h.1 (Prod.ext h.2.1 (Prod.ext h.2.2.1 (Prod.ext h.2.2.2.1 h.2.2.2.2)))⟩
instance:Own cV cV 1:=⟨fun _=>rfl,fun _=>rfl,fun _ _=>⟨trivial,trivial,trivial,trivial,trivial,trivial⟩,fun _ _ j h=>by obtain ⟨j,rfl⟩:∃ i,j = i + 1:=⟨j - 1,by omega⟩;rfl⟩
attribute [go_sem] cK cV
theorem snoc_cK (xs:List T3) (x y z:Int):cat cK xs ++ [.int .i64 x,.int .i64 y,.int .i64 z] = cat cK (xs ++ [(x,y,z)]):=by rw [Zi,Zf];rfl
theorem snoc_cV (xs:List Mv5) (x y z u v:Int):cat cV xs ++ [.int .i64 x,.int .i64 y,.int .i64 z,.int .i64 u,.int .i64 v] = cat cV (xs ++ [(x,y,z,u,v)]):=by rw [Zi,Zf];rfl
theorem mk3k (x y z:D):makeD [x,y,z] 3 = [x,y,z]:=rfl
theorem ss3k (x y z x' y' z':D):stSeg [x,y,z] 0 [x',y',z'] = [x',y',z']:=rfl
theorem mk5k (x y z u v:D):makeD [x,y,z,u,v] 5 = [x,y,z,u,v]:=rfl
theorem ss5k (x y z u v x' y' z' u' v':D):stSeg [x,y,z,u,v] 0 [x',y',z',u',v'] = [x',y',z',u',v']:=rfl
def tr3 (t:List Int):T3:=(nth t 0,nth t 1,nth t 2)
theorem tr3_mk (p q f:Int):tr3 [p,q,f] = (p,q,f):=rfl
theorem nth_map3 {L:List (List Int)} {i:Nat} (h:i < L.length):nth (L.map tr3) i = tr3 (nth L i):=by rw [Qy (by simpa using h),Qy h];simp
def phV (f:Int) (x y:Bool):Int:=if f = 0 ∧ x = true then 1 else if f = 1 ∧ y = true then 0 else f
theorem mvPh_v (X:IxP) (p q f:Int):mvPh X [p,q,f] = phV f (nth X.b p.toNat) (nth X.b' q.toNat):=rfl
theorem mvOn_yes {p q f:Int} {d e:Tr4} (h1:d.1 = p) (h2:e.1 = q) (h3:bitsD .and .i64 (bitsD .and .i64 (bitsD .xor .i64 d.2.2.1 e.2.2.1) d.2.1) e.2.1 = 0):mvOn [p,q,f] d e = true:=by simp [mvOn,fitE,h1,h2,h3,nth]
theorem mvOn_no1 {p q f:Int} {d e:Tr4} (h1:¬ d.1 = p):mvOn [p,q,f] d e = false:=by simp [mvOn,h1,nth]
theorem mvOn_no2 {p q f:Int} {d e:Tr4} (h1:¬ e.1 = q):mvOn [p,q,f] d e = false:=by simp [mvOn,h1,nth]
theorem mvOn_no3 {p q f:Int} {d e:Tr4} (h3:¬ bitsD .and .i64 (bitsD .and .i64 (bitsD .xor .i64 d.2.2.1 e.2.2.1) d.2.1) e.2.1 = 0):mvOn [p,q,f] d e = false:=by simp [mvOn,fitE,h3]

theorem ixAcc_pure (p:Int) (q:Int) (f:Int) (a:List Int) (b:List Bool) (c:List Tr4) (h0:0 ≤ q) (h1:q < b.length):Pure Try.prog 28 [.st [.int .i64 p,.int .i64 q,.int .i64 f],.pd [li cI a,li cB b,li cT c]] (.bool (decide (f = 1) && nth b q.toNat)):=by
  refine Pure.of_walk Try.func28 rfl (by simp [Try.f28]) (by simp [-zd,go_sem]) fun B hK=>?_
  have h2:q.toNat < b.length:=(by omega)
  all_goals (repeat' (first
 | refine Qu ?_
 | refine Qc (id:=0) Γu11_ok [] (by kernel_rfl) ?_;simp [-zg,-zd,↓Qb,↓Qa,go_sem];try (refine Xb hK 2 ?_;simp [go_sem])
 | refine Qc (id:=1) Γu11_ok [7] (by kernel_rfl) ?_;simp [-zg,-zd,↓Qb,↓Qa,go_sem,h0,h1,h2,Qj h2,zsP h2];try (refine ⟨fun s1a=>?_,fun s1a=>?_⟩ <;> (try simp [B_iff,B_not] at s1a) <;> try (refine ⟨fun s1b=>?_,fun s1b=>?_⟩ <;> (try simp [B_iff,B_not] at s1b)))
 | (refine Qe ?_)
 | (refine Qt ?_;simp [-zg,-zd,↓Qb,↓Qa,go_sem])
 | (refine Qs ?_;simp [-zg,-zd,↓Qb,↓Qa,go_sem])
 | (refine Qv ?_;simp [-zg,-zd,↓Qb,↓Qa,go_sem,Try.results28])
 | (intro hx;refine zA ?_)
 | (refine ⟨?_,?_⟩ <;> refine zA ?_)
 | (intro hx;constructor <;> intro hs)
 | (constructor <;> intro hs)
 | (refine ⟨?_,fun hs=>?_⟩;refine zA ?_)
 | (refine ⟨fun hs=>?_,?_⟩;rotate_left;refine zA ?_;rotate_left)))
  all_goals (first
 | (simp_all;done)
 | (intros;simp_all;done)
 | skip)
@[go_sem] def zaii:Con:=.pure fun
  | [.st [.int .i64 p,.int .i64 q,.int .i64 f],.pd [.list n_a c_a,.list n_b c_b,.list n_c c_c]]=>((Is cI n_a c_a) ∧ (Is cB n_b c_b) ∧ (Is cT n_c c_c) ∧ (0 ≤ q) ∧ (q < (de cB c_b).length),.bool (decide (f = 1) && nth (de cB c_b) q.toNat))
  | _=>(False,.any)
theorem ixAcc_pureC_ok:ConOk Try.prog 28 zaii:=by
  refine ⟨Qp Try.func28 (by decide) rfl,fun args h=>?_⟩
  revert h
  dsimp only
  split
  · intro h
    obtain ⟨⟨a,rfl,rfl⟩,⟨b,rfl,rfl⟩,⟨c,rfl,rfl⟩,h0,h1⟩:=h
    try simp only [Qr] at *
    exact ⟨ixAcc_pure _ _ _ a b c h0 h1,by simp [go_sem]⟩
  · intro h
    exact h.elim
@[go_sem] def Γi1:FuncId → Con:=ext Γu11 28 zaii
theorem Xi:∀ g,ConOk Try.prog g (Γi1 g):=Qo Γu11_ok ixAcc_pureC_ok

set_option maxHeartbeats 4000000 in
theorem ixMov0 (p:Int) (q:Int)  (a:List Int) (b:List Bool) (c:List Tr4) (a':List Int) (b':List Bool) (c':List Tr4) (hp0:0 ≤ p) (hp1:p < b.length) (hq0:0 ≤ q) (hq1:q < b'.length) (hc:c.length ≤ 2048) (hc':c'.length ≤ 2048):Pure Try.prog 26 [.st [.int .i64 p,.int .i64 q,.int .i64 0],.pd [li cI a,li cB b,li cT c],.pd [li cI a',li cB b',li cT c']] (fr 5 cV (mvs ⟨a,b,c,a',b',c'⟩ [p,q,0])):=by
  refine Pure.of_walk Try.func26 rfl (by simp [Try.f26]) (by simp [-zd,go_sem]) fun B hK=>?_
  have p2:p.toNat < b.length:=(by omega);have q2:q.toNat < b'.length:=(by omega);obtain ⟨X,hX⟩:∃ X:IxP,X = ⟨a,b,c,a',b',c'⟩:=⟨_,rfl⟩;have hXb:X.b = b:=(by rw [hX]);have hXb':X.b' = b':=(by rw [hX]);have hXc:X.c = c:=(by rw [hX]);have hXc':X.c' = c':=(by rw [hX]);rw [← hX];cases hy:nth b p.toNat
  all_goals (repeat' (first
 | refine Qu ?_
 | refine Qc (id:=0) Xi [] (by kernel_rfl) ?_;simp [-zg,-zd,↓Qb,↓Qa,go_sem];try (refine Xb hK 3 ?_;simp [go_sem])
 | refine Qc (id:=1) Xi [] (by kernel_rfl) ?_;simp [-zg,-zd,↓Qb,↓Qa,go_sem]
 | refine Qc (id:=2) Xi [16] (by kernel_rfl) ?_;simp [-zg,-zd,↓Qb,↓Qa,go_sem,hp0,hp1,p2,Qj p2,zsP p2,hy];try (refine ⟨fun s2a=>?_,fun s2a=>?_⟩ <;> (try simp [B_iff,B_not] at s2a) <;> try (refine ⟨fun s2b=>?_,fun s2b=>?_⟩ <;> (try simp [B_iff,B_not] at s2b)))
 | refine Qc (id:=3) Xi [] (by kernel_rfl) ?_;simp [-zg,-zd,↓Qb,↓Qa,go_sem]
 | refine Qc (id:=4) Xi [27] (by kernel_rfl) ?_;simp [-zg,-zd,↓Qb,↓Qa,go_sem,hq0,hq1,q2,Qj q2,zsP q2,hy];try (refine ⟨fun s4a=>?_,fun s4a=>?_⟩ <;> (try simp [B_iff,B_not] at s4a) <;> try (refine ⟨fun s4b=>?_,fun s4b=>?_⟩ <;> (try simp [B_iff,B_not] at s4b)))
 | refine Qc (id:=5) Xi [] (by kernel_rfl) ?_;simp [-zg,-zd,↓Qb,↓Qa,go_sem]
 | refine Qc (id:=6) Xi [] (by kernel_rfl) ?_;simp [-zg,-zd,↓Qb,↓Qa,go_sem];try ((refine Wq 6 5 rfl ?_);(have hph:=mvPh_v X p q);(rw [hXb,hXb'] at hph))
 | refine Qc (id:=7) Xi [] (by kernel_rfl) ?_;simp [-zg,-zd,↓Qb,↓Qa,go_sem]
 | refine Qc (id:=8) Xi [] (by kernel_rfl) ?_;simp [-zg,-zd,↓Qb,↓Qa,go_sem]
 | refine Qc (id:=9) Xi [] (by kernel_rfl) ?_;simp [-zg,-zd,↓Qb,↓Qa,go_sem,c39,Qj c39,zsP c39];try ((refine Xb hK 8 ?_);(simp [go_sem]))
 | ((have hol:=zagx X [p,q,0] k (by rw [hXc];omega));(rw [hXc'] at hol);(have hmul:k * c'.length ≤ 2048 * 2048:=Nat.mul_le_mul (by omega) hc'));refine Qc (id:=10) Xi [] (by kernel_rfl) ?_;simp [-zg,-zd,↓Qb,↓Qa,go_sem]
 | refine Qc (id:=11) Xi [] (by kernel_rfl) ?_;simp [-zg,-zd,↓Qb,↓Qa,go_sem]
 | refine Qc (id:=12) Xi [] (by kernel_rfl) ?_;simp [-zg,-zd,↓Qb,↓Qa,go_sem,c46,Qj c46,zsP c46];try ((refine Xb hK 10 ?_);(simp [go_sem]))
 | refine Qc (id:=13) Xi [54,61] (by kernel_rfl) ?_;simp [-zg,-zd,↓Qb,↓Qa,go_sem];try (refine ⟨fun s13a=>?_,fun s13a=>?_⟩ <;> (try simp [B_iff,B_not] at s13a) <;> try (refine ⟨fun s13b=>?_,fun s13b=>?_⟩ <;> (try simp [B_iff,B_not] at s13b) <;> try (refine ⟨fun s13c=>?_,fun s13c=>?_⟩ <;> (try simp [B_iff,B_not] at s13c))))
 | ((have hil:=mvIn_len X [p,q,0] (nth c k) j);(have hon:=mvOn_yes (f:=0) s13a s13b c74);(have e9:=mvIn_yes (X:=X) (t:=[p,q,0]) (e:=nth c k) (by rw [hXc'];exact c46) (by rw [hXc'];exact hon));(rw [hXc'] at e9);(have e8:=snoc_cV (mvOut X [p,q,0] k ++ mvIn X [p,q,0] (nth c k) j));(have e7:(mvOut X [p,q,0] k ++ mvIn X [p,q,0] (nth c k) j) ++ [mvE (mvPh X [p,q,0]) (nth c k) (nth c' j)] = mvOut X [p,q,0] k ++ mvIn X [p,q,0] (nth c k) (j + 1):=(by rw [e9,List.append_assoc])));refine Qc (id:=14) Xi [] (by kernel_rfl) ?_;simp [-zg,-zd,↓Qb,↓Qa,go_sem,mk5k,ss5k,e8,(show (mvOut X [p,q,0] k).length + (mvIn X [p,q,0] (nth c k) j).length ≤ 9223372036854775806 by omega),(show 2 * ((mvOut X [p,q,0] k).length + (mvIn X [p,q,0] (nth c k) j).length + 1) * 40 ≤ 281474976710656 by omega),(show (mvOut X [p,q,0] k).length + (mvIn X [p,q,0] (nth c k) j).length + 1 ≤ 9223372036854775807 by omega)]
 | ((first | (have e10:=e9) | (have hon:=mvOn_no1 (q:=q) (f:=0) (e:=nth c' j) s13a) | (have hon:=mvOn_no2 (p:=p) (f:=0) (d:=nth c k) s13b) | (have hon:=mvOn_no3 (p:=p) (q:=q) (f:=0) c74));(first | (have e10:=e9;skip) | (have e9:=mvIn_no (X:=X) (t:=[p,q,0]) (e:=nth c k) (by rw [hXc'];exact c46) (by rw [hXc'];exact hon))));refine Qc (id:=15) Xi [] (by kernel_rfl) ?_;simp [-zg,-zd,↓Qb,↓Qa,go_sem,wrapS (k:=j) (by omega)]
 | ((obtain rfl:j = c'.length:=by omega);(have e5:=zaen (X:=X) (t:=[p,q,0]) (k:=k) (by rw [hXc];exact c39));(rw [hXc,hXc'] at e5));refine Qc (id:=16) Xi [] (by kernel_rfl) ?_;simp [-zg,-zd,↓Qb,↓Qa,go_sem,wrapS (k:=k) (by omega)]
 | ((obtain rfl:k = c.length:=by omega);(have hms:mvs X [p,q,0] = mvOut X [p,q,0] c.length:=(by rw [mvs,hXc])));refine Qc (id:=17) Xi [] (by kernel_rfl) ?_;simp [-zg,-zd,↓Qb,↓Qa,go_sem,hms]
 | refine Qd (c:=.tmp 23) ?_;simp [-zg,-zd,↓Qb,↓Qa,go_sem];try first | (refine ⟨?_,?_⟩ <;> refine zA ?_) | (refine ⟨fun c23=>?_,fun c23=>?_⟩ <;> (try simp [B_iff,B_not] at c23))
 | refine Qd (c:=.tmp 34) ?_;simp [-zg,-zd,↓Qb,↓Qa,go_sem];try first | (refine ⟨?_,?_⟩ <;> refine zA ?_) | (refine ⟨fun c34=>?_,fun c34=>?_⟩ <;> (try simp [B_iff,B_not] at c34))
 | refine Qd (c:=.tmp 39) ?_;simp [-zg,-zd,↓Qb,↓Qa,go_sem];try first | (refine ⟨?_,?_⟩ <;> refine zA ?_) | (refine ⟨fun c39=>?_,fun c39=>?_⟩ <;> (try simp [B_iff,B_not] at c39))
 | refine Qd (c:=.tmp 46) ?_;simp [-zg,-zd,↓Qb,↓Qa,go_sem];try first | (refine ⟨?_,?_⟩ <;> refine zA ?_) | (refine ⟨fun c46=>?_,fun c46=>?_⟩ <;> (try simp [B_iff,B_not] at c46))
 | refine Qd (c:=.tmp 74) ?_;simp [-zg,-zd,↓Qb,↓Qa,go_sem];try first | (refine ⟨?_,?_⟩ <;> refine zA ?_) | (refine ⟨fun c74=>?_,fun c74=>?_⟩ <;> (try simp [B_iff,B_not] at c74))
 | (refine Qe (id:=0) (Qz (ι:=Nat) (fun k:Nat=>⟨(upd (upd (upd (upd (upd (upd (upd (upd (fun _=>.any) 1 (.pd [li cI a,li cB b,li cT c])) 2 (.pd [li cI a',li cB b',li cT c'])) 3 (.pd [.int .i64 p,.int .i64 q,.int .i64 0])) 5 (.int .i64 (mvPh X [p,q,0]))) 6 (.fr 5 (mvOut X [p,q,0] k).length (cat cV (mvOut X [p,q,0] k)))) 36 (li cT c)) 37 (.int .i64 c.length)) 38 (.int .i64 k)),fun _=>none⟩) (fun k=>k ≤ c.length) (fun k=>c.length - k) (0) ?_ ?_ ?_);exact Nat.zero_le _;((repeat' (first | exact Qg (by assumption) | exact Qi | refine Qf ?_ ?_ | refine Qh ?_)) <;> simp [-zg,-zd,↓Qb,↓Qa,go_sem,hph,phV,hy,zakz,Xg,List.length_nil]);rintro k hk)
 | (refine ⟨k + 1,by omega,by first | omega | (simp;done) | (simp;omega),?_⟩;((repeat' (first | exact Qg (by assumption) | exact Qi | refine Qf ?_ ?_ | refine Qh ?_)) <;> simp [-zg,-zd,↓Qb,↓Qa,go_sem,e5]))
 | (refine Qe (id:=2) (Qz (ι:=Nat) (fun j:Nat=>⟨(upd (upd (upd (upd (upd (upd (upd (upd (upd (upd (upd (upd (fun _=>.any) 1 (.pd [li cI a,li cB b,li cT c])) 2 (.pd [li cI a',li cB b',li cT c'])) 3 (.pd [.int .i64 p,.int .i64 q,.int .i64 0])) 5 (.int .i64 (mvPh X [p,q,0]))) 8 (.pd [.int .i64 (nth c k).1,.int .i64 (nth c k).2.1,.int .i64 (nth c k).2.2.1,.int .i64 (nth c k).2.2.2])) 36 (li cT c)) 37 (.int .i64 c.length)) 38 (.int .i64 k)) 6 (.fr 5 (mvOut X [p,q,0] k ++ mvIn X [p,q,0] (nth c k) j).length (cat cV (mvOut X [p,q,0] k ++ mvIn X [p,q,0] (nth c k) j)))) 43 (li cT c')) 44 (.int .i64 c'.length)) 45 (.int .i64 j)),fun _=>none⟩) (fun j=>j ≤ c'.length) (fun j=>c'.length - j) (0) ?_ ?_ ?_);exact Nat.zero_le _;((repeat' (first | exact Qg (by assumption) | exact Qi | refine Qf ?_ ?_ | refine Qh ?_)) <;> simp [-zg,-zd,↓Qb,↓Qa,go_sem,mvIn_zero,List.append_nil]);rintro j hj)
 | (refine ⟨j + 1,by omega,by first | omega | (simp;done) | (simp;omega),?_⟩;((repeat' (first | exact Qg (by assumption) | exact Qi | refine Qf ?_ ?_ | refine Qh ?_)) <;> simp [-zg,-zd,↓Qb,↓Qa,go_sem,e9,mvE,Nat.add_assoc]))
 | (refine Qe ?_)
 | (refine Qt ?_;simp [-zg,-zd,↓Qb,↓Qa,go_sem])
 | (refine Qs ?_;simp [-zg,-zd,↓Qb,↓Qa,go_sem])
 | (refine Qv ?_;simp [-zg,-zd,↓Qb,↓Qa,go_sem,Try.results26])
 | (intro hx;refine zA ?_)
 | (refine ⟨?_,?_⟩ <;> refine zA ?_)
 | (intro hx;constructor <;> intro hs)
 | (constructor <;> intro hs)
 | (refine ⟨?_,fun hs=>?_⟩;refine zA ?_)
 | (refine ⟨fun hs=>?_,?_⟩;rotate_left;refine zA ?_;rotate_left)))
  all_goals (first
 | (rw [hms];exact ⟨rfl,rfl⟩)
 | skip)

set_option maxHeartbeats 4000000 in
theorem ixMov1 (p:Int) (q:Int)  (a:List Int) (b:List Bool) (c:List Tr4) (a':List Int) (b':List Bool) (c':List Tr4) (hp0:0 ≤ p) (hp1:p < b.length) (hq0:0 ≤ q) (hq1:q < b'.length) (hc:c.length ≤ 2048) (hc':c'.length ≤ 2048):Pure Try.prog 26 [.st [.int .i64 p,.int .i64 q,.int .i64 1],.pd [li cI a,li cB b,li cT c],.pd [li cI a',li cB b',li cT c']] (fr 5 cV (mvs ⟨a,b,c,a',b',c'⟩ [p,q,1])):=by
  refine Pure.of_walk Try.func26 rfl (by simp [Try.f26]) (by simp [-zd,go_sem]) fun B hK=>?_
  have p2:p.toNat < b.length:=(by omega);have q2:q.toNat < b'.length:=(by omega);obtain ⟨X,hX⟩:∃ X:IxP,X = ⟨a,b,c,a',b',c'⟩:=⟨_,rfl⟩;have hXb:X.b = b:=(by rw [hX]);have hXb':X.b' = b':=(by rw [hX]);have hXc:X.c = c:=(by rw [hX]);have hXc':X.c' = c':=(by rw [hX]);rw [← hX];cases hy:nth b' q.toNat
  all_goals (repeat' (first
 | refine Qu ?_
 | refine Qc (id:=0) Xi [] (by kernel_rfl) ?_;simp [-zg,-zd,↓Qb,↓Qa,go_sem];try (refine Xb hK 3 ?_;simp [go_sem])
 | refine Qc (id:=1) Xi [] (by kernel_rfl) ?_;simp [-zg,-zd,↓Qb,↓Qa,go_sem]
 | refine Qc (id:=2) Xi [16] (by kernel_rfl) ?_;simp [-zg,-zd,↓Qb,↓Qa,go_sem,hp0,hp1,p2,Qj p2,zsP p2,hy];try (refine ⟨fun s2a=>?_,fun s2a=>?_⟩ <;> (try simp [B_iff,B_not] at s2a) <;> try (refine ⟨fun s2b=>?_,fun s2b=>?_⟩ <;> (try simp [B_iff,B_not] at s2b)))
 | refine Qc (id:=3) Xi [] (by kernel_rfl) ?_;simp [-zg,-zd,↓Qb,↓Qa,go_sem]
 | refine Qc (id:=4) Xi [27] (by kernel_rfl) ?_;simp [-zg,-zd,↓Qb,↓Qa,go_sem,hq0,hq1,q2,Qj q2,zsP q2,hy];try (refine ⟨fun s4a=>?_,fun s4a=>?_⟩ <;> (try simp [B_iff,B_not] at s4a) <;> try (refine ⟨fun s4b=>?_,fun s4b=>?_⟩ <;> (try simp [B_iff,B_not] at s4b)))
 | refine Qc (id:=5) Xi [] (by kernel_rfl) ?_;simp [-zg,-zd,↓Qb,↓Qa,go_sem]
 | refine Qc (id:=6) Xi [] (by kernel_rfl) ?_;simp [-zg,-zd,↓Qb,↓Qa,go_sem];try ((refine Wq 6 5 rfl ?_);(have hph:=mvPh_v X p q);(rw [hXb,hXb'] at hph))
 | refine Qc (id:=7) Xi [] (by kernel_rfl) ?_;simp [-zg,-zd,↓Qb,↓Qa,go_sem]
 | refine Qc (id:=8) Xi [] (by kernel_rfl) ?_;simp [-zg,-zd,↓Qb,↓Qa,go_sem]
 | refine Qc (id:=9) Xi [] (by kernel_rfl) ?_;simp [-zg,-zd,↓Qb,↓Qa,go_sem,c39,Qj c39,zsP c39];try ((refine Xb hK 8 ?_);(simp [go_sem]))
 | ((have hol:=zagx X [p,q,1] k (by rw [hXc];omega));(rw [hXc'] at hol);(have hmul:k * c'.length ≤ 2048 * 2048:=Nat.mul_le_mul (by omega) hc'));refine Qc (id:=10) Xi [] (by kernel_rfl) ?_;simp [-zg,-zd,↓Qb,↓Qa,go_sem]
 | refine Qc (id:=11) Xi [] (by kernel_rfl) ?_;simp [-zg,-zd,↓Qb,↓Qa,go_sem]
 | refine Qc (id:=12) Xi [] (by kernel_rfl) ?_;simp [-zg,-zd,↓Qb,↓Qa,go_sem,c46,Qj c46,zsP c46];try ((refine Xb hK 10 ?_);(simp [go_sem]))
 | refine Qc (id:=13) Xi [54,61] (by kernel_rfl) ?_;simp [-zg,-zd,↓Qb,↓Qa,go_sem];try (refine ⟨fun s13a=>?_,fun s13a=>?_⟩ <;> (try simp [B_iff,B_not] at s13a) <;> try (refine ⟨fun s13b=>?_,fun s13b=>?_⟩ <;> (try simp [B_iff,B_not] at s13b) <;> try (refine ⟨fun s13c=>?_,fun s13c=>?_⟩ <;> (try simp [B_iff,B_not] at s13c))))
 | ((have hil:=mvIn_len X [p,q,1] (nth c k) j);(have hon:=mvOn_yes (f:=1) s13a s13b c74);(have e9:=mvIn_yes (X:=X) (t:=[p,q,1]) (e:=nth c k) (by rw [hXc'];exact c46) (by rw [hXc'];exact hon));(rw [hXc'] at e9);(have e8:=snoc_cV (mvOut X [p,q,1] k ++ mvIn X [p,q,1] (nth c k) j));(have e7:(mvOut X [p,q,1] k ++ mvIn X [p,q,1] (nth c k) j) ++ [mvE (mvPh X [p,q,1]) (nth c k) (nth c' j)] = mvOut X [p,q,1] k ++ mvIn X [p,q,1] (nth c k) (j + 1):=(by rw [e9,List.append_assoc])));refine Qc (id:=14) Xi [] (by kernel_rfl) ?_;simp [-zg,-zd,↓Qb,↓Qa,go_sem,mk5k,ss5k,e8,(show (mvOut X [p,q,1] k).length + (mvIn X [p,q,1] (nth c k) j).length ≤ 9223372036854775806 by omega),(show 2 * ((mvOut X [p,q,1] k).length + (mvIn X [p,q,1] (nth c k) j).length + 1) * 40 ≤ 281474976710656 by omega),(show (mvOut X [p,q,1] k).length + (mvIn X [p,q,1] (nth c k) j).length + 1 ≤ 9223372036854775807 by omega)]
 | ((first | (have e10:=e9) | (have hon:=mvOn_no1 (q:=q) (f:=1) (e:=nth c' j) s13a) | (have hon:=mvOn_no2 (p:=p) (f:=1) (d:=nth c k) s13b) | (have hon:=mvOn_no3 (p:=p) (q:=q) (f:=1) c74));(first | (have e10:=e9;skip) | (have e9:=mvIn_no (X:=X) (t:=[p,q,1]) (e:=nth c k) (by rw [hXc'];exact c46) (by rw [hXc'];exact hon))));refine Qc (id:=15) Xi [] (by kernel_rfl) ?_;simp [-zg,-zd,↓Qb,↓Qa,go_sem,wrapS (k:=j) (by omega)]
 | ((obtain rfl:j = c'.length:=by omega);(have e5:=zaen (X:=X) (t:=[p,q,1]) (k:=k) (by rw [hXc];exact c39));(rw [hXc,hXc'] at e5));refine Qc (id:=16) Xi [] (by kernel_rfl) ?_;simp [-zg,-zd,↓Qb,↓Qa,go_sem,wrapS (k:=k) (by omega)]
 | ((obtain rfl:k = c.length:=by omega);(have hms:mvs X [p,q,1] = mvOut X [p,q,1] c.length:=(by rw [mvs,hXc])));refine Qc (id:=17) Xi [] (by kernel_rfl) ?_;simp [-zg,-zd,↓Qb,↓Qa,go_sem,hms]
 | refine Qd (c:=.tmp 23) ?_;simp [-zg,-zd,↓Qb,↓Qa,go_sem];try first | (refine ⟨?_,?_⟩ <;> refine zA ?_) | (refine ⟨fun c23=>?_,fun c23=>?_⟩ <;> (try simp [B_iff,B_not] at c23))
 | refine Qd (c:=.tmp 34) ?_;simp [-zg,-zd,↓Qb,↓Qa,go_sem];try first | (refine ⟨?_,?_⟩ <;> refine zA ?_) | (refine ⟨fun c34=>?_,fun c34=>?_⟩ <;> (try simp [B_iff,B_not] at c34))
 | refine Qd (c:=.tmp 39) ?_;simp [-zg,-zd,↓Qb,↓Qa,go_sem];try first | (refine ⟨?_,?_⟩ <;> refine zA ?_) | (refine ⟨fun c39=>?_,fun c39=>?_⟩ <;> (try simp [B_iff,B_not] at c39))
 | refine Qd (c:=.tmp 46) ?_;simp [-zg,-zd,↓Qb,↓Qa,go_sem];try first | (refine ⟨?_,?_⟩ <;> refine zA ?_) | (refine ⟨fun c46=>?_,fun c46=>?_⟩ <;> (try simp [B_iff,B_not] at c46))
 | refine Qd (c:=.tmp 74) ?_;simp [-zg,-zd,↓Qb,↓Qa,go_sem];try first | (refine ⟨?_,?_⟩ <;> refine zA ?_) | (refine ⟨fun c74=>?_,fun c74=>?_⟩ <;> (try simp [B_iff,B_not] at c74))
 | (refine Qe (id:=0) (Qz (ι:=Nat) (fun k:Nat=>⟨(upd (upd (upd (upd (upd (upd (upd (upd (fun _=>.any) 1 (.pd [li cI a,li cB b,li cT c])) 2 (.pd [li cI a',li cB b',li cT c'])) 3 (.pd [.int .i64 p,.int .i64 q,.int .i64 1])) 5 (.int .i64 (mvPh X [p,q,1]))) 6 (.fr 5 (mvOut X [p,q,1] k).length (cat cV (mvOut X [p,q,1] k)))) 36 (li cT c)) 37 (.int .i64 c.length)) 38 (.int .i64 k)),fun _=>none⟩) (fun k=>k ≤ c.length) (fun k=>c.length - k) (0) ?_ ?_ ?_);exact Nat.zero_le _;((repeat' (first | exact Qg (by assumption) | exact Qi | refine Qf ?_ ?_ | refine Qh ?_)) <;> simp [-zg,-zd,↓Qb,↓Qa,go_sem,hph,phV,hy,zakz,Xg,List.length_nil]);rintro k hk)
 | (refine ⟨k + 1,by omega,by first | omega | (simp;done) | (simp;omega),?_⟩;((repeat' (first | exact Qg (by assumption) | exact Qi | refine Qf ?_ ?_ | refine Qh ?_)) <;> simp [-zg,-zd,↓Qb,↓Qa,go_sem,e5]))
 | (refine Qe (id:=2) (Qz (ι:=Nat) (fun j:Nat=>⟨(upd (upd (upd (upd (upd (upd (upd (upd (upd (upd (upd (upd (fun _=>.any) 1 (.pd [li cI a,li cB b,li cT c])) 2 (.pd [li cI a',li cB b',li cT c'])) 3 (.pd [.int .i64 p,.int .i64 q,.int .i64 1])) 5 (.int .i64 (mvPh X [p,q,1]))) 8 (.pd [.int .i64 (nth c k).1,.int .i64 (nth c k).2.1,.int .i64 (nth c k).2.2.1,.int .i64 (nth c k).2.2.2])) 36 (li cT c)) 37 (.int .i64 c.length)) 38 (.int .i64 k)) 6 (.fr 5 (mvOut X [p,q,1] k ++ mvIn X [p,q,1] (nth c k) j).length (cat cV (mvOut X [p,q,1] k ++ mvIn X [p,q,1] (nth c k) j)))) 43 (li cT c')) 44 (.int .i64 c'.length)) 45 (.int .i64 j)),fun _=>none⟩) (fun j=>j ≤ c'.length) (fun j=>c'.length - j) (0) ?_ ?_ ?_);exact Nat.zero_le _;((repeat' (first | exact Qg (by assumption) | exact Qi | refine Qf ?_ ?_ | refine Qh ?_)) <;> simp [-zg,-zd,↓Qb,↓Qa,go_sem,mvIn_zero,List.append_nil]);rintro j hj)
 | (refine ⟨j + 1,by omega,by first | omega | (simp;done) | (simp;omega),?_⟩;((repeat' (first | exact Qg (by assumption) | exact Qi | refine Qf ?_ ?_ | refine Qh ?_)) <;> simp [-zg,-zd,↓Qb,↓Qa,go_sem,e9,mvE,Nat.add_assoc]))
 | (refine Qe ?_)
 | (refine Qt ?_;simp [-zg,-zd,↓Qb,↓Qa,go_sem])
 | (refine Qs ?_;simp [-zg,-zd,↓Qb,↓Qa,go_sem])
 | (refine Qv ?_;simp [-zg,-zd,↓Qb,↓Qa,go_sem,Try.results26])
 | (intro hx;refine zA ?_)
 | (refine ⟨?_,?_⟩ <;> refine zA ?_)
 | (intro hx;constructor <;> intro hs)
 | (constructor <;> intro hs)
 | (refine ⟨?_,fun hs=>?_⟩;refine zA ?_)
 | (refine ⟨fun hs=>?_,?_⟩;rotate_left;refine zA ?_;rotate_left)))
  all_goals (first
 | (rw [hms];exact ⟨rfl,rfl⟩)
 | skip)

theorem ixMov_pure (p q f:Int) (a:List Int) (b:List Bool) (c:List Tr4) (a':List Int) (b':List Bool) (c':List Tr4) (hp0:0 ≤ p) (hp1:p < b.length) (hq0:0 ≤ q) (hq1:q < b'.length) (hf:f = 0 ∨ f = 1) (hc:c.length ≤ 2048) (hc':c'.length ≤ 2048) :
    Pure Try.prog 26 [.st [.int .i64 p,.int .i64 q,.int .i64 f],.pd [li cI a,li cB b,li cT c],.pd [li cI a',li cB b',li cT c']] (fr 5 cV (mvs ⟨a,b,c,a',b',c'⟩ [p,q,f])):=by
  rcases hf with rfl | rfl
  · exact ixMov0 p q a b c a' b' c' hp0 hp1 hq0 hq1 hc hc'
  · exact ixMov1 p q a b c a' b' c' hp0 hp1 hq0 hq1 hc hc'

@[go_sem] def zaih:Con:=.pure fun
  | [.st [.int .i64 p,.int .i64 q,.int .i64 f],.pd [.list n_a c_a,.list n_b c_b,.list n_c c_c],.pd [.list n_a' c_a',.list n_b' c_b',.list n_c' c_c']]=>((Is cI n_a c_a) ∧ (Is cB n_b c_b) ∧ (Is cT n_c c_c) ∧ (Is cI n_a' c_a') ∧ (Is cB n_b' c_b') ∧ (Is cT n_c' c_c') ∧ (0 ≤ p) ∧ (p < (de cB c_b).length) ∧ (0 ≤ q) ∧ (q < (de cB c_b').length) ∧ (f = 0 ∨ f = 1) ∧ ((de cT c_c).length ≤ 2048) ∧ ((de cT c_c').length ≤ 2048),fr 5 cV (mvs ⟨(de cI c_a),(de cB c_b),(de cT c_c),(de cI c_a'),(de cB c_b'),(de cT c_c')⟩ [p,q,f]))
  | _=>(False,.any)
theorem ixMov_pureC_ok:ConOk Try.prog 26 zaih:=by
  refine ⟨Qp Try.func26 (by decide) rfl,fun args h=>?_⟩
  revert h
  dsimp only
  split
  · intro h
    obtain ⟨⟨a,rfl,rfl⟩,⟨b,rfl,rfl⟩,⟨c,rfl,rfl⟩,⟨a',rfl,rfl⟩,⟨b',rfl,rfl⟩,⟨c',rfl,rfl⟩,hp0,hp1,hq0,hq1,hf,hc,hc'⟩:=h
    try simp only [Qr] at *
    exact ⟨ixMov_pure _ _ _ a b c a' b' c' hp0 hp1 hq0 hq1 hf hc hc',by simp [go_sem]⟩
  · intro h
    exact h.elim
@[go_sem] def Γi2:FuncId → Con:=ext Γi1 26 zaih
theorem Jf:∀ g,ConOk Try.prog g (Γi2 g):=Qo Xi ixMov_pureC_ok

end
end Go.Proofs.Ytnfldmfamnhpcaa.Vm

