import Derived.Test.YtkjimmkemnmajaaFW6
import Derived.Test.YtkjimmkemnmajaaFW7
/-
  impl.lasso, impl.around, values along a way. No conditions.
-/
namespace Go.Proofs.Ytkjimmkemnmajaa.Vm
open Go
open Nat renaming sub_pos_of_lt → zsP
open List renaming getD_eq_getElem?_getD → zg,drop_one → zd,replicate → zrP
open Ne renaming symm → zS
noncomputable section
set_option linter.unusedVariables false
set_option linter.unusedSimpArgs false
set_option maxRecDepth 200000

theorem lasso1_pure (z:Int) (t:Int)  : Pure Try.prog 164 [.int .i64 z,.pd [.int .i64 t]] (.bool (decide (z = t))):=by
  refine Pure.of_walk Try.func164 rfl (by simp [Try.f164]) (by simp [-zd,go_sem]) fun B hK=>?_
  (repeat' (first
 | refine Qq ?_
 | refine Qc (id:=0) Γw4_ok [] (by kernel_rfl) ?_;simp [-zg,-zd,↓Qb,↓Qa,go_sem]
 | refine Qc (id:=1) Γw4_ok [] (by kernel_rfl) ?_;simp [-zg,-zd,↓Qb,↓Qa,go_sem]
 | (refine Qf ?_)
 | (refine Qo ?_;simp [-zg,-zd,↓Qb,↓Qa,go_sem])
 | (refine Qn ?_;simp [-zg,-zd,↓Qb,↓Qa,go_sem])
 | (refine Qr ?_;simp [-zg,-zd,↓Qb,↓Qa,go_sem,Try.results164])
 | (intro hx;refine zA ?_)
 | (refine ⟨?_,?_⟩ <;> refine zA ?_)
 | (intro hx;constructor <;> intro hs)
 | (constructor <;> intro hs)
 | (refine ⟨?_,fun hs=>?_⟩;refine zA ?_)
 | (refine ⟨fun hs=>?_,?_⟩;rotate_left;refine zA ?_;rotate_left)))
@[go_sem] def zadl:Con:=.pure fun
  | [.int .i64 z,.pd [.int .i64 t]]=>(True,.bool (decide (z = t)))
  | _=>(False,.any)
theorem zaim:ConOk Try.prog 164 zadl:=by
  refine ⟨Qs Try.func164 (by decide) rfl,fun args h=>?_⟩
  revert h
  dsimp only
  split
  · intro h
    skip
    skip
    exact ⟨lasso1_pure _ _,by simp [go_sem]⟩
  · intro h
    exact h.elim
@[go_sem] def Γw5:FuncId → Con:=ext Γw4 164 zadl
theorem Γw5_ok:∀ g,ConOk Try.prog g (Γw5 g):=Qp Γw4_ok zaim

theorem around1_pure (z:Int) (t:Int) (my:List (List Int)) (h0:0 ≤ z) (h1:z < my.length):Pure Try.prog 207 [.int .i64 z,.pd [.int .i64 t],.pd [li cL my]] (.bool (arG my t z)):=by
  refine Pure.of_walk Try.func207 rfl (by simp [Try.f207]) (by simp [-zd,go_sem]) fun B hK=>?_
  have ht:z.toNat < my.length:=(by omega)
  all_goals (repeat' (first
 | refine Qq ?_
 | refine Qc (id:=0) Γw5_ok [] (by kernel_rfl) ?_;simp [-zg,-zd,↓Qb,↓Qa,go_sem,arG]
 | refine Xp (id:=1) Γw5_ok mixed [8] [] (by kernel_rfl) (by kernel_rfl) (by simp [-zg,-zd,↓Qb,↓Qa,go_sem,h0,h1,ht,Qk ht,zsP ht,arG]) ?_;simp [-zg,-zd,↓Qb,↓Qa,go_sem,h0,h1,ht,Qk ht,zsP ht,arG];try (refine ⟨fun s1a=>?_,fun s1a=>?_⟩ <;> (try simp [B_iff,B_not] at s1a) <;> try (refine ⟨fun s1b=>?_,fun s1b=>?_⟩ <;> (try simp [B_iff,B_not] at s1b)))
 | (refine Qf ?_)
 | (refine Qo ?_;simp [-zg,-zd,↓Qb,↓Qa,go_sem])
 | (refine Qn ?_;simp [-zg,-zd,↓Qb,↓Qa,go_sem])
 | (refine Qr ?_;simp [-zg,-zd,↓Qb,↓Qa,go_sem,Try.results207,arG])
 | (intro hx;refine zA ?_)
 | (refine ⟨?_,?_⟩ <;> refine zA ?_)
 | (intro hx;constructor <;> intro hs)
 | (constructor <;> intro hs)
 | (refine ⟨?_,fun hs=>?_⟩;refine zA ?_)
 | (refine ⟨fun hs=>?_,?_⟩;rotate_left;refine zA ?_;rotate_left)))
  all_goals (first
 | (rw [decide_eq_false s1a,Bool.not_false,Bool.true_and,Bool.eq_iff_iff,B_iff,decide_eq_true_eq])
 | (intro hz;exact absurd s1a hz)
 | skip)
@[go_sem] def zacm:Con:=.pure fun
  | [.int .i64 z,.pd [.int .i64 t],.pd [.list n_my c_my]]=>((Is cL n_my c_my) ∧ (0 ≤ z) ∧ (z < (de cL c_my).length),.bool (arG (de cL c_my) t z))
  | _=>(False,.any)
theorem zaic:ConOk Try.prog 207 zacm:=by
  refine ⟨Qs Try.func207 (by decide) rfl,fun args h=>?_⟩
  revert h
  dsimp only
  split
  · intro h
    obtain ⟨⟨my,rfl,rfl⟩,h0,h1⟩:=h
    try simp only [Qw] at *
    exact ⟨around1_pure _ _ my h0 h1,by simp [go_sem]⟩
  · intro h
    exact h.elim
@[go_sem] def Γw6:FuncId → Con:=ext Γw5 207 zacm
theorem Xg:∀ g,ConOk Try.prog g (Γw6 g):=Qp Γw5_ok zaic

set_option maxHeartbeats 1000000 in
theorem shortestA_pure (nx:List (List Int)) (ss:List Int) (t:Int) (my:List (List Int)) (hx:Qz nx) (hl:NextS nx) (hs:Starts nx.length ss) (hn:nx.length ≤ 1048576) (hmy:my.length = nx.length):Pure Try.prog 163 [li cL nx,li cI ss,.fn 207 [.pd [.int .i64 t],.pd [li cL my]]] (if shW nx ss (arG my t) = [] then .nil else fr 1 cI (shW nx ss (arG my t))):=by
  refine Pure.of_walk Try.func163 rfl (by simp [Try.f163]) (by simp [-zd,go_sem]) fun B hK=>?_
  (repeat' (first
 | refine Qq ?_
 | refine Qc (id:=0) Xg [] (by kernel_rfl) ?_;simp [-zg,-zd,↓Qb,↓Qa,go_sem]
 | refine Qc (id:=1) Xg [] (by kernel_rfl) ?_;simp [-zg,-zd,↓Qb,↓Qa,go_sem,(by omega:8 * (nx.length:Int) ≤ 281474976710656),(by omega:(nx.length:Int) ≤ 9223372036854775807),make_cI]
 | ((refine Xy 7 rfl fun b7 c7 j7 q7 hc7 hd7=>?_);(simp only [go_sem]);clear q7);refine Qc (id:=2) Xg [] (by kernel_rfl) ?_;simp [-zg,-zd,↓Qb,↓Qa,go_sem]
 | refine Qc (id:=3) Xg [] (by kernel_rfl) ?_;simp [-zg,-zd,↓Qb,↓Qa,go_sem]
 | refine Qc (id:=4) Xg [] (by kernel_rfl) ?_;simp [-zg,-zd,↓Qb,↓Qa,go_sem]
 | refine Qc (id:=5) Xg [] (by kernel_rfl) ?_;simp [-zg,-zd,↓Qb,↓Qa,go_sem,fl_len (show k ≤ nx.length by omega),c23,(show k < nx.length + j7 by omega),(show k + 1 ≤ nx.length + j7 by omega)]
 | refine Qc (id:=6) Xg [] (by kernel_rfl) ?_;simp [-zg,-zd,↓Qb,↓Qa,go_sem,wrapS (k:=k) (by omega)]
 | ((have hkn:k = nx.length:=(by omega));subst hkn);refine Qc (id:=7) Xg [] (by kernel_rfl) ?_;simp [-zg,-zd,↓Qb,↓Qa,go_sem];try ((refine zady 9 1 rfl ?_);have hss:=(Bf.start hs).le;(simp only [bfs0] at hss))
 | refine Qc (id:=8) Xg [] (by kernel_rfl) ?_;simp [-zg,-zd,↓Qb,↓Qa,go_sem]
 | refine Qc (id:=9) Xg [] (by kernel_rfl) ?_;simp [-zg,-zd,↓Qb,↓Qa,go_sem]
 | refine Qc (id:=10) Xg [] (by kernel_rfl) ?_;simp [-zg,-zd,↓Qb,↓Qa,go_sem,c32,Qk c32,zsP c32]
 | (have hr:=hs.1 _ (Xl c32);have hrt:(nth ss k).toNat < nx.length:=(by omega));refine Qc (id:=11) Xg [] (by kernel_rfl) ?_;simp [-zg,-zd,↓Qb,↓Qa,go_sem,hr.1,hr.2,hrt,zaco,(show (nth ss k).toNat < nx.length + j7 by omega),(show (nth ss k).toNat + 1 ≤ nx.length + j7 by omega)]
 | refine Qc (id:=12) Xg [] (by kernel_rfl) ?_;simp [-zg,-zd,↓Qb,↓Qa,go_sem,(show k + 1 ≤ 9223372036854775807 by omega),(show 2 * (k + 1) * 8 ≤ 281474976710656 by omega)]
 | refine Qc (id:=13) Xg [] (by kernel_rfl) ?_;simp [-zg,-zd,↓Qb,↓Qa,go_sem,wrapS (k:=k) (by omega)]
 | ((have hks:k = ss.length:=(by omega));(subst hks));refine Qc (id:=14) Xg [] (by kernel_rfl) ?_;simp [-zg,-zd,↓Qb,↓Qa,go_sem];try ((refine Xy 9 rfl fun q cq jq hq hcq hdq=>?_);(dsimp only at hq);(have nq7:¬ q = b7:=zabi hq (Ql ..));(refine Xb (fun H1=>QM1 b7 (zrP j7 .any) ⟨0,bfs0 nx.length ss,q,cq,jq,H1⟩) ⟨by simp [upd,nq7,zS nq7,bfs0],by simp [upd,bfs0],nq7,by simpa [bfs0] using hcq,by simpa [bfs0] using hdq⟩ fun H1 hH1=>?_))
 | refine Qc (id:=15) Xg [] (by kernel_rfl) ?_;simp [-zg,-zd,↓Qb,↓Qa,go_sem]
 | ((have hu:=hB.rng x.k c46);(obtain ⟨hw1,hw2,hw3⟩:=way_at hx hs (i:=x.k) (m:=x.k) (by omega) (by rw [← g2];exact c46));(rw [← g2] at hw1 hw3));refine Qc (id:=17) Xg [] (by kernel_rfl) ?_;simp [-zg,-zd,↓Qb,↓Qa,go_sem,c46,Qk c46,zsP c46,mq,(show x.k < x.s.2.length + x.j by omega),(show x.k + 1 ≤ x.s.2.length + x.j by omega)]
 | refine Qc (id:=18) Xg [] (by kernel_rfl) ?_;simp [-zg,-zd,↓Qb,↓Qa,go_sem,hu.1,hu.2,(show nth x.s.2 x.k < (my.length:Int) by rw [hmy];exact hu.2)]
 | refine Qc (id:=19) Xg [] (by kernel_rfl) ?_;simp [-zg,-zd,↓Qb,↓Qa,go_sem];try ((refine zady 14 1 rfl ?_);have hlu:=up_len hB x.k c46)
 | refine Qc (id:=20) Xg [] (by kernel_rfl) ?_;simp [-zg,-zd,↓Qb,↓Qa,go_sem]
 | ((obtain ⟨v1,v2,v3⟩:=f1.resolve_left (by omega));(obtain ⟨m',u1,u2,u3⟩:=up_next hB (m:=w.1 - 1) (by omega));(rw [← v3] at u2 u3);(replace u3:=u3 (nx.length + 1) (by omega));have hvr:=hB.rng (w.1 - 1) (by omega);(rw [← v3] at hvr);(have hvt:w.2.1.toNat < x.s.1.length:=(by omega)));refine Qc (id:=22) Xg [] (by kernel_rfl) ?_;simp [-zg,-zd,↓Qb,↓Qa,go_sem,(show w.2.2.length + 1 ≤ 9223372036854775807 by omega),(show 2 * (w.2.2.length + 1) * 8 ≤ 281474976710656 by omega)]
 | refine Qc (id:=21) Xg [] (by kernel_rfl) ?_;simp [-zg,-zd,↓Qb,↓Qa,go_sem,m7,hvr.1,hvr.2,hvt,(show w.2.1.toNat < nx.length + j7 by omega),(show w.2.1.toNat + 1 ≤ nx.length + j7 by omega),(show w.2.1.toNat < x.s.1.length + j7 by omega),(show w.2.1.toNat + 1 ≤ x.s.1.length + j7 by omega)]
 | ((have hfin:w.2.2 = up x.s.1 (nx.length + 1) (nth x.s.2 x.k):=(by rw [← f2,up_neg _ _ c57,List.append_nil]));(have hW:shW nx ss (arG my t) = w.2.2.reverse:=(by rw [hfin,← hw3,← hw1];exact shW_at g4 hw2 (by rw [hw1];simp [c55])));(have hne:¬ w.2.2.reverse = []:=(by rw [hfin];exact up_ne hu.1));(have hol:w.2.2.length ≤ 1048577:=(by omega));(refine Xy 14 rfl fun bo co jo ho hco hdo=>?_);(try dsimp only at *);(try simp only [go_sem]));refine Qc (id:=23) Xg [] (by kernel_rfl) ?_;simp [-zg,-zd,↓Qb,↓Qa,go_sem,(show w.2.2.length ≤ 1099511627776 by omega),(show w.2.2.length ≤ w.2.2.length + jo by omega)]
 | ((refine Jl 14 (b:=bo) (all:=cat cI w.2.2.reverse ++ zrP jo .any) rfl (by simp [upd]) (by omega) (by simp [Qu]) (by simp [Qu];omega) ?_));refine Qc (id:=24) Xg [] (by kernel_rfl) ?_;simp [-zg,-zd,↓Qb,↓Qa,go_sem,(Xn (f:=cI) w.2.2.reverse (zrP jo .any) (n:=w.2.2.length) (by simp))]
 | (have hul:(nth x.s.2 x.k).toNat < nx.length:=(by omega));refine Qc (id:=25) Xg [] (by kernel_rfl) ?_;simp [-zg,-zd,↓Qb,↓Qa,go_sem,c46,Qk c46,zsP c46,mq,hu.1,hu.2,hul,Qk hul,zsP hul,(show x.k < x.s.2.length + x.j by omega),(show x.k + 1 ≤ x.s.2.length + x.j by omega)];try ((have hxu:=hx (nth x.s.2 x.k).toNat (by omega));(have hls:=hl (nth x.s.2 x.k).toNat (by omega)))
 | refine Qc (id:=26) Xg [] (by kernel_rfl) ?_;simp [-zg,-zd,↓Qb,↓Qa,go_sem]
 | refine Qc (id:=27) Xg [] (by kernel_rfl) ?_;simp [-zg,-zd,↓Qb,↓Qa,go_sem,c79,Qk c79,zsP c79];try ((generalize hv:nth (nth nx (nth x.s.2 x.k).toNat) y.k = v);have hvr:=hxu y.k c79;(rw [hv] at hvr);have hvn:v.toNat < nx.length:=(by omega))
 | refine Qc (id:=28) Xg [] (by kernel_rfl) ?_;simp [-zg,-zd,↓Qb,↓Qa,go_sem,p7,hvr.1,hvr.2,hvn,e7,(show v.toNat < y.s.1.length by omega),(show v.toNat < nx.length + j7 by omega),(show v.toNat + 1 ≤ nx.length + j7 by omega)]
 | refine Qc (id:=29) Xg [] (by kernel_rfl) ?_;simp [-zg,-zd,↓Qb,↓Qa,go_sem,p7,pq,pn,zS pn,hvr.1,hvr.2,hvn,e7,e6,Qk e6,zsP e6,e5,(show v.toNat < y.s.1.length by omega),(show v.toNat < nx.length + j7 by omega),(show v.toNat + 1 ≤ nx.length + j7 by omega),(show x.k < y.s.2.length + y.j by omega),(show x.k + 1 ≤ y.s.2.length + y.j by omega)]
 | refine Qc (id:=30) Xg [] (by kernel_rfl) ?_;simp [-zg,-zd,↓Qb,↓Qa,go_sem,pq,pn,zS pn,Zv,(show y.s.2.length ≤ y.s.2.length + y.j by omega),t2,(show y.s.2.length + 1 ≤ 9223372036854775807 by omega),(show 2 * (y.s.2.length + 1) * 8 ≤ 281474976710656 by omega),Xi];try ((refine Xy 9 rfl fun q' cp' jj' hq' hc' hd'=>?_);(dsimp only at hq');(have k7:¬ q' = b7:=(by rintro rfl;simp [upd,pn,zS pn] at hq'));(refine Xb (fun H2=>QM1 b7 (zrP j7 .any) ⟨y.k + 1,((y.s.1.set v.toNat (nth x.s.2 x.k),y.s.2 ++ [v]):PQ),q',cp',jj',H2⟩) ⟨by simp [upd,k7,zS k7,pn,zS pn],by simp [upd,k7,zS k7,pn,zS pn],k7,by simpa using hc',by simpa using hd'⟩ fun H2 hH2=>?_))
 | refine Qc (id:=31) Xg [] (by kernel_rfl) ?_;simp [-zg,-zd,↓Qb,↓Qa,go_sem,wrapS (k:=y.k) (by omega)]
 | refine Qc (id:=16) Xg [] (by kernel_rfl) ?_;simp [-zg,-zd,↓Qb,↓Qa,go_sem,wrapS (k:=x.k) (by omega)]
 | refine Qc (id:=32) Xg [] (by kernel_rfl) ?_;simp [-zg,-zd,↓Qb,↓Qa,go_sem]
 | refine Qd (c:=.tmp 23) ?_;simp [-zg,-zd,↓Qb,↓Qa,go_sem];try first | (refine ⟨?_,?_⟩ <;> refine zA ?_) | (refine ⟨fun c23=>?_,fun c23=>?_⟩ <;> (try simp [B_iff,B_not] at c23))
 | refine Qd (c:=.tmp 32) ?_;simp [-zg,-zd,↓Qb,↓Qa,go_sem];try first | (refine ⟨?_,?_⟩ <;> refine zA ?_) | (refine ⟨fun c32=>?_,fun c32=>?_⟩ <;> (try simp [B_iff,B_not] at c32))
 | refine Qd (c:=.tmp 46) ?_;simp [-zg,-zd,↓Qb,↓Qa,go_sem];try first | (refine ⟨?_,?_⟩ <;> refine zA ?_) | (refine ⟨fun c46=>?_,fun c46=>?_⟩ <;> (try simp [B_iff,B_not] at c46))
 | refine Qd (c:=.tmp 55) ?_;simp [-zg,-zd,↓Qb,↓Qa,go_sem];try first | (refine ⟨?_,?_⟩ <;> refine zA ?_) | (refine ⟨fun c55=>?_,fun c55=>?_⟩ <;> (try simp [B_iff,B_not] at c55))
 | refine Qd (c:=.tmp 57) ?_;simp [-zg,-zd,↓Qb,↓Qa,go_sem];try first | (refine ⟨?_,?_⟩ <;> refine zA ?_) | (refine ⟨fun c57=>?_,fun c57=>?_⟩ <;> (try simp [B_iff,B_not] at c57))
 | refine Qd (c:=.tmp 79) ?_;simp [-zg,-zd,↓Qb,↓Qa,go_sem];try first | (refine ⟨?_,?_⟩ <;> refine zA ?_) | (refine ⟨fun c79=>?_,fun c79=>?_⟩ <;> (try simp [B_iff,B_not] at c79))
 | refine Qd (c:=.tmp 86) ?_;simp [-zg,-zd,↓Qb,↓Qa,go_sem];try first | (refine ⟨?_,?_⟩ <;> refine zA ?_) | (refine ⟨fun c86=>?_,fun c86=>?_⟩ <;> (try simp [B_iff,B_not] at c86))
 | (refine Qf (id:=0) (Qv (ι:=Nat) (fun k:Nat=>⟨(upd (upd (upd (upd (upd (upd (fun _=>.any) 0 (li cL nx)) 1 (li cI ss)) 2 (.fn 207 [.pd [.int .i64 t],.pd [li cL my]])) 7 (.sl b7 1 0 nx.length c7)) 21 (.int .i64 nx.length)) 22 (.int .i64 k)),upd (fun _=>none) b7 (some (cat cI (fl nx.length k) ++ zrP j7 .any))⟩) (fun k=>k ≤ nx.length) (fun k=>nx.length - k) (0) ?_ ?_ ?_);exact Nat.zero_le _;((repeat' (first | exact Qg (by assumption) | exact Qi | refine Qj ?_ ?_ | refine Qh ?_)) <;> simp [-zg,-zd,↓Qb,↓Qa,go_sem,fl_zero]);rintro k hk)
 | (refine ⟨k + 1,by omega,by first | omega | (simp;done) | (simp;omega),?_⟩;((repeat' (first | exact Qg (by assumption) | exact Qi | refine Qj ?_ ?_ | refine Qh ?_)) <;> simp [-zg,-zd,↓Qb,↓Qa,go_sem,fl_set c23]))
 | (refine Qf (id:=2) (Qv (ι:=Nat) (fun k:Nat=>⟨(upd (upd (upd (upd (upd (upd (upd (upd (fun _=>.any) 0 (li cL nx)) 1 (li cI ss)) 2 (.fn 207 [.pd [.int .i64 t],.pd [li cL my]])) 7 (.sl b7 1 0 nx.length c7)) 9 (.fr 1 k (cat cI (ss.take k)))) 29 (li cI ss)) 30 (.int .i64 ss.length)) 31 (.int .i64 k)),upd (fun _=>none) b7 (some (cat cI (roots nx.length (ss.take k)) ++ zrP j7 .any))⟩) (fun k=>k ≤ ss.length) (fun k=>ss.length - k) (0) ?_ ?_ ?_);exact Nat.zero_le _;((repeat' (first | exact Qg (by assumption) | exact Qi | refine Qj ?_ ?_ | refine Qh ?_)) <;> simp [-zg,-zd,↓Qb,↓Qa,go_sem,fl_all,roots,cat]);rintro k hk2)
 | (refine ⟨k + 1,by omega,by first | omega | (simp;done) | (simp;omega),?_⟩;((repeat' (first | exact Qg (by assumption) | exact Qi | refine Qj ?_ ?_ | refine Qh ?_)) <;> simp [-zg,-zd,↓Qb,↓Qa,go_sem,zaec c32,zafr c32]))
 | (refine Qf (id:=4) (Qv (ι:=SQ) (fun x:SQ=>⟨(upd (upd (upd (upd (upd (upd (fun _=>.any) 0 (li cL nx)) 1 (li cI ss)) 2 (.fn 207 [.pd [.int .i64 t],.pd [li cL my]])) 7 (.sl b7 1 0 nx.length c7)) 9 (.sl x.q 1 0 x.s.2.length x.cp)) 12 (.int .i64 x.k)),x.H⟩) (fun x=>x.k ≤ x.s.2.length ∧ x.s = bfs nx x.k (bfs0 nx.length ss) ∧ NoneTill (fun i=>(arG my t) (nth (bfsE nx ss).2 i)) x.k ∧ QM1 b7 (zrP j7 .any) x) (fun x=>nx.length - x.k) (⟨0,bfs0 nx.length ss,q,cq,jq,H1⟩) ?_ ?_ ?_);exact ⟨Nat.zero_le _,rfl,.zero _,hH1⟩;((repeat' (first | exact Qg (by assumption) | exact Qi | refine Qj ?_ ?_ | refine Qh ?_)) <;> simp [-zg,-zd,↓Qb,↓Qa,go_sem,bfs0,List.take_length]);rintro x ⟨g1,g2,g4,g3⟩;have hB:=(bfs_ok hx (Bf.start hs) x.k).1;(rw [← g2] at hB);have hle:=hB.le;have m7:=g3.m7;have mq:=g3.mq;have n7:=g3.n7;have r1:=g3.r1;have r2:=g3.r2)
 | (refine ⟨⟨x.k + 1,y.s,y.q,y.cp,y.j,y.H⟩,⟨by dsimp only;omega,by dsimp only;(have qe:y.k = (nth nx (nth x.s.2 x.k).toNat).length:=by omega);rw [qe,List.take_length] at e2;rw [e2,zadw (by rw [← g2];exact c46),← g2],g4.succ (by rw [hw1];simp [c55]),⟨e3.m7,e3.mq,e3.n7,e3.r1,e3.r2⟩⟩,by first | omega | (simp;done) | (simp;omega),?_⟩;((repeat' (first | exact Qg (by assumption) | exact Qi | refine Qj ?_ ?_ | refine Qh ?_)) <;> simp [-zg,-zd,↓Qb,↓Qa,go_sem,bfs0,List.take_length]))
 | (refine Qf (id:=6) (Qv (ι:=Nat × Int × List Int) (fun w:Nat × Int × List Int=>⟨(upd (upd (upd (fun _=>.any) 7 (.sl b7 1 0 nx.length c7)) 13 (.int .i64 w.2.1)) 14 (.fr 1 w.2.2.length (cat cI w.2.2))),x.H⟩) (fun w=>((w.1 = 0 ∧ w.2.1 < 0) ∨ (1 ≤ w.1 ∧ w.1 ≤ x.s.2.length ∧ w.2.1 = nth x.s.2 (w.1 - 1))) ∧ w.2.2 ++ up x.s.1 (nx.length + 1) w.2.1 = up x.s.1 (nx.length + 1) (nth x.s.2 x.k)) (fun w=>w.1) ((x.k + 1,nth x.s.2 x.k,[])) ?_ ?_ ?_);exact ⟨.inr ⟨by dsimp only;omega,by dsimp only;omega,rfl⟩,rfl⟩;((repeat' (first | exact Qg (by assumption) | exact Qi | refine Qj ?_ ?_ | refine Qh ?_)) <;> simp [-zg,-zd,↓Qb,↓Qa,go_sem,cat]);rintro w ⟨f1,f2⟩;have f3:=congrArg List.length f2;(rw [List.length_append] at f3);have f4:=hlu (nx.length + 1);have hlen0:=hB.len)
 | (refine ⟨(m',nth x.s.1 w.2.1.toNat,w.2.2 ++ [w.2.1]),⟨u2,by dsimp only;rw [← f2,u3,List.append_assoc];rfl⟩,by first | omega | (simp;done) | (simp;omega),?_⟩;((repeat' (first | exact Qg (by assumption) | exact Qi | refine Qj ?_ ?_ | refine Qh ?_)) <;> simp [-zg,-zd,↓Qb,↓Qa,go_sem,Zv]))
 | (refine Qf (id:=8) (Qv (ι:=SQ) (fun y:SQ=>⟨(upd (upd (upd (upd (upd (upd (upd (upd (upd (fun _=>.any) 0 (li cL nx)) 1 (li cI ss)) 2 (.fn 207 [.pd [.int .i64 t],.pd [li cL my]])) 7 (.sl b7 1 0 nx.length c7)) 9 (.sl y.q 1 0 y.s.2.length y.cp)) 12 (.int .i64 x.k)) 76 (li cI (nth nx (nth x.s.2 x.k).toNat))) 77 (.int .i64 (nth nx (nth x.s.2 x.k).toNat).length)) 78 (.int .i64 y.k)),y.H⟩) (fun y=>y.k ≤ (nth nx (nth x.s.2 x.k).toNat).length ∧ y.s = meets (nth x.s.2 x.k) ((nth nx (nth x.s.2 x.k).toNat).take y.k) x.s ∧ QM1 b7 (zrP j7 .any) y) (fun y=>(nth nx (nth x.s.2 x.k).toNat).length - y.k) (⟨0,x.s,x.q,x.cp,x.j,x.H⟩) ?_ ?_ ?_);exact ⟨Nat.zero_le _,by simp [meets],⟨g3.m7,g3.mq,g3.n7,g3.r1,g3.r2⟩⟩;((repeat' (first | exact Qg (by assumption) | exact Qi | refine Qj ?_ ?_ | refine Qh ?_)) <;> simp [-zg,-zd,↓Qb,↓Qa,go_sem]);rintro y ⟨e1,e2,e3⟩;(obtain ⟨hC,hL⟩:=zadj hB c46 hxu y.k e1);(rw [← e2] at hC hL);have hl2:=hL.le;have e5:=hL.nth c46;have e6:x.k < y.s.2.length:=(by omega);have hle2:=hC.le;have e7:=hC.len;have p7:=e3.m7;have pq:=e3.mq;have pn:=e3.n7;have t1:=e3.r1;have t2:=e3.r2)
 | (refine ⟨⟨y.k + 1,((y.s.1.set v.toNat (nth x.s.2 x.k),y.s.2 ++ [v]):PQ),q',cp',jj',H2⟩,⟨by dsimp only;omega,by dsimp only;rw [zaaw _ c79,← e2,hv,meet1,if_pos (by assumption)],hH2⟩,by first | omega | (simp;done) | (simp;omega),?_⟩;((repeat' (first | exact Qg (by assumption) | exact Qi | refine Qj ?_ ?_ | refine Qh ?_)) <;> simp [-zg,-zd,↓Qb,↓Qa,go_sem]))
 | (refine Qf ?_)
 | (refine Qo ?_;simp [-zg,-zd,↓Qb,↓Qa,go_sem])
 | (refine Qn ?_;simp [-zg,-zd,↓Qb,↓Qa,go_sem])
 | (refine Qr ?_;simp [-zg,-zd,↓Qb,↓Qa,go_sem,Try.results163])
 | (intro hx;refine zA ?_)
 | (refine ⟨?_,?_⟩ <;> refine zA ?_)
 | (intro hx;constructor <;> intro hs)
 | (constructor <;> intro hs)
 | (refine ⟨?_,fun hs=>?_⟩;refine zA ?_)
 | (refine ⟨fun hs=>?_,?_⟩;rotate_left;refine zA ?_;rotate_left)
 | (refine ⟨⟨y.k + 1,y.s,y.q,y.cp,y.j,y.H⟩,⟨by dsimp only;omega,by dsimp only;rw [zaaw _ c79,← e2,hv,meet1,if_neg (by assumption)],⟨e3.m7,e3.mq,e3.n7,e3.r1,e3.r2⟩⟩,by dsimp only;omega,?_⟩;((repeat' (first | exact Qg (by assumption) | exact Qi | refine Qj ?_ ?_ | refine Qh ?_)) <;> simp [-zg,-zd,go_sem]))))
  all_goals (first
 | (rw [hW,if_neg hne];simp;done)
 | (rw [hW,if_neg hne])
 | (have e:x.s = bfsE nx ss:=(by rw [g2];exact zafg (by rw [← g2];omega) (by omega));exact zagn g4 (by rw [← e];omega))
 | (rw [if_pos];have e:x.s = bfsE nx ss:=(by rw [g2];exact zafg (by rw [← g2];omega) (by omega));exact zagn g4 (by rw [← e];omega))
 | skip)
@[go_sem] def zabe:Con:=.pure fun
  | [.list n_nx c_nx,.list n_ss c_ss,.fn 207 [.pd [.int .i64 t],.pd [.list n_my c_my]]]=>((Is cL n_nx c_nx) ∧ (Is cI n_ss c_ss) ∧ (Is cL n_my c_my) ∧ (Qz (de cL c_nx)) ∧ (NextS (de cL c_nx)) ∧ (Starts (de cL c_nx).length (de cI c_ss)) ∧ ((de cL c_nx).length ≤ 1048576) ∧ ((de cL c_my).length = (de cL c_nx).length),if shW (de cL c_nx) (de cI c_ss) (arG (de cL c_my) t) = [] then .nil else fr 1 cI (shW (de cL c_nx) (de cI c_ss) (arG (de cL c_my) t)))
  | _=>(False,.any)
theorem zaej:ConOk Try.prog 163 zabe:=by
  refine ⟨Qs Try.func163 (by decide) rfl,fun args h=>?_⟩
  revert h
  dsimp only
  split
  · intro h
    obtain ⟨⟨nx,rfl,rfl⟩,⟨ss,rfl,rfl⟩,⟨my,rfl,rfl⟩,hx,hl,hs,hn,hmy⟩:=h
    try simp only [Qw] at *
    exact ⟨shortestA_pure nx ss _ my hx hl hs hn hmy,by simp [go_sem]⟩
  · intro h
    exact h.elim
@[go_sem] def Γw7:FuncId → Con:=ext Γw6 163 zabe
theorem Γw7_ok:∀ g,ConOk Try.prog g (Γw7 g):=Qp Xg zaej

set_option maxHeartbeats 2000000 in

theorem around_pure (nx:List (List Int)) (s:Int) (hx:Qz nx) (hs:NextS nx) (hn:nx.length ≤ 1048576) (h0:0 ≤ s) (h1:s < nx.length) (hc:¬ arL nx s = []):Pure Try.prog 165 [li cL nx,.int .i64 s] (fr 1 cI (arL nx s)):=by
  refine Pure.of_walk Try.func165 rfl (by simp [Try.f165]) (by simp [-zd,go_sem]) fun B hK=>?_
  have hst:s.toNat < nx.length:=(by omega);have hS:=Starts.one' h0 h1
  all_goals (repeat' (first
 | refine Qq ?_
 | refine Qc (id:=0) Γw7_ok [] (by kernel_rfl) ?_;simp [-zg,-zd,↓Qb,↓Qa,go_sem];try ((refine Xa hK 2 ?_);(refine Xa hK 3 ?_);(simp [go_sem]))
 | refine Xp (id:=1) Γw7_ok mixed [] [3] (by kernel_rfl) (by kernel_rfl) (by simp [-zg,-zd,↓Qb,↓Qa,go_sem,h0,h1,hst,Qk hst,zsP hst]) ?_;simp [-zg,-zd,↓Qb,↓Qa,go_sem,h0,h1,hst,Qk hst,zsP hst];try (by_cases hm:s ∈ nth nx s.toNat)
 | refine Qc (id:=2) Γw7_ok [] (by kernel_rfl) ?_;simp [-zg,-zd,↓Qb,↓Qa,go_sem,arL_one hm]
 | ((have hA:arL nx s = shW nx [s] (arG nx s):=if_neg hm);(have hW:¬ shW nx [s] (arG nx s) = []:=(by rw [← hA];exact hc)));refine Qc (id:=3) Γw7_ok [] (by kernel_rfl) ?_;simp [-zg,-zd,↓Qb,↓Qa,go_sem,hx,hs,hn,hS,hA,hW,(show Is cI 1 [D.int .i64 s] ↔ True by rw [one_cI,is_cat];simp),(show de cI [D.int .i64 s] = [s] by rw [one_cI,Qw])]
 | refine Qd (c:=.tmp 10) ?_;simp [-zg,-zd,↓Qb,↓Qa,go_sem];try first | (refine ⟨?_,?_⟩ <;> refine zA ?_) | (refine ⟨fun c10=>?_,fun c10=>?_⟩ <;> (try simp [B_iff,B_not] at c10))
 | (refine Qf ?_)
 | (refine Qo ?_;simp [-zg,-zd,↓Qb,↓Qa,go_sem])
 | (refine Qn ?_;simp [-zg,-zd,↓Qb,↓Qa,go_sem])
 | (refine Qr ?_;simp [-zg,-zd,↓Qb,↓Qa,go_sem,Try.results165])
 | (intro hx;refine zA ?_)
 | (refine ⟨?_,?_⟩ <;> refine zA ?_)
 | (intro hx;constructor <;> intro hs)
 | (constructor <;> intro hs)
 | (refine ⟨?_,fun hs=>?_⟩;refine zA ?_)
 | (refine ⟨fun hs=>?_,?_⟩;rotate_left;refine zA ?_;rotate_left)))
  all_goals (first
 | rfl
 | (exact absurd hm c10)
 | (exact absurd c10 hm)
 | skip)
@[go_sem] def zadx:Con:=.pure fun
  | [.list n_nx c_nx,.int .i64 s]=>((Is cL n_nx c_nx) ∧ (Qz (de cL c_nx)) ∧ (NextS (de cL c_nx)) ∧ ((de cL c_nx).length ≤ 1048576) ∧ (0 ≤ s) ∧ (s < (de cL c_nx).length) ∧ (¬ arL (de cL c_nx) s = []),fr 1 cI (arL (de cL c_nx) s))
  | _=>(False,.any)
theorem zaiu:ConOk Try.prog 165 zadx:=by
  refine ⟨Qs Try.func165 (by decide) rfl,fun args h=>?_⟩
  revert h
  dsimp only
  split
  · intro h
    obtain ⟨⟨nx,rfl,rfl⟩,hx,hs,hn,h0,h1,hc⟩:=h
    try simp only [Qw] at *
    exact ⟨around_pure nx _ hx hs hn h0 h1 hc,by simp [go_sem]⟩
  · intro h
    exact h.elim
@[go_sem] def Γw8:FuncId → Con:=ext Γw7 165 zadx
theorem Xf:∀ g,ConOk Try.prog g (Γw8 g):=Qp Γw7_ok zaiu

set_option maxHeartbeats 1000000 in
theorem shortestL_pure (nx:List (List Int)) (ss:List Int) (t:Int) (hx:Qz nx) (hl:NextS nx) (hs:Starts nx.length ss) (hn:nx.length ≤ 1048576):Pure Try.prog 163 [li cL nx,li cI ss,.fn 164 [.pd [.int .i64 t]]] (if shW nx ss (fun z=>decide (z = t)) = [] then .nil else fr 1 cI (shW nx ss (fun z=>decide (z = t)))):=by
  refine Pure.of_walk Try.func163 rfl (by simp [Try.f163]) (by simp [-zd,go_sem]) fun B hK=>?_
  (repeat' (first
 | refine Qq ?_
 | refine Qc (id:=0) Xf [] (by kernel_rfl) ?_;simp [-zg,-zd,↓Qb,↓Qa,go_sem]
 | refine Qc (id:=1) Xf [] (by kernel_rfl) ?_;simp [-zg,-zd,↓Qb,↓Qa,go_sem,(by omega:8 * (nx.length:Int) ≤ 281474976710656),(by omega:(nx.length:Int) ≤ 9223372036854775807),make_cI]
 | ((refine Xy 7 rfl fun b7 c7 j7 q7 hc7 hd7=>?_);(simp only [go_sem]);clear q7);refine Qc (id:=2) Xf [] (by kernel_rfl) ?_;simp [-zg,-zd,↓Qb,↓Qa,go_sem]
 | refine Qc (id:=3) Xf [] (by kernel_rfl) ?_;simp [-zg,-zd,↓Qb,↓Qa,go_sem]
 | refine Qc (id:=4) Xf [] (by kernel_rfl) ?_;simp [-zg,-zd,↓Qb,↓Qa,go_sem]
 | refine Qc (id:=5) Xf [] (by kernel_rfl) ?_;simp [-zg,-zd,↓Qb,↓Qa,go_sem,fl_len (show k ≤ nx.length by omega),c23,(show k < nx.length + j7 by omega),(show k + 1 ≤ nx.length + j7 by omega)]
 | refine Qc (id:=6) Xf [] (by kernel_rfl) ?_;simp [-zg,-zd,↓Qb,↓Qa,go_sem,wrapS (k:=k) (by omega)]
 | ((have hkn:k = nx.length:=(by omega));subst hkn);refine Qc (id:=7) Xf [] (by kernel_rfl) ?_;simp [-zg,-zd,↓Qb,↓Qa,go_sem];try ((refine zady 9 1 rfl ?_);have hss:=(Bf.start hs).le;(simp only [bfs0] at hss))
 | refine Qc (id:=8) Xf [] (by kernel_rfl) ?_;simp [-zg,-zd,↓Qb,↓Qa,go_sem]
 | refine Qc (id:=9) Xf [] (by kernel_rfl) ?_;simp [-zg,-zd,↓Qb,↓Qa,go_sem]
 | refine Qc (id:=10) Xf [] (by kernel_rfl) ?_;simp [-zg,-zd,↓Qb,↓Qa,go_sem,c32,Qk c32,zsP c32]
 | (have hr:=hs.1 _ (Xl c32);have hrt:(nth ss k).toNat < nx.length:=(by omega));refine Qc (id:=11) Xf [] (by kernel_rfl) ?_;simp [-zg,-zd,↓Qb,↓Qa,go_sem,hr.1,hr.2,hrt,zaco,(show (nth ss k).toNat < nx.length + j7 by omega),(show (nth ss k).toNat + 1 ≤ nx.length + j7 by omega)]
 | refine Qc (id:=12) Xf [] (by kernel_rfl) ?_;simp [-zg,-zd,↓Qb,↓Qa,go_sem,(show k + 1 ≤ 9223372036854775807 by omega),(show 2 * (k + 1) * 8 ≤ 281474976710656 by omega)]
 | refine Qc (id:=13) Xf [] (by kernel_rfl) ?_;simp [-zg,-zd,↓Qb,↓Qa,go_sem,wrapS (k:=k) (by omega)]
 | ((have hks:k = ss.length:=(by omega));(subst hks));refine Qc (id:=14) Xf [] (by kernel_rfl) ?_;simp [-zg,-zd,↓Qb,↓Qa,go_sem];try ((refine Xy 9 rfl fun q cq jq hq hcq hdq=>?_);(dsimp only at hq);(have nq7:¬ q = b7:=zabi hq (Ql ..));(refine Xb (fun H1=>QM1 b7 (zrP j7 .any) ⟨0,bfs0 nx.length ss,q,cq,jq,H1⟩) ⟨by simp [upd,nq7,zS nq7,bfs0],by simp [upd,bfs0],nq7,by simpa [bfs0] using hcq,by simpa [bfs0] using hdq⟩ fun H1 hH1=>?_))
 | refine Qc (id:=15) Xf [] (by kernel_rfl) ?_;simp [-zg,-zd,↓Qb,↓Qa,go_sem]
 | ((have hu:=hB.rng x.k c46);(obtain ⟨hw1,hw2,hw3⟩:=way_at hx hs (i:=x.k) (m:=x.k) (by omega) (by rw [← g2];exact c46));(rw [← g2] at hw1 hw3));refine Qc (id:=17) Xf [] (by kernel_rfl) ?_;simp [-zg,-zd,↓Qb,↓Qa,go_sem,c46,Qk c46,zsP c46,mq,(show x.k < x.s.2.length + x.j by omega),(show x.k + 1 ≤ x.s.2.length + x.j by omega)]
 | refine Qc (id:=18) Xf [] (by kernel_rfl) ?_;simp [-zg,-zd,↓Qb,↓Qa,go_sem,hu.1,hu.2,]
 | refine Qc (id:=19) Xf [] (by kernel_rfl) ?_;simp [-zg,-zd,↓Qb,↓Qa,go_sem];try ((refine zady 14 1 rfl ?_);have hlu:=up_len hB x.k c46)
 | refine Qc (id:=20) Xf [] (by kernel_rfl) ?_;simp [-zg,-zd,↓Qb,↓Qa,go_sem]
 | ((obtain ⟨v1,v2,v3⟩:=f1.resolve_left (by omega));(obtain ⟨m',u1,u2,u3⟩:=up_next hB (m:=w.1 - 1) (by omega));(rw [← v3] at u2 u3);(replace u3:=u3 (nx.length + 1) (by omega));have hvr:=hB.rng (w.1 - 1) (by omega);(rw [← v3] at hvr);(have hvt:w.2.1.toNat < x.s.1.length:=(by omega)));refine Qc (id:=22) Xf [] (by kernel_rfl) ?_;simp [-zg,-zd,↓Qb,↓Qa,go_sem,(show w.2.2.length + 1 ≤ 9223372036854775807 by omega),(show 2 * (w.2.2.length + 1) * 8 ≤ 281474976710656 by omega)]
 | refine Qc (id:=21) Xf [] (by kernel_rfl) ?_;simp [-zg,-zd,↓Qb,↓Qa,go_sem,m7,hvr.1,hvr.2,hvt,(show w.2.1.toNat < nx.length + j7 by omega),(show w.2.1.toNat + 1 ≤ nx.length + j7 by omega),(show w.2.1.toNat < x.s.1.length + j7 by omega),(show w.2.1.toNat + 1 ≤ x.s.1.length + j7 by omega)]
 | ((have hfin:w.2.2 = up x.s.1 (nx.length + 1) (nth x.s.2 x.k):=(by rw [← f2,up_neg _ _ c57,List.append_nil]));(have hW:shW nx ss (fun z=>decide (z = t)) = w.2.2.reverse:=(by rw [hfin,← hw3,← hw1];exact shW_at g4 hw2 (by rw [hw1];simp [c55])));(have hne:¬ w.2.2.reverse = []:=(by rw [hfin];exact up_ne hu.1));(have hol:w.2.2.length ≤ 1048577:=(by omega));(refine Xy 14 rfl fun bo co jo ho hco hdo=>?_);(try dsimp only at *);(try simp only [go_sem]));refine Qc (id:=23) Xf [] (by kernel_rfl) ?_;simp [-zg,-zd,↓Qb,↓Qa,go_sem,(show w.2.2.length ≤ 1099511627776 by omega),(show w.2.2.length ≤ w.2.2.length + jo by omega)]
 | ((refine Jl 14 (b:=bo) (all:=cat cI w.2.2.reverse ++ zrP jo .any) rfl (by simp [upd]) (by omega) (by simp [Qu]) (by simp [Qu];omega) ?_));refine Qc (id:=24) Xf [] (by kernel_rfl) ?_;simp [-zg,-zd,↓Qb,↓Qa,go_sem,(Xn (f:=cI) w.2.2.reverse (zrP jo .any) (n:=w.2.2.length) (by simp))]
 | (have hul:(nth x.s.2 x.k).toNat < nx.length:=(by omega));refine Qc (id:=25) Xf [] (by kernel_rfl) ?_;simp [-zg,-zd,↓Qb,↓Qa,go_sem,c46,Qk c46,zsP c46,mq,hu.1,hu.2,hul,Qk hul,zsP hul,(show x.k < x.s.2.length + x.j by omega),(show x.k + 1 ≤ x.s.2.length + x.j by omega)];try ((have hxu:=hx (nth x.s.2 x.k).toNat (by omega));(have hls:=hl (nth x.s.2 x.k).toNat (by omega)))
 | refine Qc (id:=26) Xf [] (by kernel_rfl) ?_;simp [-zg,-zd,↓Qb,↓Qa,go_sem]
 | refine Qc (id:=27) Xf [] (by kernel_rfl) ?_;simp [-zg,-zd,↓Qb,↓Qa,go_sem,c79,Qk c79,zsP c79];try ((generalize hv:nth (nth nx (nth x.s.2 x.k).toNat) y.k = v);have hvr:=hxu y.k c79;(rw [hv] at hvr);have hvn:v.toNat < nx.length:=(by omega))
 | refine Qc (id:=28) Xf [] (by kernel_rfl) ?_;simp [-zg,-zd,↓Qb,↓Qa,go_sem,p7,hvr.1,hvr.2,hvn,e7,(show v.toNat < y.s.1.length by omega),(show v.toNat < nx.length + j7 by omega),(show v.toNat + 1 ≤ nx.length + j7 by omega)]
 | refine Qc (id:=29) Xf [] (by kernel_rfl) ?_;simp [-zg,-zd,↓Qb,↓Qa,go_sem,p7,pq,pn,zS pn,hvr.1,hvr.2,hvn,e7,e6,Qk e6,zsP e6,e5,(show v.toNat < y.s.1.length by omega),(show v.toNat < nx.length + j7 by omega),(show v.toNat + 1 ≤ nx.length + j7 by omega),(show x.k < y.s.2.length + y.j by omega),(show x.k + 1 ≤ y.s.2.length + y.j by omega)]
 | refine Qc (id:=30) Xf [] (by kernel_rfl) ?_;simp [-zg,-zd,↓Qb,↓Qa,go_sem,pq,pn,zS pn,Zv,(show y.s.2.length ≤ y.s.2.length + y.j by omega),t2,(show y.s.2.length + 1 ≤ 9223372036854775807 by omega),(show 2 * (y.s.2.length + 1) * 8 ≤ 281474976710656 by omega),Xi];try ((refine Xy 9 rfl fun q' cp' jj' hq' hc' hd'=>?_);(dsimp only at hq');(have k7:¬ q' = b7:=(by rintro rfl;simp [upd,pn,zS pn] at hq'));(refine Xb (fun H2=>QM1 b7 (zrP j7 .any) ⟨y.k + 1,((y.s.1.set v.toNat (nth x.s.2 x.k),y.s.2 ++ [v]):PQ),q',cp',jj',H2⟩) ⟨by simp [upd,k7,zS k7,pn,zS pn],by simp [upd,k7,zS k7,pn,zS pn],k7,by simpa using hc',by simpa using hd'⟩ fun H2 hH2=>?_))
 | refine Qc (id:=31) Xf [] (by kernel_rfl) ?_;simp [-zg,-zd,↓Qb,↓Qa,go_sem,wrapS (k:=y.k) (by omega)]
 | refine Qc (id:=16) Xf [] (by kernel_rfl) ?_;simp [-zg,-zd,↓Qb,↓Qa,go_sem,wrapS (k:=x.k) (by omega)]
 | refine Qc (id:=32) Xf [] (by kernel_rfl) ?_;simp [-zg,-zd,↓Qb,↓Qa,go_sem]
 | refine Qd (c:=.tmp 23) ?_;simp [-zg,-zd,↓Qb,↓Qa,go_sem];try first | (refine ⟨?_,?_⟩ <;> refine zA ?_) | (refine ⟨fun c23=>?_,fun c23=>?_⟩ <;> (try simp [B_iff,B_not] at c23))
 | refine Qd (c:=.tmp 32) ?_;simp [-zg,-zd,↓Qb,↓Qa,go_sem];try first | (refine ⟨?_,?_⟩ <;> refine zA ?_) | (refine ⟨fun c32=>?_,fun c32=>?_⟩ <;> (try simp [B_iff,B_not] at c32))
 | refine Qd (c:=.tmp 46) ?_;simp [-zg,-zd,↓Qb,↓Qa,go_sem];try first | (refine ⟨?_,?_⟩ <;> refine zA ?_) | (refine ⟨fun c46=>?_,fun c46=>?_⟩ <;> (try simp [B_iff,B_not] at c46))
 | refine Qd (c:=.tmp 55) ?_;simp [-zg,-zd,↓Qb,↓Qa,go_sem];try first | (refine ⟨?_,?_⟩ <;> refine zA ?_) | (refine ⟨fun c55=>?_,fun c55=>?_⟩ <;> (try simp [B_iff,B_not] at c55))
 | refine Qd (c:=.tmp 57) ?_;simp [-zg,-zd,↓Qb,↓Qa,go_sem];try first | (refine ⟨?_,?_⟩ <;> refine zA ?_) | (refine ⟨fun c57=>?_,fun c57=>?_⟩ <;> (try simp [B_iff,B_not] at c57))
 | refine Qd (c:=.tmp 79) ?_;simp [-zg,-zd,↓Qb,↓Qa,go_sem];try first | (refine ⟨?_,?_⟩ <;> refine zA ?_) | (refine ⟨fun c79=>?_,fun c79=>?_⟩ <;> (try simp [B_iff,B_not] at c79))
 | refine Qd (c:=.tmp 86) ?_;simp [-zg,-zd,↓Qb,↓Qa,go_sem];try first | (refine ⟨?_,?_⟩ <;> refine zA ?_) | (refine ⟨fun c86=>?_,fun c86=>?_⟩ <;> (try simp [B_iff,B_not] at c86))
 | (refine Qf (id:=0) (Qv (ι:=Nat) (fun k:Nat=>⟨(upd (upd (upd (upd (upd (upd (fun _=>.any) 0 (li cL nx)) 1 (li cI ss)) 2 (.fn 164 [.pd [.int .i64 t]])) 7 (.sl b7 1 0 nx.length c7)) 21 (.int .i64 nx.length)) 22 (.int .i64 k)),upd (fun _=>none) b7 (some (cat cI (fl nx.length k) ++ zrP j7 .any))⟩) (fun k=>k ≤ nx.length) (fun k=>nx.length - k) (0) ?_ ?_ ?_);exact Nat.zero_le _;((repeat' (first | exact Qg (by assumption) | exact Qi | refine Qj ?_ ?_ | refine Qh ?_)) <;> simp [-zg,-zd,↓Qb,↓Qa,go_sem,fl_zero]);rintro k hk)
 | (refine ⟨k + 1,by omega,by first | omega | (simp;done) | (simp;omega),?_⟩;((repeat' (first | exact Qg (by assumption) | exact Qi | refine Qj ?_ ?_ | refine Qh ?_)) <;> simp [-zg,-zd,↓Qb,↓Qa,go_sem,fl_set c23]))
 | (refine Qf (id:=2) (Qv (ι:=Nat) (fun k:Nat=>⟨(upd (upd (upd (upd (upd (upd (upd (upd (fun _=>.any) 0 (li cL nx)) 1 (li cI ss)) 2 (.fn 164 [.pd [.int .i64 t]])) 7 (.sl b7 1 0 nx.length c7)) 9 (.fr 1 k (cat cI (ss.take k)))) 29 (li cI ss)) 30 (.int .i64 ss.length)) 31 (.int .i64 k)),upd (fun _=>none) b7 (some (cat cI (roots nx.length (ss.take k)) ++ zrP j7 .any))⟩) (fun k=>k ≤ ss.length) (fun k=>ss.length - k) (0) ?_ ?_ ?_);exact Nat.zero_le _;((repeat' (first | exact Qg (by assumption) | exact Qi | refine Qj ?_ ?_ | refine Qh ?_)) <;> simp [-zg,-zd,↓Qb,↓Qa,go_sem,fl_all,roots,cat]);rintro k hk2)
 | (refine ⟨k + 1,by omega,by first | omega | (simp;done) | (simp;omega),?_⟩;((repeat' (first | exact Qg (by assumption) | exact Qi | refine Qj ?_ ?_ | refine Qh ?_)) <;> simp [-zg,-zd,↓Qb,↓Qa,go_sem,zaec c32,zafr c32]))
 | (refine Qf (id:=4) (Qv (ι:=SQ) (fun x:SQ=>⟨(upd (upd (upd (upd (upd (upd (fun _=>.any) 0 (li cL nx)) 1 (li cI ss)) 2 (.fn 164 [.pd [.int .i64 t]])) 7 (.sl b7 1 0 nx.length c7)) 9 (.sl x.q 1 0 x.s.2.length x.cp)) 12 (.int .i64 x.k)),x.H⟩) (fun x=>x.k ≤ x.s.2.length ∧ x.s = bfs nx x.k (bfs0 nx.length ss) ∧ NoneTill (fun i=>(fun z=>decide (z = t)) (nth (bfsE nx ss).2 i)) x.k ∧ QM1 b7 (zrP j7 .any) x) (fun x=>nx.length - x.k) (⟨0,bfs0 nx.length ss,q,cq,jq,H1⟩) ?_ ?_ ?_);exact ⟨Nat.zero_le _,rfl,.zero _,hH1⟩;((repeat' (first | exact Qg (by assumption) | exact Qi | refine Qj ?_ ?_ | refine Qh ?_)) <;> simp [-zg,-zd,↓Qb,↓Qa,go_sem,bfs0,List.take_length]);rintro x ⟨g1,g2,g4,g3⟩;have hB:=(bfs_ok hx (Bf.start hs) x.k).1;(rw [← g2] at hB);have hle:=hB.le;have m7:=g3.m7;have mq:=g3.mq;have n7:=g3.n7;have r1:=g3.r1;have r2:=g3.r2)
 | (refine ⟨⟨x.k + 1,y.s,y.q,y.cp,y.j,y.H⟩,⟨by dsimp only;omega,by dsimp only;(have qe:y.k = (nth nx (nth x.s.2 x.k).toNat).length:=by omega);rw [qe,List.take_length] at e2;rw [e2,zadw (by rw [← g2];exact c46),← g2],g4.succ (by rw [hw1];simp [c55]),⟨e3.m7,e3.mq,e3.n7,e3.r1,e3.r2⟩⟩,by first | omega | (simp;done) | (simp;omega),?_⟩;((repeat' (first | exact Qg (by assumption) | exact Qi | refine Qj ?_ ?_ | refine Qh ?_)) <;> simp [-zg,-zd,↓Qb,↓Qa,go_sem,bfs0,List.take_length]))
 | (refine Qf (id:=6) (Qv (ι:=Nat × Int × List Int) (fun w:Nat × Int × List Int=>⟨(upd (upd (upd (fun _=>.any) 7 (.sl b7 1 0 nx.length c7)) 13 (.int .i64 w.2.1)) 14 (.fr 1 w.2.2.length (cat cI w.2.2))),x.H⟩) (fun w=>((w.1 = 0 ∧ w.2.1 < 0) ∨ (1 ≤ w.1 ∧ w.1 ≤ x.s.2.length ∧ w.2.1 = nth x.s.2 (w.1 - 1))) ∧ w.2.2 ++ up x.s.1 (nx.length + 1) w.2.1 = up x.s.1 (nx.length + 1) (nth x.s.2 x.k)) (fun w=>w.1) ((x.k + 1,nth x.s.2 x.k,[])) ?_ ?_ ?_);exact ⟨.inr ⟨by dsimp only;omega,by dsimp only;omega,rfl⟩,rfl⟩;((repeat' (first | exact Qg (by assumption) | exact Qi | refine Qj ?_ ?_ | refine Qh ?_)) <;> simp [-zg,-zd,↓Qb,↓Qa,go_sem,cat]);rintro w ⟨f1,f2⟩;have f3:=congrArg List.length f2;(rw [List.length_append] at f3);have f4:=hlu (nx.length + 1);have hlen0:=hB.len)
 | (refine ⟨(m',nth x.s.1 w.2.1.toNat,w.2.2 ++ [w.2.1]),⟨u2,by dsimp only;rw [← f2,u3,List.append_assoc];rfl⟩,by first | omega | (simp;done) | (simp;omega),?_⟩;((repeat' (first | exact Qg (by assumption) | exact Qi | refine Qj ?_ ?_ | refine Qh ?_)) <;> simp [-zg,-zd,↓Qb,↓Qa,go_sem,Zv]))
 | (refine Qf (id:=8) (Qv (ι:=SQ) (fun y:SQ=>⟨(upd (upd (upd (upd (upd (upd (upd (upd (upd (fun _=>.any) 0 (li cL nx)) 1 (li cI ss)) 2 (.fn 164 [.pd [.int .i64 t]])) 7 (.sl b7 1 0 nx.length c7)) 9 (.sl y.q 1 0 y.s.2.length y.cp)) 12 (.int .i64 x.k)) 76 (li cI (nth nx (nth x.s.2 x.k).toNat))) 77 (.int .i64 (nth nx (nth x.s.2 x.k).toNat).length)) 78 (.int .i64 y.k)),y.H⟩) (fun y=>y.k ≤ (nth nx (nth x.s.2 x.k).toNat).length ∧ y.s = meets (nth x.s.2 x.k) ((nth nx (nth x.s.2 x.k).toNat).take y.k) x.s ∧ QM1 b7 (zrP j7 .any) y) (fun y=>(nth nx (nth x.s.2 x.k).toNat).length - y.k) (⟨0,x.s,x.q,x.cp,x.j,x.H⟩) ?_ ?_ ?_);exact ⟨Nat.zero_le _,by simp [meets],⟨g3.m7,g3.mq,g3.n7,g3.r1,g3.r2⟩⟩;((repeat' (first | exact Qg (by assumption) | exact Qi | refine Qj ?_ ?_ | refine Qh ?_)) <;> simp [-zg,-zd,↓Qb,↓Qa,go_sem]);rintro y ⟨e1,e2,e3⟩;(obtain ⟨hC,hL⟩:=zadj hB c46 hxu y.k e1);(rw [← e2] at hC hL);have hl2:=hL.le;have e5:=hL.nth c46;have e6:x.k < y.s.2.length:=(by omega);have hle2:=hC.le;have e7:=hC.len;have p7:=e3.m7;have pq:=e3.mq;have pn:=e3.n7;have t1:=e3.r1;have t2:=e3.r2)
 | (refine ⟨⟨y.k + 1,((y.s.1.set v.toNat (nth x.s.2 x.k),y.s.2 ++ [v]):PQ),q',cp',jj',H2⟩,⟨by dsimp only;omega,by dsimp only;rw [zaaw _ c79,← e2,hv,meet1,if_pos (by assumption)],hH2⟩,by first | omega | (simp;done) | (simp;omega),?_⟩;((repeat' (first | exact Qg (by assumption) | exact Qi | refine Qj ?_ ?_ | refine Qh ?_)) <;> simp [-zg,-zd,↓Qb,↓Qa,go_sem]))
 | (refine Qf ?_)
 | (refine Qo ?_;simp [-zg,-zd,↓Qb,↓Qa,go_sem])
 | (refine Qn ?_;simp [-zg,-zd,↓Qb,↓Qa,go_sem])
 | (refine Qr ?_;simp [-zg,-zd,↓Qb,↓Qa,go_sem,Try.results163])
 | (intro hx;refine zA ?_)
 | (refine ⟨?_,?_⟩ <;> refine zA ?_)
 | (intro hx;constructor <;> intro hs)
 | (constructor <;> intro hs)
 | (refine ⟨?_,fun hs=>?_⟩;refine zA ?_)
 | (refine ⟨fun hs=>?_,?_⟩;rotate_left;refine zA ?_;rotate_left)
 | (refine ⟨⟨y.k + 1,y.s,y.q,y.cp,y.j,y.H⟩,⟨by dsimp only;omega,by dsimp only;rw [zaaw _ c79,← e2,hv,meet1,if_neg (by assumption)],⟨e3.m7,e3.mq,e3.n7,e3.r1,e3.r2⟩⟩,by dsimp only;omega,?_⟩;((repeat' (first | exact Qg (by assumption) | exact Qi | refine Qj ?_ ?_ | refine Qh ?_)) <;> simp [-zg,-zd,go_sem]))))
  all_goals (first
 | (rw [hW,if_neg hne];simp;done)
 | (rw [hW,if_neg hne])
 | (have e:x.s = bfsE nx ss:=(by rw [g2];exact zafg (by rw [← g2];omega) (by omega));exact zagn g4 (by rw [← e];omega))
 | (rw [if_pos];have e:x.s = bfsE nx ss:=(by rw [g2];exact zafg (by rw [← g2];omega) (by omega));exact zagn g4 (by rw [← e];omega))
 | skip)
@[go_sem] def zabd:Con:=.pure fun
  | [.list n_nx c_nx,.list n_ss c_ss,.fn 164 [.pd [.int .i64 t]]]=>((Is cL n_nx c_nx) ∧ (Is cI n_ss c_ss) ∧ (Qz (de cL c_nx)) ∧ (NextS (de cL c_nx)) ∧ (Starts (de cL c_nx).length (de cI c_ss)) ∧ ((de cL c_nx).length ≤ 1048576),if shW (de cL c_nx) (de cI c_ss) (fun z=>decide (z = t)) = [] then .nil else fr 1 cI (shW (de cL c_nx) (de cI c_ss) (fun z=>decide (z = t))))
  | _=>(False,.any)
theorem zaei:ConOk Try.prog 163 zabd:=by
  refine ⟨Qs Try.func163 (by decide) rfl,fun args h=>?_⟩
  revert h
  dsimp only
  split
  · intro h
    obtain ⟨⟨nx,rfl,rfl⟩,⟨ss,rfl,rfl⟩,hx,hl,hs,hn⟩:=h
    try simp only [Qw] at *
    exact ⟨shortestL_pure nx ss _ hx hl hs hn,by simp [go_sem]⟩
  · intro h
    exact h.elim
@[go_sem] def Γw9:FuncId → Con:=ext Γw8 163 zabd
theorem Γw9_ok:∀ g,ConOk Try.prog g (Γw9 g):=Qp Xf zaei


theorem take_catI:∀ (W:List Int) (m:Nat),(cat cI W).take m = cat cI (W.take m)
  | [],m=>by simp [cat_nil]
  | x :: W,0=>by simp [cat_nil]
  | x :: W,m + 1=>by rw [Xk,List.take_succ_cons,Xk,← take_catI W m];rfl
theorem fwG_no {nx:List (List Int)} {acc:List Bool} {x:Int} (h:nth acc x.toNat = false ∨ ¬ Cyc nx x):fwG nx acc x = false:=by
  unfold fwG
  rw [Bool.and_eq_false_iff]
  rcases h with h | h
  · exact .inl h
  · exact .inr (B_no h)
theorem fwG_yes {nx:List (List Int)} {acc:List Bool} {x:Int} (h1:nth acc x.toNat = true) (h2:Cyc nx x):fwG nx acc x = true:=by
  unfold fwG
  rw [h1,B_yes h2];rfl
def fwW (nx:List (List Int)) (acc:List Bool) (ss:List Int):List Int:=shW nx ss (fun z=>decide (z = fwT nx acc ss))
theorem cyc_at {nx:List (List Int)} {q:Int} (h:Nd nx q):nth (cycL nx) q.toNat = Vm.B (Cyc nx q):=by
  have h0:=h.1
  have h1:=h.2
  rw [nth_cycL (by omega),Int.toNat_of_nonneg h0]

theorem fw1_pure (z:Int) (a:List Int) (b:List Bool) (c:List Tr4) (h0:0 ≤ z) (h1:z < b.length):Pure Try.prog 77 [.int .i64 z,.pd [li cI a,li cB b,li cT c]] (.bool (nth b z.toNat)):=by
  refine Pure.of_walk Try.func77 rfl (by simp [Try.f77]) (by simp [-zd,go_sem]) fun B hK=>?_
  have ht:z.toNat < b.length:=(by omega)
  all_goals (repeat' (first
 | refine Qq ?_
 | refine Qc (id:=0) Γw9_ok [] (by kernel_rfl) ?_;simp [-zg,-zd,↓Qb,↓Qa,go_sem]
 | refine Qc (id:=1) Γw9_ok [] (by kernel_rfl) ?_;simp [-zg,-zd,↓Qb,↓Qa,go_sem,h0,h1,ht,Qk ht,zsP ht]
 | (refine Qf ?_)
 | (refine Qo ?_;simp [-zg,-zd,↓Qb,↓Qa,go_sem])
 | (refine Qn ?_;simp [-zg,-zd,↓Qb,↓Qa,go_sem])
 | (refine Qr ?_;simp [-zg,-zd,↓Qb,↓Qa,go_sem,Try.results77])
 | (intro hx;refine zA ?_)
 | (refine ⟨?_,?_⟩ <;> refine zA ?_)
 | (intro hx;constructor <;> intro hs)
 | (constructor <;> intro hs)
 | (refine ⟨?_,fun hs=>?_⟩;refine zA ?_)
 | (refine ⟨fun hs=>?_,?_⟩;rotate_left;refine zA ?_;rotate_left)))
@[go_sem] def fw1_pureC:Con:=.pure fun
  | [.int .i64 z,.pd [.list n_a c_a,.list n_b c_b,.list n_c c_c]]=>((Is cI n_a c_a) ∧ (Is cB n_b c_b) ∧ (Is cT n_c c_c) ∧ (0 ≤ z) ∧ (z < (de cB c_b).length),.bool (nth (de cB c_b) z.toNat))
  | _=>(False,.any)
theorem fw1_pureC_ok:ConOk Try.prog 77 fw1_pureC:=by
  refine ⟨Qs Try.func77 (by decide) rfl,fun args h=>?_⟩
  revert h
  dsimp only
  split
  · intro h
    obtain ⟨⟨a,rfl,rfl⟩,⟨b,rfl,rfl⟩,⟨c,rfl,rfl⟩,h0,h1⟩:=h
    try simp only [Qw] at *
    exact ⟨fw1_pure _ a b c h0 h1,by simp [go_sem]⟩
  · intro h
    exact h.elim
@[go_sem] def Γw10:FuncId → Con:=ext Γw9 77 fw1_pureC
theorem Jr:∀ g,ConOk Try.prog g (Γw10 g):=Qp Γw9_ok fw1_pureC_ok

set_option maxHeartbeats 4000000 in

theorem lasso_pure (nx:List (List Int)) (ss:List Int) (a:List Int) (b:List Bool) (c:List Tr4) (hx:Qz nx) (hs:NextS nx) (hS:Starts nx.length ss) (hn:nx.length ≤ 1048576) (hb:b.length = nx.length):Pure Try.prog 75 [li cL nx,li cI ss,.fn 77 [.pd [li cI a,li cB b,li cT c]]] (.tup [if fwI nx b ss < 0 then .nil else fr 1 cI ((fwW nx b ss).take ((fwW nx b ss).length - 1)),if fwI nx b ss < 0 then .nil else fr 1 cI (arL nx (fwT nx b ss)),.bool (decide (0 ≤ fwI nx b ss))]):=by
  refine Pure.of_walk Try.func75 rfl (by simp [Try.f75]) (by simp [-zd,go_sem]) fun B hK=>?_
  have hB:=Zi hx hS;have hat:=fun k hk hn he=>fwI_at (nx:=nx) (acc:=b) (ss:=ss) (k:=k) hk hn he;have hnone:=fun k hk hn=>fwI_none (nx:=nx) (acc:=b) (ss:=ss) (k:=k) hk hn;have hway:=fun m hm w hw=>to_way hx hS (m:=m) hm (w:=w) hw;have hrg:=hB.rng;have hQl:=hB.le;obtain ⟨Q,hQ⟩:∃ Q,(bfsE nx ss).2 = Q:=⟨_,rfl⟩;simp only [hQ] at hat hnone hway hrg hQl;have hcl:=cycL_len nx
  all_goals (repeat' (first
 | refine Qq ?_
 | refine Qc (id:=0) Jr [] (by kernel_rfl) ?_;simp [-zg,-zd,↓Qb,↓Qa,go_sem]
 | refine Qc (id:=1) Jr [] (by kernel_rfl) ?_;simp [-zg,-zd,↓Qb,↓Qa,go_sem,hx,hs,hn];try ((refine Xa hK 9 ?_);(simp [go_sem]))
 | refine Qc (id:=2) Jr [] (by kernel_rfl) ?_;simp [-zg,-zd,↓Qb,↓Qa,go_sem,hx,hs,hS,hn,hQ];try ((refine Xa hK 17 ?_);(simp [go_sem]))
 | refine Qc (id:=3) Jr [] (by kernel_rfl) ?_;simp [-zg,-zd,↓Qb,↓Qa,go_sem]
 | refine Qc (id:=4) Jr [] (by kernel_rfl) ?_;simp [-zg,-zd,↓Qb,↓Qa,go_sem,c20,Qk c20,zsP c20];try ((refine Xa hK 11 ?_);(simp [go_sem]);(obtain ⟨q,hq⟩:∃ q,nth Q k = q:=⟨_,rfl⟩);(rw [hq]);(have hqr:=hrg k c20);(rw [hq] at hqr);(obtain ⟨q0,q1⟩:=hqr);(have q2:q.toNat < nx.length:=(by omega));(have hcq:=cyc_at (nx:=nx) (q:=q) ⟨q0,q1⟩);(have q3:¬ cycL nx = []:=(by intro e;rw [e] at hcl;simp at hcl;omega)))
 | refine Qc (id:=5) Jr [26] (by kernel_rfl) ?_;simp [-zg,-zd,↓Qb,↓Qa,go_sem,q0,q1,q2,hb,hcl,hcq,q3,(show 0 < nx.length - q.toNat by omega)];try (refine ⟨fun s5a=>?_,fun s5a=>?_⟩ <;> (try simp [B_iff,B_not] at s5a) <;> try (refine ⟨fun s5b=>?_,fun s5b=>?_⟩ <;> (try simp [B_iff,B_not] at s5b)))
 | ((obtain ⟨e1,e2⟩:=hat k c20 hg (by rw [hq];exact fwG_yes (by first | assumption | (simp_all;done)) (by first | assumption | (simp_all;done))));(rw [hq] at e2);(have hcy:Cyc nx q:=(by first | assumption | (simp_all;done)));(have har:=(arL_cyc hx ⟨q0,q1⟩).2 hcy);(obtain ⟨W,hW⟩:∃ W,shW nx ss (fun z=>decide (z = q)) = W:=⟨_,rfl⟩);(have hwy:=hway k c20 W (by rw [hq];exact hW));(obtain ⟨y1,y2,y3,y4,y5⟩:=hwy);(have hWn:¬ W = []:=(by rintro rfl;simp at y1));(simp only [fwW,e1,e2,hW,if_neg (show ¬ ((k:Int) < 0) by omega)]));refine Qc (id:=6) Jr [] (by kernel_rfl) ?_;simp [-zg,-zd,↓Qb,↓Qa,go_sem,hx,hs,hS,hn,hW,hWn];try ((refine Xy 12 rfl fun wb wc wj qw hwc hwj=>?_);(clear qw))
 | refine Xp (id:=7) Jr mixed [] [12] (by kernel_rfl) (by kernel_rfl) (by simp [-zg,-zd,↓Qb,↓Qa,go_sem,hx,hs,hn,q0,q1,har,Xj (x:=(W.length:Int) - 1) (by omega) (by omega),(show (0:Int) ≤ (W.length:Int) - 1 by omega),(show (1:Int) ≤ (W.length:Int) by omega),(show ((W.length:Int) - 1).toNat = W.length - 1 by omega),(show W.length - 1 ≤ wc by omega),(show (W.length:Int) - 1 ≤ (W.length:Int) by omega),(show W.length - 1 ≤ W.length by omega),(show (W.length:Int) - 1 ≤ (wc:Int) by omega)]) ?_;simp [-zg,-zd,↓Qb,↓Qa,go_sem,hx,hs,hn,q0,q1,har,Xj (x:=(W.length:Int) - 1) (by omega) (by omega),(show (0:Int) ≤ (W.length:Int) - 1 by omega),(show (1:Int) ≤ (W.length:Int) by omega),(show ((W.length:Int) - 1).toNat = W.length - 1 by omega),(show W.length - 1 ≤ wc by omega),(show (W.length:Int) - 1 ≤ (W.length:Int) by omega),(show W.length - 1 ≤ W.length by omega),(show (W.length:Int) - 1 ≤ (wc:Int) by omega)];try ((refine Jl 6 (b:=wb) (all:=cat cI W ++ zrP wj D.any) rfl (by simp [upd]) (by omega) (by simp [Qu];omega) (by simp [Qu];omega) ?_);(rw [Nat.mul_one,List.take_append_of_le_length (by rw [Qu];omega),take_catI]))
 | refine Qc (id:=8) Jr [] (by kernel_rfl) ?_;simp [-zg,-zd,↓Qb,↓Qa,go_sem,wrapS (k:=k) (by omega)]
 | ((have e1:=hnone k (by omega) hg);(simp only [if_pos e1,show decide (0 ≤ fwI nx b ss) = false from by simpa using e1]));refine Qc (id:=9) Jr [] (by kernel_rfl) ?_;simp [-zg,-zd,↓Qb,↓Qa,go_sem]
 | refine Qd (c:=.tmp 20) ?_;simp [-zg,-zd,↓Qb,↓Qa,go_sem];try first | (refine ⟨?_,?_⟩ <;> refine zA ?_) | (refine ⟨fun c20=>?_,fun c20=>?_⟩ <;> (try simp [B_iff,B_not] at c20))
 | refine Qd (c:=.tmp 31) ?_;simp [-zg,-zd,↓Qb,↓Qa,go_sem];try first | (refine ⟨?_,?_⟩ <;> refine zA ?_) | (refine ⟨fun c31=>?_,fun c31=>?_⟩ <;> (try simp [B_iff,B_not] at c31))
 | (refine Qf (id:=0) (Qv (ι:=Nat) (fun k:Nat=>⟨(upd (upd (upd (upd (upd (upd (upd (fun _=>.any) 0 (li cL nx)) 1 (li cI ss)) 2 (.fn 77 [.pd [li cI a,li cB b,li cT c]])) 9 (li cB (cycL nx))) 17 (li cI Q)) 18 (.int .i64 Q.length)) 19 (.int .i64 k)),fun _=>none⟩) (fun k=>k ≤ Q.length ∧ NoneTill (fun i=>fwG nx b (nth Q i)) k) (fun k=>Q.length - k) (0) ?_ ?_ ?_);exact ⟨Nat.zero_le _,.zero _⟩;((repeat' (first | exact Qg (by assumption) | exact Qi | refine Qj ?_ ?_ | refine Qh ?_)) <;> simp [-zg,-zd,↓Qb,↓Qa,go_sem]);rintro k ⟨hk,hg⟩)
 | (refine ⟨k + 1,⟨by omega,hg.succ (fwG_no (by first | (left;assumption) | (right;assumption) | (left;simp_all;done) | (right;simp_all;done)))⟩,by first | omega | (simp;done) | (simp;omega),?_⟩;((repeat' (first | exact Qg (by assumption) | exact Qi | refine Qj ?_ ?_ | refine Qh ?_)) <;> simp [-zg,-zd,↓Qb,↓Qa,go_sem]))
 | (refine Qf ?_)
 | (refine Qo ?_;simp [-zg,-zd,↓Qb,↓Qa,go_sem])
 | (refine Qn ?_;simp [-zg,-zd,↓Qb,↓Qa,go_sem])
 | (refine Qr ?_;simp [-zg,-zd,↓Qb,↓Qa,go_sem,Try.results75])
 | (intro hx;refine zA ?_)
 | (refine ⟨?_,?_⟩ <;> refine zA ?_)
 | (intro hx;constructor <;> intro hs)
 | (constructor <;> intro hs)
 | (refine ⟨?_,fun hs=>?_⟩;refine zA ?_)
 | (refine ⟨fun hs=>?_,?_⟩;rotate_left;refine zA ?_;rotate_left)))
  all_goals (first
 | (simp [fr];done)
 | (simp [fr];omega)
 | skip)
@[go_sem] def zaer:Con:=.pure fun
  | [.list n_nx c_nx,.list n_ss c_ss,.fn 77 [.pd [.list n_a c_a,.list n_b c_b,.list n_c c_c]]]=>((Is cL n_nx c_nx) ∧ (Is cI n_ss c_ss) ∧ (Is cI n_a c_a) ∧ (Is cB n_b c_b) ∧ (Is cT n_c c_c) ∧ (Qz (de cL c_nx)) ∧ (NextS (de cL c_nx)) ∧ (Starts (de cL c_nx).length (de cI c_ss)) ∧ ((de cL c_nx).length ≤ 1048576) ∧ ((de cB c_b).length = (de cL c_nx).length),.tup [if fwI (de cL c_nx) (de cB c_b) (de cI c_ss) < 0 then .nil else fr 1 cI ((fwW (de cL c_nx) (de cB c_b) (de cI c_ss)).take ((fwW (de cL c_nx) (de cB c_b) (de cI c_ss)).length - 1)),if fwI (de cL c_nx) (de cB c_b) (de cI c_ss) < 0 then .nil else fr 1 cI (arL (de cL c_nx) (fwT (de cL c_nx) (de cB c_b) (de cI c_ss))),.bool (decide (0 ≤ fwI (de cL c_nx) (de cB c_b) (de cI c_ss)))])
  | _=>(False,.any)
theorem lasso_pureC_ok:ConOk Try.prog 75 zaer:=by
  refine ⟨Qs Try.func75 (by decide) rfl,fun args h=>?_⟩
  revert h
  dsimp only
  split
  · intro h
    obtain ⟨⟨nx,rfl,rfl⟩,⟨ss,rfl,rfl⟩,⟨a,rfl,rfl⟩,⟨b,rfl,rfl⟩,⟨c,rfl,rfl⟩,hx,hs,hS,hn,hb⟩:=h
    try simp only [Qw] at *
    exact ⟨lasso_pure nx ss a b c hx hs hS hn hb,by simp [go_sem]⟩
  · intro h
    exact h.elim
@[go_sem] def Γw11:FuncId → Con:=ext Γw10 75 zaer
theorem Γw11_ok:∀ g,ConOk Try.prog g (Γw11 g):=Qp Jr lasso_pureC_ok

theorem valEdge_pure (u1:Int) (u2:Int) (u3:Int) (u4:Int) (p:List Int) (i:Int) (h0:1 ≤ i) (h1:i < p.length) (h2:p.length ≤ 1048577):Pure Try.prog 167 [.st [.int .i64 u1,.int .i64 u2,.int .i64 u3,.int .i64 u4],.pd [li cI p],.pd [.int .i64 i]] (.bool (isE (nth p (i.toNat - 1)) (nth p i.toNat) (u1,u2,u3,u4))):=by
  refine Pure.of_walk Try.func167 rfl (by simp [Try.f167]) (by simp [-zd,go_sem]) fun B hK=>?_
  have i0:0 ≤ i:=(by omega);have it:i.toNat < p.length:=(by omega);obtain ⟨j,hj⟩:∃ j,i - 1 = j:=⟨_,rfl⟩;have j0:0 ≤ j:=(by omega);have j1:j < p.length:=(by omega);have jt:j.toNat < p.length:=(by omega);have hjt:i.toNat - 1 = j.toNat:=(by omega);have hw:IntKind.i64.wrap (i - 1) = j:=(by rw [Xj (by omega) (by omega)];exact hj);have hw2:IntKind.i64.wrap j = j:=Xj (by omega) (by omega)
  all_goals (repeat' (first
 | refine Qq ?_
 | refine Qc (id:=0) Γw11_ok [] (by kernel_rfl) ?_;simp [-zg,-zd,↓Qb,↓Qa,go_sem,isE,hj,hjt];try (refine Xa hK 3 ?_;simp [go_sem])
 | refine Xp (id:=1) Γw11_ok mixed [13] [] (by kernel_rfl) (by kernel_rfl) (by simp [-zg,-zd,↓Qb,↓Qa,go_sem,i0,h1,it,Qk it,zsP it,hj,hw,hw2,j0,j1,jt,Qk jt,zsP jt,isE,hj,hjt]) ?_;simp [-zg,-zd,↓Qb,↓Qa,go_sem,i0,h1,it,Qk it,zsP it,hj,hw,hw2,j0,j1,jt,Qk jt,zsP jt,isE,hj,hjt];try (refine ⟨fun s1a=>?_,fun s1a=>?_⟩ <;> (try simp [B_iff,B_not] at s1a) <;> try (refine ⟨fun s1b=>?_,fun s1b=>?_⟩ <;> (try simp [B_iff,B_not] at s1b)))
 | (refine Qf ?_)
 | (refine Qo ?_;simp [-zg,-zd,↓Qb,↓Qa,go_sem])
 | (refine Qn ?_;simp [-zg,-zd,↓Qb,↓Qa,go_sem])
 | (refine Qr ?_;simp [-zg,-zd,↓Qb,↓Qa,go_sem,Try.results167,isE,hj,hjt])
 | (intro hx;refine zA ?_)
 | (refine ⟨?_,?_⟩ <;> refine zA ?_)
 | (intro hx;constructor <;> intro hs)
 | (constructor <;> intro hs)
 | (refine ⟨?_,fun hs=>?_⟩;refine zA ?_)
 | (refine ⟨fun hs=>?_,?_⟩;rotate_left;refine zA ?_;rotate_left)))
  all_goals (first
 | (intro _;exact s1a)
 | (intro h;exact absurd h s1a)
 | skip)
@[go_sem] def zabu:Con:=.pure fun
  | [.st [.int .i64 u1,.int .i64 u2,.int .i64 u3,.int .i64 u4],.pd [.list n_p c_p],.pd [.int .i64 i]]=>((Is cI n_p c_p) ∧ (1 ≤ i) ∧ (i < (de cI c_p).length) ∧ ((de cI c_p).length ≤ 1048577),.bool (isE (nth (de cI c_p) (i.toNat - 1)) (nth (de cI c_p) i.toNat) (u1,u2,u3,u4)))
  | _=>(False,.any)
theorem zage:ConOk Try.prog 167 zabu:=by
  refine ⟨Qs Try.func167 (by decide) rfl,fun args h=>?_⟩
  revert h
  dsimp only
  split
  · intro h
    obtain ⟨⟨p,rfl,rfl⟩,h0,h1,h2⟩:=h
    try simp only [Qw] at *
    exact ⟨valEdge_pure _ _ _ _ p _ h0 h1 h2,by simp [go_sem]⟩
  · intro h
    exact h.elim
@[go_sem] def Γw12:FuncId → Con:=ext Γw11 167 zabu
theorem Vh:∀ g,ConOk Try.prog g (Γw12 g):=Qp Γw11_ok zage

theorem indexVal_pure (xs:List Tr4) (p:List Int) (ix:Int) (h0:1 ≤ ix) (h1:ix < p.length) (h2:p.length ≤ 1048577):Pure Try.prog 166 [li cT xs,.fn 167 [.pd [li cI p],.pd [.int .i64 ix]]] (.int .i64 (findI (fun e=>isE (nth p (ix.toNat - 1)) (nth p ix.toNat) e) xs)):=by
  refine Pure.of_walk Try.func166 rfl (by simp [Try.f166]) (by simp [-zd,go_sem]) fun B hK=>?_
  (repeat' (first
 | refine Qq ?_
 | (refine Jj 0 rfl fun hm=>?_);refine Qc (id:=0) Vh [] (by kernel_rfl) ?_;simp [-zg,-zd,↓Qb,↓Qa,go_sem]
 | refine Qc (id:=1) Vh [] (by kernel_rfl) ?_;simp [-zg,-zd,↓Qb,↓Qa,go_sem]
 | refine Qc (id:=2) Vh [] (by kernel_rfl) ?_;simp [-zg,-zd,↓Qb,↓Qa,go_sem]
 | refine Qc (id:=3) Vh [] (by kernel_rfl) ?_;simp [-zg,-zd,↓Qb,↓Qa,go_sem]
 | refine Qc (id:=4) Vh [] (by kernel_rfl) ?_;simp [-zg,-zd,↓Qb,↓Qa,go_sem,c9,Qk c9,zsP c9,h0,h1,h2]
 | refine Qc (id:=5) Vh [] (by kernel_rfl) ?_;simp [-zg,-zd,↓Qb,↓Qa,go_sem]
 | refine Qc (id:=6) Vh [] (by kernel_rfl) ?_;simp [-zg,-zd,↓Qb,↓Qa,go_sem,wrapS (k:=k) (by omega)]
 | refine Qc (id:=7) Vh [] (by kernel_rfl) ?_;simp [-zg,-zd,↓Qb,↓Qa,go_sem]
 | refine Qd (c:=.tmp 9) ?_;simp [-zg,-zd,↓Qb,↓Qa,go_sem];try first | (refine ⟨?_,?_⟩ <;> refine zA ?_) | (refine ⟨fun c9=>?_,fun c9=>?_⟩ <;> (try simp [B_iff,B_not] at c9))
 | refine Qd (c:=.tmp 16) ?_;simp [-zg,-zd,↓Qb,↓Qa,go_sem];try first | (refine ⟨?_,?_⟩ <;> refine zA ?_) | (refine ⟨fun c16=>?_,fun c16=>?_⟩ <;> (try simp [B_iff,B_not] at c16))
 | (refine Qf (id:=0) (Qv (ι:=Nat) (fun k:Nat=>⟨(upd (upd (upd (upd (upd (fun _=>.any) 0 (li cT xs)) 1 (.fn 167 [.pd [li cI p],.pd [.int .i64 ix]])) 6 (li cT xs)) 7 (.int .i64 xs.length)) 8 (.int .i64 k)),fun _=>none⟩) (fun k=>k ≤ xs.length ∧ NoneTill (fun i=>(fun e=>isE (nth p (ix.toNat - 1)) (nth p ix.toNat) e) (nth xs i)) k) (fun k=>xs.length - k) (0) ?_ ?_ ?_);exact ⟨Nat.zero_le _,.zero _⟩;((repeat' (first | exact Qg (by assumption) | exact Qi | refine Qj ?_ ?_ | refine Qh ?_)) <;> simp [-zg,-zd,↓Qb,↓Qa,go_sem]);rintro k ⟨hk,ht⟩)
 | (refine ⟨k + 1,⟨by omega,ht.succ (by simp_all)⟩,by first | omega | (simp;done) | (simp;omega),?_⟩;((repeat' (first | exact Qg (by assumption) | exact Qi | refine Qj ?_ ?_ | refine Qh ?_)) <;> simp [-zg,-zd,↓Qb,↓Qa,go_sem]))
 | (refine Qf ?_)
 | (refine Qo ?_;simp [-zg,-zd,↓Qb,↓Qa,go_sem])
 | (refine Qn ?_;simp [-zg,-zd,↓Qb,↓Qa,go_sem])
 | (refine Qr ?_;simp [-zg,-zd,↓Qb,↓Qa,go_sem,Try.results166])
 | (intro hx;refine zA ?_)
 | (refine ⟨?_,?_⟩ <;> refine zA ?_)
 | (intro hx;constructor <;> intro hs)
 | (constructor <;> intro hs)
 | (refine ⟨?_,fun hs=>?_⟩;refine zA ?_)
 | (refine ⟨fun hs=>?_,?_⟩;rotate_left;refine zA ?_;rotate_left)))
  all_goals (first
 | (rw [zadr ht c9 (by simp_all)])
 | (rw [zacc ht (by omega)])
 | skip)
@[go_sem] def zabn:Con:=.pure fun
  | [.list n_xs c_xs,.fn 167 [.pd [.list n_p c_p],.pd [.int .i64 ix]]]=>((Is cT n_xs c_xs) ∧ (Is cI n_p c_p) ∧ (1 ≤ ix) ∧ (ix < (de cI c_p).length) ∧ ((de cI c_p).length ≤ 1048577),.int .i64 (findI (fun e=>isE (nth (de cI c_p) (ix.toNat - 1)) (nth (de cI c_p) ix.toNat) e) (de cT c_xs)))
  | _=>(False,.any)
theorem zafm:ConOk Try.prog 166 zabn:=by
  refine ⟨Qs Try.func166 (by decide) rfl,fun args h=>?_⟩
  revert h
  dsimp only
  split
  · intro h
    obtain ⟨⟨xs,rfl,rfl⟩,⟨p,rfl,rfl⟩,h0,h1,h2⟩:=h
    try simp only [Qw] at *
    exact ⟨indexVal_pure xs p _ h0 h1 h2,by simp [go_sem]⟩
  · intro h
    exact h.elim
@[go_sem] def Γw13:FuncId → Con:=ext Γw12 166 zabn
theorem Jq:∀ g,ConOk Try.prog g (Γw13 g):=Qp Vh zafm

set_option maxHeartbeats 4000000 in

theorem values_pure (a:List Int) (b:List Bool) (c:List Tr4) (p:List Int) (hr:InRng b.length c) (hc:c.length ≤ 1048576) (hp:p.length ≤ 1048577) (hw:Way (nxE b.length c c.length) p) (h0:Nd (nxE b.length c c.length) (nth p 0)):Pure Try.prog 78 [.st [li cI a,li cB b,li cT c],li cI p] (fr 1 cI (vals c p)):=by
  refine Pure.of_walk Try.func78 rfl (by simp [Try.f78]) (by simp [-zd,go_sem]) fun B hK=>?_
  have hvl:=Zo c p;have hnd:=fun k hk=>way_nd (Zk hr) hw h0 k hk
  all_goals (repeat' (first
 | refine Qq ?_
 | refine Qc (id:=0) Jq [] (by kernel_rfl) ?_;simp [-zg,-zd,↓Qb,↓Qa,go_sem];try ((refine Xa hK 2 ?_);(refine Xa hK 3 ?_);(simp [go_sem]))
 | refine Qc (id:=1) Jq [] (by kernel_rfl) ?_;simp [-zg,-zd,↓Qb,↓Qa,go_sem];try ((refine zady 5 1 rfl ?_))
 | refine Qc (id:=2) Jq [] (by kernel_rfl) ?_;simp [-zg,-zd,↓Qb,↓Qa,go_sem];try ((refine Zb 6 rfl fun v6 q6=>?_);(clear q6);(refine Xb (fun H1=>H1 v6 = some [.int .i64 1]) (by simp [upd]) fun H1 w1=>?_))
 | refine Qc (id:=3) Jq [] (by kernel_rfl) ?_;simp [-zg,-zd,↓Qb,↓Qa,go_sem,hq]
 | ((have hk1:q.1 + 1 < p.length:=(by omega));(have hkv:q.1 < (vals c p).length:=(by omega));(obtain ⟨t1,t2,t3,t4⟩:=firstE_ok hr (hnd q.1 (by omega)) (hw q.1 hk1));(have hnv:=nth_vals (es:=c) hk1);(have hsn:=zafr hkv);(rw [hnv,valE] at hsn);(obtain ⟨m,hm⟩:∃ m,Jd c (nth p q.1) (nth p (q.1 + 1)) = m:=⟨_,rfl⟩);(rw [hm] at t1 t2 hsn);(unfold Jd at hm);(have m1:m < (c.length:Int):=(by omega)));refine Qc (id:=5) Jq [] (by kernel_rfl) ?_;simp [-zg,-zd,↓Qb,↓Qa,go_sem,hq,(show (1:Int) ≤ (q.1:Int) + 1 by omega),(show (q.1:Int) + 1 < (p.length:Int) by omega),hp,(show ((q.1:Int) + 1).toNat = q.1 + 1 by omega),hm]
 | refine Qc (id:=6) Jq [] (by kernel_rfl) ?_;simp [-zg,-zd,↓Qb,↓Qa,go_sem,t1,t2,Qk t2,zsP t2,m1,hsn,(show q.1 ≤ 9223372036854775806 by omega),(show q.1 + 1 ≤ 9223372036854775807 by omega),(show 2 * (q.1 + 1) * 8 ≤ 281474976710656 by omega)]
 | refine Qc (id:=7) Jq [] (by kernel_rfl) ?_;simp [-zg,-zd,↓Qb,↓Qa,go_sem,hq]
 | refine Qc (id:=8) Jq [] (by kernel_rfl) ?_;simp [-zg,-zd,↓Qb,↓Qa,go_sem]
 | ((refine Zb 6 rfl fun v7 q7=>?_);(clear q7);(refine Xb (fun H3=>H3 v7 = some [.int .i64 ((q.1:Int) + 1)]) (by simp [upd]) fun H3 w3=>?_));refine Qc (id:=4) Jq [] (by kernel_rfl) ?_;simp [-zg,-zd,↓Qb,↓Qa,go_sem,w3,Xj (x:=(q.1:Int) + 1 + 1) (by omega) (by omega)]
 | ((obtain ⟨k,v8,H8⟩:=q);(dsimp only at *);(have hkf:k = (vals c p).length:=(by omega));(have htk:(vals c p).take k = vals c p:=List.take_of_length_le (by omega));(rw [htk]);(subst hkf));refine Qc (id:=9) Jq [] (by kernel_rfl) ?_;simp [-zg,-zd,↓Qb,↓Qa,go_sem]
 | refine Qd (c:=.tmp 11) ?_;simp [-zg,-zd,↓Qb,↓Qa,go_sem];try first | (refine ⟨?_,?_⟩ <;> refine zA ?_) | (refine ⟨fun c11=>?_,fun c11=>?_⟩ <;> (try simp [B_iff,B_not] at c11))
 | (refine Qf (id:=0) (Qv (ι:=Nat × Nat × Hp) (fun q:Nat × Nat × Hp=>⟨(upd (upd (upd (upd (fun _=>.any) 2 (.pd [li cI a,li cB b,li cT c])) 3 (.pd [li cI p])) 5 (.fr 1 q.1 (cat cI ((vals c p).take q.1)))) 6 (.ptr q.2.1 0)),q.2.2⟩) (fun q=>q.1 ≤ (vals c p).length ∧ q.2.2 q.2.1 = some [.int .i64 ((q.1:Int) + 1)]) (fun q=>(vals c p).length - q.1) ((0,v6,H1)) ?_ ?_ ?_);exact ⟨Nat.zero_le _,by simpa using w1⟩;((repeat' (first | exact Qg (by assumption) | exact Qi | refine Qj ?_ ?_ | refine Qh ?_)) <;> simp [-zg,-zd,↓Qb,↓Qa,go_sem,cat]);rintro q ⟨hk,hq⟩)
 | (refine ⟨(q.1 + 1,v7,upd H3 v7 (some [.int .i64 ((q.1:Int) + 1 + 1)])),⟨by dsimp only;omega,by simp [upd]⟩,by first | omega | (simp;done) | (simp;omega),?_⟩;((repeat' (first | exact Qg (by assumption) | exact Qi | refine Qj ?_ ?_ | refine Qh ?_)) <;> simp [-zg,-zd,↓Qb,↓Qa,go_sem,cat]))
 | (refine Qf ?_)
 | (refine Qo ?_;simp [-zg,-zd,↓Qb,↓Qa,go_sem])
 | (refine Qn ?_;simp [-zg,-zd,↓Qb,↓Qa,go_sem])
 | (refine Qr ?_;simp [-zg,-zd,↓Qb,↓Qa,go_sem,Try.results78])
 | (intro hx;refine zA ?_)
 | (refine ⟨?_,?_⟩ <;> refine zA ?_)
 | (intro hx;constructor <;> intro hs)
 | (constructor <;> intro hs)
 | (refine ⟨?_,fun hs=>?_⟩;refine zA ?_)
 | (refine ⟨fun hs=>?_,?_⟩;rotate_left;refine zA ?_;rotate_left)))
@[go_sem] def zadb:Con:=.pure fun
  | [.st [.list n_a c_a,.list n_b c_b,.list n_c c_c],.list n_p c_p]=>((Is cI n_a c_a) ∧ (Is cB n_b c_b) ∧ (Is cT n_c c_c) ∧ (Is cI n_p c_p) ∧ (InRng (de cB c_b).length (de cT c_c)) ∧ ((de cT c_c).length ≤ 1048576) ∧ ((de cI c_p).length ≤ 1048577) ∧ (Way (nxE (de cB c_b).length (de cT c_c) (de cT c_c).length) (de cI c_p)) ∧ (Nd (nxE (de cB c_b).length (de cT c_c) (de cT c_c).length) (nth (de cI c_p) 0)),fr 1 cI (vals (de cT c_c) (de cI c_p)))
  | _=>(False,.any)
theorem zaie:ConOk Try.prog 78 zadb:=by
  refine ⟨Qs Try.func78 (by decide) rfl,fun args h=>?_⟩
  revert h
  dsimp only
  split
  · intro h
    obtain ⟨⟨a,rfl,rfl⟩,⟨b,rfl,rfl⟩,⟨c,rfl,rfl⟩,⟨p,rfl,rfl⟩,hr,hc,hp,hw,h0⟩:=h
    try simp only [Qw] at *
    exact ⟨values_pure a b c p hr hc hp hw h0,by simp [go_sem]⟩
  · intro h
    exact h.elim
@[go_sem] def Γw14:FuncId → Con:=ext Γw13 78 zadb
theorem Vr:∀ g,ConOk Try.prog g (Γw14 g):=Qp Jq zaie

def fwOk (a:List Int) (b:List Bool) (c:List Tr4):Bool:=Vm.B (AutOk a b.length c) && decide (0 ≤ fwI (nxE b.length c c.length) b a)
theorem fwOk_yes {a:List Int} {b:List Bool} {c:List Tr4} (h:AutOk a b.length c) (k:0 ≤ fwI (nxE b.length c c.length) b a):fwOk a b c = true:=by
  rw [fwOk,B_yes h];simpa using k
theorem fwOk_no1 {a:List Int} {b:List Bool} {c:List Tr4} (h:Vm.B (AutOk a b.length c) = false):fwOk a b c = false:=by rw [fwOk,h];rfl
theorem fwOk_no2 {a:List Int} {b:List Bool} {c:List Tr4} (k:fwI (nxE b.length c c.length) b a < 0):fwOk a b c = false:=by
  rw [fwOk,Bool.and_eq_false_iff];right;simpa using k
theorem fw_at {a:List Int} {b:List Bool} {c:List Tr4} (hA:AutOk a b.length c) (h:0 ≤ fwI (nxE b.length c c.length) b a) :
    (1 ≤ (fwW (nxE b.length c c.length) b a).length ∧ (fwW (nxE b.length c c.length) b a).length ≤ b.length ∧ Way (nxE b.length c c.length) (fwW (nxE b.length c c.length) b a) ∧ Nd (nxE b.length c c.length) (nth (fwW (nxE b.length c c.length) b a) 0) ∧ nth (fwW (nxE b.length c c.length) b a) ((fwW (nxE b.length c c.length) b a).length - 1) = fwT (nxE b.length c c.length) b a) ∧
    (1 ≤ (arL (nxE b.length c c.length) (fwT (nxE b.length c c.length) b a)).length ∧ (arL (nxE b.length c c.length) (fwT (nxE b.length c c.length) b a)).length ≤ b.length ∧ Way (nxE b.length c c.length) (arL (nxE b.length c c.length) (fwT (nxE b.length c c.length) b a) ++ [fwT (nxE b.length c c.length) b a]) ∧ nth (arL (nxE b.length c c.length) (fwT (nxE b.length c c.length) b a)) 0 = fwT (nxE b.length c c.length) b a ∧ Nd (nxE b.length c c.length) (fwT (nxE b.length c c.length) b a)):=by
  have hr:=hA.rng
  have hx:=Zk hr
  have hn:=Xr b.length c c.length (Nat.le_refl _)
  have hS:Starts (nxE b.length c c.length).length a:=by rw [hn];exact hA.starts (Nat.le_refl _)
  have hB:=Zi hx hS
  have h':=h
  unfold fwI findI at h'
  split at h'
  · rename_i m hm
    rw [List.findIdx?_eq_some_iff_getElem] at hm
    obtain ⟨q1,q2,q3⟩:=hm
    obtain ⟨e1,e2⟩:=fwI_at (acc:=b) q1 (fun j hj=>by
      have:=q3 j hj
      dsimp only
      rw [Qm (by omega)];simpa using this) (by rw [Qm q1];exact q2)
    rw [← Qm q1] at q2
    unfold fwW
    rw [e2]
    simp only [fwG,Bool.and_eq_true,B_iff] at q2
    obtain ⟨w1,w2,w3,w4,w5⟩:=to_way hx hS q1 rfl
    obtain ⟨r1,r2,r3,r4⟩:=arL_way hx (hB.rng m q1) q2.2
    rw [Xd (by omega)] at r4
    exact ⟨⟨w1,by omega,w3,hS.1 _ w4,w5⟩,r1,by omega,r3,r4,hB.rng m q1⟩
  · omega
set_option maxHeartbeats 4000000 in

theorem zajf (a:List Int) (b:List Bool) (c:List Tr4) (hS:Zf c):Pure Try.prog 18 [.st [li cI a,li cB b,li cT c]] (.tup [if fwOk a b c = true then .st [fr 1 cI (fwS c (nxE b.length c c.length) b a),fr 1 cI (fwL c (nxE b.length c c.length) b a)] else .st [.nil,.nil],.bool (fwOk a b c)]):=by
  refine Pure.of_walk Try.func18 rfl (by simp [Try.f18]) (by simp [-zd,go_sem]) fun B hK=>?_
  cases hg:Vm.B (AutOk a b.length c) <;> by_cases hI:fwI (nxE b.length c c.length) b a < 0
  all_goals (repeat' (first
 | refine Qq ?_
 | refine Qc (id:=0) Vr [] (by kernel_rfl) ?_;simp [-zg,-zd,↓Qb,↓Qa,go_sem];try ((refine Xa hK 1 ?_);simp [go_sem])
 | refine Qc (id:=1) Vr [] (by kernel_rfl) ?_;simp [-zg,-zd,↓Qb,↓Qa,go_sem,hg,hS]
 | ((have hf:=fwOk_no1 hg));refine Qc (id:=2) Vr [] (by kernel_rfl) ?_;simp [-zg,-zd,↓Qb,↓Qa,go_sem,hf]
 | ((have hA:AutOk a b.length c:=(by rw [B_iff] at hg;exact hg));(obtain ⟨n1,n2,n3,n4⟩:=hA.sizes);(have hr:=hA.rng);(have hnl:=Xr b.length c c.length (Nat.le_refl _));(have hx:=Zk hr);(have hs:NextS (nxE b.length c c.length):=(fun i hi=>by have:=nxE_row hr c.length (Nat.le_refl _) i;omega));(have hst:Starts b.length a:=hA.starts (Nat.le_refl b.length));(have hfa:=fun h=>fw_at hA h));refine Xp (id:=3) Vr mixed [] [1] (by kernel_rfl) (by kernel_rfl) (by simp [-zg,-zd,↓Qb,↓Qa,go_sem,hr,hx,hs,hst,hI,(show b.length ≤ 1048576 by omega),(show c.length ≤ 1048576 by omega),hnl]) ?_;simp [-zg,-zd,↓Qb,↓Qa,go_sem,hr,hx,hs,hst,hI,(show b.length ≤ 1048576 by omega),(show c.length ≤ 1048576 by omega),hnl];try ((refine Xa hK 4 ?_);(refine Xa hK 5 ?_);(simp [go_sem,hI]))
 | refine Qc (id:=4) Vr [] (by kernel_rfl) ?_;simp [-zg,-zd,↓Qb,↓Qa,go_sem]
 | ((have hf:=fwOk_no2 hI));refine Qc (id:=5) Vr [] (by kernel_rfl) ?_;simp [-zg,-zd,↓Qb,↓Qa,go_sem,hf]
 | ((have hI0:0 ≤ fwI (nxE b.length c c.length) b a:=(by omega));(have hf:=fwOk_yes hA hI0);(obtain ⟨⟨w1,w2,w3,w4,w5⟩,r1,r2,r3,r4,r5⟩:=hfa hI0);(have hSd:fwS c (nxE b.length c c.length) b a = vals c (fwW (nxE b.length c c.length) b a):=if_neg hI);(have hLd:fwL c (nxE b.length c c.length) b a = vals c (arL (nxE b.length c c.length) (fwT (nxE b.length c c.length) b a) ++ [fwT (nxE b.length c c.length) b a]):=if_neg hI);(have hsn:=zafr (xs:=fwW (nxE b.length c c.length) b a) (k:=(fwW (nxE b.length c c.length) b a).length - 1) (by omega));(rw [show (fwW (nxE b.length c c.length) b a).length - 1 + 1 = (fwW (nxE b.length c c.length) b a).length by omega,List.take_length,w5] at hsn);(have hW0l:((fwW (nxE b.length c c.length) b a).take ((fwW (nxE b.length c c.length) b a).length - 1)).length + 1 = (fwW (nxE b.length c c.length) b a).length:=(by rw [List.length_take];omega));(have hsnC:=Zv (arL (nxE b.length c c.length) (fwT (nxE b.length c c.length) b a)) (fwT (nxE b.length c c.length) b a));(have hCl:(arL (nxE b.length c c.length) (fwT (nxE b.length c c.length) b a) ++ [fwT (nxE b.length c c.length) b a]).length = (arL (nxE b.length c c.length) (fwT (nxE b.length c c.length) b a)).length + 1:=(by simp));(have hc0:Nd (nxE b.length c c.length) (nth (arL (nxE b.length c c.length) (fwT (nxE b.length c c.length) b a) ++ [fwT (nxE b.length c c.length) b a]) 0):=(by rw [Xd (by omega),r4];exact r5));(generalize fwW (nxE b.length c c.length) b a = W at *);(generalize fwT (nxE b.length c c.length) b a = q at *);(generalize arL (nxE b.length c c.length) q = A at *);(obtain ⟨W0,hW0⟩:∃ W0,W.take (W.length - 1) = W0:=⟨_,rfl⟩);(rw [hW0] at hsn hW0l);(obtain ⟨C,hC⟩:∃ C,A ++ [q] = C:=⟨_,rfl⟩);(rw [hC] at hsnC hCl hc0 r3 hLd);(have hA0:¬ A = []:=(by rintro rfl;simp at r1));(rw [hW0]));refine Xp (id:=6) Vr mixed [] [1,5] (by kernel_rfl) (by kernel_rfl) (by simp [-zg,-zd,↓Qb,↓Qa,go_sem,hr,hf,hSd,hLd,hW0,(show W.length - 1 = W0.length by omega),hsn,hsnC,hW0l,hCl.symm,r4,hA0,w3,w4,r3,hc0,r1,(show 0 < A.length by omega),(show (0:Int) < (A.length:Int) by omega),(show W0.length ≤ 1048576 by omega),(show A.length ≤ 1048576 by omega),(show c.length ≤ 1048576 by omega),(show W.length ≤ 1048577 by omega),(show C.length ≤ 1048577 by omega),(show W0.length ≤ 9223372036854775806 by omega),(show A.length ≤ 9223372036854775806 by omega),(show W.length ≤ 9223372036854775807 by omega),(show C.length ≤ 9223372036854775807 by omega),(show 2 * W.length * 8 ≤ 281474976710656 by omega),(show 2 * C.length * 8 ≤ 281474976710656 by omega)]) ?_;simp [-zg,-zd,↓Qb,↓Qa,go_sem,hr,hf,hSd,hLd,hW0,(show W.length - 1 = W0.length by omega),hsn,hsnC,hW0l,hCl.symm,r4,hA0,w3,w4,r3,hc0,r1,(show 0 < A.length by omega),(show (0:Int) < (A.length:Int) by omega),(show W0.length ≤ 1048576 by omega),(show A.length ≤ 1048576 by omega),(show c.length ≤ 1048576 by omega),(show W.length ≤ 1048577 by omega),(show C.length ≤ 1048577 by omega),(show W0.length ≤ 9223372036854775806 by omega),(show A.length ≤ 9223372036854775806 by omega),(show W.length ≤ 9223372036854775807 by omega),(show C.length ≤ 9223372036854775807 by omega),(show 2 * W.length * 8 ≤ 281474976710656 by omega),(show 2 * C.length * 8 ≤ 281474976710656 by omega)]
 | refine Qd (c:=.tmp 9) ?_;simp [-zg,-zd,↓Qb,↓Qa,go_sem];try first | (refine ⟨?_,?_⟩ <;> refine zA ?_) | (refine ⟨fun c9=>?_,fun c9=>?_⟩ <;> (try simp [B_iff,B_not] at c9))
 | refine Qd (c:=.tmp 22) ?_;simp [-zg,-zd,↓Qb,↓Qa,go_sem];try first | (refine ⟨?_,?_⟩ <;> refine zA ?_) | (refine ⟨fun c22=>?_,fun c22=>?_⟩ <;> (try simp [B_iff,B_not] at c22))
 | (refine Qf ?_)
 | (refine Qo ?_;simp [-zg,-zd,↓Qb,↓Qa,go_sem])
 | (refine Qn ?_;simp [-zg,-zd,↓Qb,↓Qa,go_sem])
 | (refine Qr ?_;simp [-zg,-zd,↓Qb,↓Qa,go_sem,Try.results18])
 | (intro hx;refine zA ?_)
 | (refine ⟨?_,?_⟩ <;> refine zA ?_)
 | (intro hx;constructor <;> intro hs)
 | (constructor <;> intro hs)
 | (refine ⟨?_,fun hs=>?_⟩;refine zA ?_)
 | (refine ⟨fun hs=>?_,?_⟩;rotate_left;refine zA ?_;rotate_left)))
  all_goals (first
 | (simp [hf];done)
 | (exfalso;omega)
 | skip)
@[go_sem] def zadp:Con:=.pure fun
  | [.st [.list n_a c_a,.list n_b c_b,.list n_c c_c]]=>((Is cI n_a c_a) ∧ (Is cB n_b c_b) ∧ (Is cT n_c c_c) ∧ (Zf (de cT c_c)),.tup [if fwOk (de cI c_a) (de cB c_b) (de cT c_c) = true then .st [fr 1 cI (fwS (de cT c_c) (nxE (de cB c_b).length (de cT c_c) (de cT c_c).length) (de cB c_b) (de cI c_a)),fr 1 cI (fwL (de cT c_c) (nxE (de cB c_b).length (de cT c_c) (de cT c_c).length) (de cB c_b) (de cI c_a))] else .st [.nil,.nil],.bool (fwOk (de cI c_a) (de cB c_b) (de cT c_c))])
  | _=>(False,.any)
theorem zaiq:ConOk Try.prog 18 zadp:=by
  refine ⟨Qs Try.func18 (by decide) rfl,fun args h=>?_⟩
  revert h
  dsimp only
  split
  · intro h
    obtain ⟨⟨a,rfl,rfl⟩,⟨b,rfl,rfl⟩,⟨c,rfl,rfl⟩,hS⟩:=h
    try simp only [Qw] at *
    exact ⟨zajf a b c hS,by simp [go_sem]⟩
  · intro h
    exact h.elim
@[go_sem] def Γw15:FuncId → Con:=ext Γw14 18 zadp
theorem Zy:∀ g,ConOk Try.prog g (Γw15 g):=Qp Vr zaiq

end
end Go.Proofs.Ytkjimmkemnmajaa.Vm

