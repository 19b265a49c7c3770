import Derived.Test.YtnfldmfamnhpcaaA3
import Derived.Test.YtnfldmfamnhpcaaJ10
/-
  impl.cyclic. No conditions.
-/
namespace Go.Proofs.Ytnfldmfamnhpcaa.Vm
open Go
open Nat renaming sub_pos_of_lt → zsP
open List renaming getD_eq_getElem?_getD → zg,drop_one → zd,replicate → zrP
open Ne renaming symm → zS
noncomputable section
set_option linter.unusedVariables false
set_option linter.unusedSimpArgs false
set_option maxRecDepth 200000

def prtB (xs:List Bool) (k:Nat):List Bool:=xs.take k ++ zrP (xs.length - k) false
theorem prtB_len {xs:List Bool} {k:Nat} (h:k ≤ xs.length):(prtB xs k).length = xs.length:=by simp [prtB];omega
theorem prtB_zero (xs:List Bool):prtB xs 0 = zrP xs.length false:=by simp [prtB]
theorem prtB_all (xs:List Bool):prtB xs xs.length = xs:=by simp [prtB]
theorem prtB_set {xs:List Bool} {k:Nat} (h:k < xs.length) {v:Bool} (hv:nth xs k = v):(prtB xs k).set k v = prtB xs (k + 1):=by
  obtain ⟨m,e⟩:∃ m,xs.length - k = m + 1:=⟨xs.length - k - 1,by omega⟩
  have e2:xs.length - (k + 1) = m:=by omega
  rw [prtB,prtB,e,e2,List.replicate_succ,set_mid (by simp;omega),List.take_succ_eq_append_getElem h,← Qy h,hv];simp
set_option maxHeartbeats 2000000 in

theorem cyclic_pure (nx:List (List Int)) (hx:Xp nx) (hs:NextS nx) (hn:nx.length ≤ 1048576):Pure Try.prog 66 [li cL nx] (fr 1 cB (cycL nx)):=by
  refine Pure.of_walk Try.func66 rfl (by simp [Try.f66]) (by simp [-zd,go_sem]) fun B hK=>?_
  obtain ⟨ps,hps⟩:∃ ps,Zc nx = ps:=⟨_,rfl⟩;have hpl:ps.length = nx.length:=(by rw [← hps];exact zami hx);have hpr:=fun (i:Nat) (hi:i < nx.length)=>compsL_rng hx hi;simp only [hps] at hpr;have hcy:=fun (i:Nat) (hi:i < nx.length)=>cyc_iff hx hi;simp only [hps] at hcy;have hcl:=cycL_len nx
  all_goals (repeat' (first
 | refine Qu ?_
 | refine Qc (id:=0) Jc [] (by kernel_rfl) ?_;simp [-zg,-zd,↓Qb,↓Qa,go_sem]
 | refine Qc (id:=1) Jc [] (by kernel_rfl) ?_;simp [-zg,-zd,↓Qb,↓Qa,go_sem,hx,hs,hn,hps,hpl]
 | refine Qc (id:=2) Jc [] (by kernel_rfl) ?_;simp [-zg,-zd,↓Qb,↓Qa,go_sem,make_cI,(by omega:8 * (nx.length:Int) ≤ 281474976710656),(by omega:(nx.length:Int) ≤ 281474976710656),(by omega:(nx.length:Int) ≤ 9223372036854775807)];try ((refine Xb hK 3 ?_);(refine Zk 4 rfl fun b4 c4 j4 _ hc4 hj4=>?_);(simp [go_sem]))
 | refine Qc (id:=3) Jc [] (by kernel_rfl) ?_;simp [-zg,-zd,↓Qb,↓Qa,go_sem,hpl]
 | refine Qc (id:=4) Jc [] (by kernel_rfl) ?_;simp [-zg,-zd,↓Qb,↓Qa,go_sem]
 | ((have hkp:k < ps.length:=(by omega));(obtain ⟨p0,p1⟩:=hpr k (by omega));(have hset:=cnts_succ (ps:=ps) (n:=nx.length) (k:=k) (by omega) p0 p1);(have hcb:=cnts_le (ps:=ps) (n:=nx.length) (k:=k) (p:=(nth ps k).toNat) (by omega)));refine Qc (id:=5) Jc [] (by kernel_rfl) ?_;simp [-zg,-zd,↓Qb,↓Qa,go_sem,hkp,Qj hkp,zsP hkp,hpl,c17,zsP c17]
 | refine Qc (id:=6) Jc [] (by kernel_rfl) ?_;simp [-zg,-zd,↓Qb,↓Qa,go_sem,zaiq,p0,p1,hset,Qw (x:=nth (cnts ps nx.length k) (nth ps k).toNat + 1) (by omega) (by omega),(show (nth ps k).toNat < nx.length by omega),(show (nth ps k).toNat < nx.length + j4 by omega),(show (nth ps k).toNat + 1 ≤ nx.length + j4 by omega)]
 | refine Qc (id:=7) Jc [] (by kernel_rfl) ?_;simp [-zg,-zd,↓Qb,↓Qa,go_sem,wrapS (k:=k) (by omega)]
 | ((obtain rfl:k = nx.length:=by omega));refine Qc (id:=8) Jc [] (by kernel_rfl) ?_;simp [-zg,-zd,↓Qb,↓Qa,go_sem,make_cB,(by omega:(nx.length:Int) ≤ 281474976710656),(by omega:(nx.length:Int) ≤ 9223372036854775807)];try ((refine Zk 7 rfl fun b7 c7 j7 q7 hc7 hj7=>?_);(dsimp only at q7);(have n74:¬ b7 = b4:=(by rintro rfl;simp [upd] at q7));(clear q7);(refine Qq (fun H1=>H1 b4 = some (cat cI (cnts ps nx.length nx.length) ++ zrP j4 .any) ∧ H1 b7 = some (cat cB (prtB (cycL nx) 0) ++ zrP j7 .any)) ⟨by simp [upd,n74,zS n74],by simp [upd,prtB_zero,hcl]⟩ fun H1 ⟨w4,w7⟩=>?_))
 | refine Qc (id:=9) Jc [] (by kernel_rfl) ?_;simp [-zg,-zd,↓Qb,↓Qa,go_sem]
 | refine Qc (id:=10) Jc [] (by kernel_rfl) ?_;simp [-zg,-zd,↓Qb,↓Qa,go_sem]
 | refine Qc (id:=11) Jc [] (by kernel_rfl) ?_;simp [-zg,-zd,↓Qb,↓Qa,go_sem]
 | ((have hkp:q.1 < ps.length:=(by omega));(have hkn:q.1 < nx.length:=(by omega));(obtain ⟨p0,p1⟩:=hpr q.1 hkn);(have hpt:=prtB_len (xs:=cycL nx) (k:=q.1) (by omega));(have hcq:=hcy q.1 hkn);(have hnc:=nth_cycL hkn));refine Qc (id:=12) Jc [45] (by kernel_rfl) ?_;simp [-zg,-zd,↓Qb,↓Qa,go_sem,g2,g3,hkn,Qj hkn,zsP hkn,hkp,Qj hkp,zsP hkp,hpl,hpt,hcl,zaiq,p0,p1,n74,zS n74,(show (nth ps q.1).toNat < nx.length by omega),(show (nth ps q.1).toNat < nx.length + j4 by omega),(show (nth ps q.1).toNat + 1 ≤ nx.length + j4 by omega),(show q.1 < nx.length + j7 by omega),(show q.1 + 1 ≤ nx.length + j7 by omega)];try (refine ⟨fun s12a=>?_,fun s12a=>?_⟩ <;> (try simp [B_iff,B_not] at s12a) <;> try (refine ⟨fun s12b=>?_,fun s12b=>?_⟩ <;> (try simp [B_iff,B_not] at s12b)))
 | ((first | (have hv:nth (cycL nx) q.1 = true:=(by rw [hnc];exact B_yes (hcq.1 (.inl s12a)));have hst:=prtB_set (by omega) hv) | (have hv:nth (cycL nx) q.1 = Vm.B ((q.1:Int) ∈ nth nx q.1):=(by rw [hnc,Bool.eq_iff_iff,B_iff,B_iff,← hcq];exact ⟨fun h=>h.resolve_left (by omega),.inr⟩);have hst:=prtB_set (by omega) hv));(refine Qq (fun H1=>H1 b4 = some (cat cI (cnts ps nx.length nx.length) ++ zrP j4 .any) ∧ H1 b7 = some (cat cB (prtB (cycL nx) (q.1 + 1)) ++ zrP j7 .any)) ⟨by simp [upd,n74,zS n74,g2],by simp [upd,hst]⟩ fun H9 ⟨t4,t7⟩=>?_));refine Qc (id:=13) Jc [] (by kernel_rfl) ?_;simp [-zg,-zd,↓Qb,↓Qa,go_sem,wrapS (k:=q.1) (by omega)]
 | ((obtain ⟨kx,Hx⟩:=q);(dsimp only at *);(obtain rfl:kx = nx.length:=by omega);(have hpa:prtB (cycL nx) nx.length = cycL nx:=(by have:=prtB_all (cycL nx);rwa [hcl] at this));(rw [hpa] at g3);(refine Jz 7 (b:=b7) (all:=cat cB (cycL nx) ++ zrP j7 .any) rfl g3 (by omega) (by simp [Qx,hcl]) (by simp [Qx,hcl];omega) ?_));refine Qc (id:=14) Jc [] (by kernel_rfl) ?_;simp [-zg,-zd,↓Qb,↓Qa,go_sem,hcl,Zg (f:=cB) (cycL nx) (zrP j7 .any) (n:=nx.length) hcl.symm]
 | refine Qd (c:=.tmp 17) ?_;simp [-zg,-zd,↓Qb,↓Qa,go_sem];try first | (refine ⟨?_,?_⟩ <;> refine zA ?_) | (refine ⟨fun c17=>?_,fun c17=>?_⟩ <;> (try simp [B_iff,B_not] at c17))
 | refine Qd (c:=.tmp 33) ?_;simp [-zg,-zd,↓Qb,↓Qa,go_sem];try first | (refine ⟨?_,?_⟩ <;> refine zA ?_) | (refine ⟨fun c33=>?_,fun c33=>?_⟩ <;> (try simp [B_iff,B_not] at c33))
 | (refine Qe (id:=0) (Qz (ι:=Nat) (fun k:Nat=>⟨(upd (upd (upd (upd (upd (upd (fun _=>.any) 0 (li cL nx)) 3 (li cI ps)) 4 (.sl b4 1 0 nx.length c4)) 14 (li cI ps)) 15 (.int .i64 nx.length)) 16 (.int .i64 k)),upd (fun _=>none) b4 (some (cat cI (cnts ps nx.length k) ++ zrP j4 .any))⟩) (fun k=>k ≤ nx.length) (fun k=>nx.length - k) (0) ?_ ?_ ?_);exact Nat.zero_le _;((repeat' (first | exact Qg (by assumption) | exact Qi | refine Qf ?_ ?_ | refine Qh ?_)) <;> simp [-zg,-zd,↓Qb,↓Qa,go_sem,cnts_zero,hpl,li]);rintro k hk)
 | (refine ⟨k + 1,by omega,by first | omega | (simp;done) | (simp;omega),?_⟩;((repeat' (first | exact Qg (by assumption) | exact Qi | refine Qf ?_ ?_ | refine Qh ?_)) <;> simp [-zg,-zd,↓Qb,↓Qa,go_sem,hpl,li]))
 | (refine Qe (id:=2) (Qz (ι:=Nat × Hp) (fun q:Nat × Hp=>⟨(upd (upd (upd (upd (upd (upd (upd (fun _=>.any) 0 (li cL nx)) 3 (li cI ps)) 4 (.sl b4 1 0 nx.length c4)) 7 (.sl b7 1 0 nx.length c7)) 30 (li cL nx)) 31 (.int .i64 nx.length)) 32 (.int .i64 q.1)),q.2⟩) (fun q=>q.1 ≤ nx.length ∧ q.2 b4 = some (cat cI (cnts ps nx.length nx.length) ++ zrP j4 .any) ∧ q.2 b7 = some (cat cB (prtB (cycL nx) q.1) ++ zrP j7 .any)) (fun q=>nx.length - q.1) ((0,H1)) ?_ ?_ ?_);exact ⟨Nat.zero_le _,w4,w7⟩;((repeat' (first | exact Qg (by assumption) | exact Qi | refine Qf ?_ ?_ | refine Qh ?_)) <;> simp [-zg,-zd,↓Qb,↓Qa,go_sem,hpl,li]);rintro q ⟨g1,g2,g3⟩)
 | (refine ⟨(q.1 + 1,H9),⟨by dsimp only;omega,t4,t7⟩,by first | omega | (simp;done) | (simp;omega),?_⟩;((repeat' (first | exact Qg (by assumption) | exact Qi | refine Qf ?_ ?_ | refine Qh ?_)) <;> simp [-zg,-zd,↓Qb,↓Qa,go_sem,hpl,li]))
 | (refine Qe ?_)
 | (refine Qt ?_;simp [-zg,-zd,↓Qb,↓Qa,go_sem])
 | (refine Qs ?_;simp [-zg,-zd,↓Qb,↓Qa,go_sem])
 | (refine Qv ?_;simp [-zg,-zd,↓Qb,↓Qa,go_sem,Try.results66])
 | (intro hx;refine zA ?_)
 | (refine ⟨?_,?_⟩ <;> refine zA ?_)
 | (intro hx;constructor <;> intro hs)
 | (constructor <;> intro hs)
 | (refine ⟨?_,fun hs=>?_⟩;refine zA ?_)
 | (refine ⟨fun hs=>?_,?_⟩;rotate_left;refine zA ?_;rotate_left)))
@[go_sem] def zagg:Con:=.pure fun
  | [.list n_nx c_nx]=>((Is cL n_nx c_nx) ∧ (Xp (de cL c_nx)) ∧ (NextS (de cL c_nx)) ∧ ((de cL c_nx).length ≤ 1048576),fr 1 cB (cycL (de cL c_nx)))
  | _=>(False,.any)
theorem zanj:ConOk Try.prog 66 zagg:=by
  refine ⟨Qp Try.func66 (by decide) rfl,fun args h=>?_⟩
  revert h
  dsimp only
  split
  · intro h
    obtain ⟨⟨nx,rfl,rfl⟩,hx,hs,hn⟩:=h
    try simp only [Qr] at *
    exact ⟨cyclic_pure nx hx hs hn,by simp [go_sem]⟩
  · intro h
    exact h.elim
@[go_sem] def Γn1:FuncId → Con:=ext Γa23 66 zagg
theorem Zp:∀ g,ConOk Try.prog g (Γn1 g):=Qo Jc zanj


structure DQ where
  m:List Bool
  td:List Int
  b:Nat
  cp:Nat
  jl:List D
  H:Hp
structure DQm (b5 j5:Nat) (x:DQ):Prop where
  m5:x.H b5 = some (cat cB x.m ++ zrP j5 .any)
  mb:x.H x.b = some (cat cI x.td ++ x.jl)
  nb:¬ x.b = b5
  r1:x.td.length ≤ x.cp
  r2:x.cp ≤ x.td.length + x.jl.length
theorem last_cut {td:List Int} (h:0 < td.length):cat cI td = cat cI (td.take (td.length - 1)) ++ [D.int .i64 (nth td (td.length - 1))]:=by
  rw [take_snocJ (by omega),Nat.sub_add_cancel h,List.take_length]
theorem mkd_nth {m:List Bool} {x:Int} (h:¬ nth m x.toNat = false):mkd m x:=by unfold mkd;simpa using h
set_option maxHeartbeats 4000000 in

theorem reach_pure (nx:List (List Int)) (ss:List Int) (hx:Xp nx) (hs:NextS nx) (hn:nx.length ≤ 1048576) (hS:∀ x,x ∈ ss → Nd nx x) (hl:ss.length ≤ 1048576):Pure Try.prog 67 [li cL nx,li cI ss] (fr 1 cB (rchL nx ss)):=by
  refine Pure.of_walk Try.func67 rfl (by simp [Try.f67]) (by simp [-zd,go_sem]) fun B hK=>?_
  have hrl:=zahs nx ss
  all_goals (repeat' (first
 | refine Qu ?_
 | refine Qc (id:=0) Zp [] (by kernel_rfl) ?_;simp [-zg,-zd,↓Qb,↓Qa,go_sem]
 | refine Qc (id:=1) Zp [] (by kernel_rfl) ?_;simp [-zg,-zd,↓Qb,↓Qa,go_sem,make_cB,(by omega:(nx.length:Int) ≤ 281474976710656),(by omega:(nx.length:Int) ≤ 9223372036854775807)]
 | refine Qc (id:=2) Zp [] (by kernel_rfl) ?_;simp [-zg,-zd,↓Qb,↓Qa,go_sem,hl];try ((refine Zk 5 rfl fun b5 c5 j5 q5 hc5 hj5=>?_);(refine Zk 6 rfl fun b6 c6 j6 q6 hc6 hj6=>?_);(dsimp only at q6);(have n65:¬ b6 = b5:=(by rintro rfl;simp [upd] at q6));(clear q5 q6);(refine Qq (fun H1=>H1 b5 = some (cat cB (Jn nx.length ss 0) ++ zrP j5 .any) ∧ H1 b6 = some (cat cI ss ++ zrP j6 .any)) ⟨by simp [upd,n65,zS n65,zaoc],by simp [upd,n65,zS n65]⟩ fun H1 ⟨w5,w6⟩=>?_))
 | refine Qc (id:=3) Zp [] (by kernel_rfl) ?_;simp [-zg,-zd,↓Qb,↓Qa,go_sem]
 | refine Qc (id:=4) Zp [] (by kernel_rfl) ?_;simp [-zg,-zd,↓Qb,↓Qa,go_sem]
 | refine Qc (id:=5) Zp [] (by kernel_rfl) ?_;simp [-zg,-zd,↓Qb,↓Qa,go_sem,c20,Qj c20,zsP c20]
 | ((obtain ⟨p0,p1⟩:=hS (nth ss q.1) (Xl c20));(have hml:=zagy nx.length ss q.1);(have hst:=zaod (n:=nx.length) c20));refine Qc (id:=6) Zp [] (by kernel_rfl) ?_;simp [-zg,-zd,↓Qb,↓Qa,go_sem,g2,hml,p0,p1,(show (nth ss q.1).toNat < nx.length by omega),(show (nth ss q.1).toNat < nx.length + j5 by omega),(show (nth ss q.1).toNat + 1 ≤ nx.length + j5 by omega)];try ((refine Qq (fun H1=>H1 b5 = some (cat cB (Jn nx.length ss (q.1 + 1)) ++ zrP j5 .any) ∧ H1 b6 = some (cat cI ss ++ zrP j6 .any)) ⟨by simp [upd,hst],by simp [upd,n65,zS n65,g3]⟩ fun H9 ⟨t5,t6⟩=>?_))
 | refine Qc (id:=7) Zp [] (by kernel_rfl) ?_;simp [-zg,-zd,↓Qb,↓Qa,go_sem,wrapS (k:=q.1) (by omega)]
 | refine Qc (id:=8) Zp [] (by kernel_rfl) ?_;simp [-zg,-zd,↓Qb,↓Qa,go_sem]
 | ((have ht:=c29);(have hbd:=g4.bd);(have hun:=un_le x.2.m);(have hml:=g4.ln);(obtain ⟨m5,mb,nb,r1,r2⟩:=g5);(have vl:x.2.td.length - 1 < x.2.td.length:=(by omega));(have vw:=Qw (x:=(x.2.td.length:Int) - 1) (by omega) (by omega));(have vt:((x.2.td.length:Int) - 1).toNat = x.2.td.length - 1:=(by omega));(have v0:(0:Int) ≤ (x.2.td.length:Int) - 1:=(by omega));(have v1:(1:Int) ≤ (x.2.td.length:Int):=(by omega));(have v2:(x.2.td.length:Int) - 1 < (x.2.td.length:Int):=(by omega));(have v3:x.2.td.length - 1 < x.2.td.length + x.2.jl.length:=(by omega));(have v5:x.2.td.length - 1 + 1 ≤ x.2.td.length + x.2.jl.length:=(by omega));(have v6:x.2.td.length - 1 ≤ x.2.cp:=(by omega));(have v7:(x.2.td.length:Int) - 1 ≤ (x.2.cp:Int):=(by omega));(have v8:x.2.td.length ≤ x.2.cp + 1:=(by omega));(have v9:(x.2.td.length:Int) - 1 ≤ (x.2.td.length:Int):=(by omega)));refine Qc (id:=9) Zp [] (by kernel_rfl) ?_;simp [-zg,-zd,↓Qb,↓Qa,go_sem,mb,vl,vw,vt,v0,v1,v2,v3,v5];try ((have hpop:=g4.pop (by omega));(have hnd:=g4.nd _ (Xl vl));(have hlc:=last_cut (td:=x.2.td) (by omega));(obtain ⟨v,hv⟩:∃ v,nth x.2.td (x.2.td.length - 1) = v:=⟨_,rfl⟩);(rw [hv] at hpop hnd hlc ⊢);(obtain ⟨hvn,hvm⟩:=hnd))
 | refine Qc (id:=10) Zp [] (by kernel_rfl) ?_;simp [-zg,-zd,↓Qb,↓Qa,go_sem,mb,vl,vw,vt,v0,v1,v2,v3,v5,v6,v7,v8,v9];try ((have hvl:v.toNat < nx.length:=(by have:=hvn.1;have:=hvn.2;omega));(have hrl2:=hs v.toNat hvl);(refine Qq (fun H1=>DQm b5 j5 ⟨x.2.m,x.2.td.take (x.2.td.length - 1),x.2.b,x.2.cp,.int .i64 v :: x.2.jl,H1⟩) ⟨m5,by show x.2.H x.2.b = _;rw [mb,hlc];simp,nb,by simp;omega,by simp;omega⟩ fun H3 hM=>?_))
 | refine Qc (id:=11) Zp [] (by kernel_rfl) ?_;simp [-zg,-zd,↓Qb,↓Qa,go_sem,hvn.1,hvn.2,hvl,Qj hvl,zsP hvl]
 | refine Qc (id:=12) Zp [] (by kernel_rfl) ?_;simp [-zg,-zd,↓Qb,↓Qa,go_sem]
 | ((have y5:=f3.m5);(have yb:=f3.mb);(have yn:=f3.nb);(have yr1:=f3.r1);(have yr2:=f3.r2);(have yl:=f2.ln);(have ybd:=f2.bd);(have yun:=un_le y.2.m));refine Qc (id:=13) Zp [] (by kernel_rfl) ?_;simp [-zg,-zd,↓Qb,↓Qa,go_sem,c47,Qj c47,zsP c47];try ((have hun2:=Jg hx hvn (Xl c47));(have hskip:=fun h=>f2.skip c47 h);(have hmark:=fun h=>f2.mark hx hvn f4 c47 h);(obtain ⟨u,hu⟩:∃ u,nth (nth nx v.toNat) y.1 = u:=⟨_,rfl⟩);(rw [hu] at hun2 hskip hmark ⊢);(obtain ⟨u0,u1⟩:=id hun2);(have hul:u.toNat < nx.length:=(by omega)))
 | refine Qc (id:=14) Zp [] (by kernel_rfl) ?_;simp [-zg,-zd,↓Qb,↓Qa,go_sem,y5,yl,u0,u1,hul,(show u.toNat < nx.length + j5 by omega),(show u.toNat + 1 ≤ nx.length + j5 by omega)]
 | refine Qc (id:=15) Zp [] (by kernel_rfl) ?_;simp [-zg,-zd,↓Qb,↓Qa,go_sem,y5,yl,u0,u1,hul,(show u.toNat < nx.length + j5 by omega),(show u.toNat + 1 ≤ nx.length + j5 by omega)]
 | refine Qc (id:=16) Zp [] (by kernel_rfl) ?_;simp [-zg,-zd,↓Qb,↓Qa,go_sem,yb,yn,zS yn,Ja,(show y.2.td.length ≤ y.2.td.length + y.2.jl.length by omega),yr2,(show y.2.td.length + 1 ≤ 9223372036854775807 by omega),(show 2 * (y.2.td.length + 1) * 8 ≤ 281474976710656 by omega),Xy];try ((refine Zk 6 rfl fun q' cp' jj' hq' hc' hd'=>?_);(dsimp only at hq');(have k5:¬ q' = b5:=(by rintro rfl;simp [upd,yn,zS yn] at hq'));(clear hq');(refine Qq (fun H2=>DQm b5 j5 ⟨y.2.m.set u.toNat true,y.2.td ++ [u],q',cp',zrP jj' .any,H2⟩) ⟨by simp [upd,k5,zS k5,yn,zS yn],by simp [upd,k5,zS k5,yn,zS yn],k5,by simpa using hc',by simpa using hd'⟩ fun H2 hH2=>?_);(have hfal:nth y.2.m u.toNat = false:=(by assumption));(have hD2:=hmark hfal);(have hus:=un_set (m:=y.2.m) (k:=u.toNat) (by rw [yl];exact hul) hfal);(have hmv:mkd (y.2.m.set u.toNat true) v:=(mk_set yl hun2 hvn).2 (.inr f4));(have hms:2 * un (y.2.m.set u.toNat true) + (y.2.td ++ [u]).length + 1 ≤ 2 * un x.2.m + x.2.td.length:=(by simp only [List.length_append,List.length_singleton];omega)))
 | refine Qc (id:=17) Zp [] (by kernel_rfl) ?_;simp [-zg,-zd,↓Qb,↓Qa,go_sem,wrapS (k:=y.1) (by omega)]
 | ((obtain ⟨a9,m9,td9,b9,cp9,jl9,H9⟩:=x);(dsimp only at *);(have htd:td9 = []:=(by simpa using c29));(subst htd);(have hfin:=g4.done hx hS);(subst hfin);(have m5:=g5.m5);(refine Jz 5 (b:=b5) (all:=cat cB (rchL nx ss) ++ zrP j5 .any) rfl m5 (by omega) (by simp [Qx,hrl]) (by simp [Qx,hrl];omega) ?_));refine Qc (id:=18) Zp [] (by kernel_rfl) ?_;simp [-zg,-zd,↓Qb,↓Qa,go_sem,hrl,Zg (f:=cB) (rchL nx ss) (zrP j5 .any) (n:=nx.length) hrl.symm]
 | refine Qd (c:=.tmp 20) ?_;simp [-zg,-zd,↓Qb,↓Qa,go_sem];try first | (refine ⟨?_,?_⟩ <;> refine zA ?_) | (refine ⟨fun c20=>?_,fun c20=>?_⟩ <;> (try simp [B_iff,B_not] at c20))
 | refine Qd (c:=.tmp 29) ?_;simp [-zg,-zd,↓Qb,↓Qa,go_sem];try first | (refine ⟨?_,?_⟩ <;> refine zA ?_) | (refine ⟨fun c29=>?_,fun c29=>?_⟩ <;> (try simp [B_iff,B_not] at c29))
 | refine Qd (c:=.tmp 47) ?_;simp [-zg,-zd,↓Qb,↓Qa,go_sem];try first | (refine ⟨?_,?_⟩ <;> refine zA ?_) | (refine ⟨fun c47=>?_,fun c47=>?_⟩ <;> (try simp [B_iff,B_not] at c47))
 | refine Qd (c:=.tmp 54) ?_;simp [-zg,-zd,↓Qb,↓Qa,go_sem];try first | (refine ⟨?_,?_⟩ <;> refine zA ?_) | (refine ⟨fun c54=>?_,fun c54=>?_⟩ <;> (try simp [B_iff,B_not] at c54))
 | (refine Qe (id:=0) (Qz (ι:=Nat × Hp) (fun q:Nat × Hp=>⟨(upd (upd (upd (upd (upd (upd (upd (fun _=>.any) 0 (li cL nx)) 1 (li cI ss)) 5 (.sl b5 1 0 nx.length c5)) 6 (.sl b6 1 0 ss.length c6)) 17 (li cI ss)) 18 (.int .i64 ss.length)) 19 (.int .i64 q.1)),q.2⟩) (fun q=>q.1 ≤ ss.length ∧ q.2 b5 = some (cat cB (Jn nx.length ss q.1) ++ zrP j5 .any) ∧ q.2 b6 = some (cat cI ss ++ zrP j6 .any)) (fun q=>ss.length - q.1) ((0,H1)) ?_ ?_ ?_);exact ⟨Nat.zero_le _,w5,w6⟩;((repeat' (first | exact Qg (by assumption) | exact Qi | refine Qf ?_ ?_ | refine Qh ?_)) <;> simp [-zg,-zd,↓Qb,↓Qa,go_sem]);rintro q ⟨g1,g2,g3⟩)
 | (refine ⟨(q.1 + 1,H9),⟨by dsimp only;omega,t5,t6⟩,by first | omega | (simp;done) | (simp;omega),?_⟩;((repeat' (first | exact Qg (by assumption) | exact Qi | refine Qf ?_ ?_ | refine Qh ?_)) <;> simp [-zg,-zd,↓Qb,↓Qa,go_sem]))
 | (refine Qe (id:=2) (Qz (ι:=Int × DQ) (fun x:Int × DQ=>⟨(upd (upd (upd (upd (fun _=>.any) 0 (li cL nx)) 1 (li cI ss)) 5 (.sl b5 1 0 nx.length c5)) 6 (.sl x.2.b 1 0 x.2.td.length x.2.cp)),x.2.H⟩) (fun x=>DI nx ss x.1 (nth nx x.1.toNat).length x.2.m x.2.td ∧ DQm b5 j5 x.2) (fun x=>2 * un x.2.m + x.2.td.length) ((-1,⟨Jn nx.length ss ss.length,ss,b6,c6,zrP j6 .any,q.2⟩)) ?_ ?_ ?_);exact (by (have e0:q.1 = ss.length:=by omega);(rw [e0] at g2);exact ⟨(DI.start hS).none,⟨g2,g3,n65,hc6,by simp;omega⟩⟩);((repeat' (first | exact Qg (by assumption) | exact Qi | refine Qf ?_ ?_ | refine Qh ?_)) <;> simp [-zg,-zd,↓Qb,↓Qa,go_sem]);rintro x ⟨g4,g5⟩)
 | (refine ⟨(v,⟨y.2.m,y.2.td,y.2.b,y.2.cp,y.2.jl,y.2.H⟩),⟨by dsimp only;(have e9:y.1 = (nth nx v.toNat).length:=by omega);rw [← e9];exact f2,⟨f3.m5,f3.mb,f3.nb,f3.r1,f3.r2⟩⟩,by first | omega | (simp;done) | (simp;omega),?_⟩;((repeat' (first | exact Qg (by assumption) | exact Qi | refine Qf ?_ ?_ | refine Qh ?_)) <;> simp [-zg,-zd,↓Qb,↓Qa,go_sem]))
 | (refine Qe (id:=4) (Qz (ι:=Nat × DQ) (fun y:Nat × DQ=>⟨(upd (upd (upd (upd (upd (upd (upd (fun _=>.any) 0 (li cL nx)) 1 (li cI ss)) 5 (.sl b5 1 0 nx.length c5)) 6 (.sl y.2.b 1 0 y.2.td.length y.2.cp)) 44 (li cI (nth nx v.toNat))) 45 (.int .i64 (nth nx v.toNat).length)) 46 (.int .i64 y.1)),y.2.H⟩) (fun y=>y.1 ≤ (nth nx v.toNat).length ∧ DI nx ss v y.1 y.2.m y.2.td ∧ DQm b5 j5 y.2 ∧ mkd y.2.m v ∧ 2 * un y.2.m + y.2.td.length + 1 ≤ 2 * un x.2.m + x.2.td.length) (fun y=>(nth nx v.toNat).length - y.1) ((0,⟨x.2.m,x.2.td.take (x.2.td.length - 1),x.2.b,x.2.cp,.int .i64 v :: x.2.jl,H3⟩)) ?_ ?_ ?_);exact ⟨Nat.zero_le _,hpop,hM,hvm,by simp;omega⟩;((repeat' (first | exact Qg (by assumption) | exact Qi | refine Qf ?_ ?_ | refine Qh ?_)) <;> simp [-zg,-zd,↓Qb,↓Qa,go_sem,(show min (x.2.td.length - 1) x.2.td.length = x.2.td.length - 1 by omega)]);rintro y ⟨f1,f2,f3,f4,f5⟩)
 | (refine ⟨(y.1 + 1,⟨y.2.m.set u.toNat true,y.2.td ++ [u],q',cp',zrP jj' .any,H2⟩),⟨by dsimp only;omega,hD2,hH2,hmv,hms⟩,by first | omega | (simp;done) | (simp;omega),?_⟩;((repeat' (first | exact Qg (by assumption) | exact Qi | refine Qf ?_ ?_ | refine Qh ?_)) <;> simp [-zg,-zd,↓Qb,↓Qa,go_sem,]))
 | (refine Qe ?_)
 | (refine Qt ?_;simp [-zg,-zd,↓Qb,↓Qa,go_sem])
 | (refine Qs ?_;simp [-zg,-zd,↓Qb,↓Qa,go_sem])
 | (refine Qv ?_;simp [-zg,-zd,↓Qb,↓Qa,go_sem,Try.results67])
 | (intro hx;refine zA ?_)
 | (refine ⟨?_,?_⟩ <;> refine zA ?_)
 | (intro hx;constructor <;> intro hs)
 | (constructor <;> intro hs)
 | (refine ⟨?_,fun hs=>?_⟩;refine zA ?_)
 | (refine ⟨fun hs=>?_,?_⟩;rotate_left;refine zA ?_;rotate_left)
 | (refine ⟨(y.1 + 1,⟨y.2.m,y.2.td,y.2.b,y.2.cp,y.2.jl,y.2.H⟩),⟨by dsimp only;omega,hskip (mkd_nth (by simp_all)),⟨f3.m5,f3.mb,f3.nb,f3.r1,f3.r2⟩,f4,f5⟩,by dsimp only;omega,?_⟩;((repeat' (first | exact Qg (by assumption) | exact Qi | refine Qf ?_ ?_ | refine Qh ?_)) <;> simp [-zg,-zd,go_sem]))))
@[go_sem] def zahr:Con:=.pure fun
  | [.list n_nx c_nx,.list n_ss c_ss]=>(((Is cL n_nx c_nx) ∧ (Is cI n_ss c_ss) ∧ (Xp (de cL c_nx)) ∧ (NextS (de cL c_nx)) ∧ ((de cL c_nx).length ≤ 1048576) ∧ (∀ x,x ∈ (de cI c_ss) → Nd (de cL c_nx) x) ∧ ((de cI c_ss).length ≤ 1048576)),fr 1 cB (rchL (de cL c_nx) (de cI c_ss)))
  | _=>(False,.any)
theorem reach_pureC_ok:ConOk Try.prog 67 zahr:=by
  refine ⟨Qp Try.func67 (by decide) rfl,fun args h=>?_⟩
  revert h
  dsimp only
  split
  · intro h
    obtain ⟨⟨nx,rfl,rfl⟩,⟨ss,rfl,rfl⟩,hx,hs,hn,hS,hl⟩:=h
    try simp only [Qr] at *
    exact ⟨reach_pure nx ss hx hs hn hS hl,by simp [go_sem]⟩
  · intro h
    exact h.elim
@[go_sem] def Γn2:FuncId → Con:=ext Γn1 67 zahr
theorem Γn2_ok:∀ g,ConOk Try.prog g (Γn2 g):=Qo Zp reach_pureC_ok


theorem Zv (l:List D) (i:Nat) (d:D):stSeg l i [d] = l.set i d:=rfl
theorem make_oN (n:Nat):makeD [.nil] n = cat oN (zrP n []):=by
  rw [oN_rep,Jp]
theorem oN_clen {xs:List (List Int)} {junk:List D}:(cat oN xs ++ junk).length = xs.length + junk.length:=by rw [List.length_append,Qx];omega
theorem oN_cell {xs:List (List Int)} {i:Nat} (h:i < xs.length) (hn:¬ nth xs i = []) (junk:List D):(cat oN xs ++ junk)[i]? = some (.fr 1 (nth xs i).length (cat cI (nth xs i))):=by
  have h1:i < (cat oN xs ++ junk).length:=by rw [oN_clen];omega
  have:=oN_get h junk
  rw [List.getD_eq_getElem?_getD,List.getElem?_eq_getElem h1,Option.getD_some] at this
  rw [List.getElem?_eq_getElem h1,this,zahv hn]
@[go_sem] def Γn3:FuncId → Con:=Γn2
theorem Γn3_ok:∀ g,ConOk Try.prog g (Γn3 g):=Γn2_ok

@[go_sem] def Γn4:FuncId → Con:=Γn3
theorem Γn4_ok:∀ g,ConOk Try.prog g (Γn4 g):=Γn3_ok

structure QM5 (b5:Nat) (j5:List D) (x:SQ):Prop where
  m5:x.H b5 = some (cat cB (smP x.s.1) ++ j5)
  mq:x.H x.q = some (cat cI x.s.2 ++ zrP x.j .any)
  n5:¬ x.q = b5
  r1:x.s.2.length ≤ x.cp
  r2:x.cp ≤ x.s.2.length + x.j
@[go_sem] def Γn5:FuncId → Con:=Γn4
theorem Γn5_ok:∀ g,ConOk Try.prog g (Γn5 g):=Γn4_ok

structure LQ where
  i:Nat
  m:List Bool
  q:List Int
  b:Nat
  cp:Nat
  j:Nat
  H:Hp
structure LQm (b6 j6:Nat) (x:LQ):Prop where
  m6:x.H b6 = some (cat cB x.m ++ zrP j6 .any)
  mb:x.H x.b = some (cat cI x.q ++ zrP x.j .any)
  nb:¬ x.b = b6
  r1:x.q.length ≤ x.cp
  r2:x.cp ≤ x.q.length + x.j
@[go_sem] def Γn6:FuncId → Con:=Γn5
theorem Jk:∀ g,ConOk Try.prog g (Γn6 g):=Γn5_ok

def bm (k:Int):Bool:=decide (k.tmod 3 = 0)
def Jo (k:Int) (n:Nat):List Bool:=(List.range n).map fun (i:Nat)=>bm (k + i)
@[go_sem] theorem zalc (k:Int) (n:Nat):(Jo k n).length = n:=by simp [Jo]
def mkB (k:Int) (xs:List Bool) (i:Nat):List Bool:=Jo k i ++ xs.drop i
theorem mkB_zero (k:Int) (xs:List Bool):mkB k xs 0 = xs:=by simp [mkB,Jo]
theorem mkB_all (k:Int) (xs:List Bool):mkB k xs xs.length = Jo k xs.length:=by simp [mkB]
theorem mkB_len {k:Int} {xs:List Bool} {i:Nat} (h:i < xs.length):(mkB k xs i).length = xs.length:=by simp [mkB,zalc];omega
theorem mkB_set {k:Int} {xs:List Bool} {i:Nat} (h:i < xs.length):(mkB k xs i).set i (decide ((k + (i:Int)).tmod 3 = 0)) = mkB k xs (i + 1):=by
  have m:Jo k (i + 1) = Jo k i ++ [bm (k + i)]:=by simp [Jo,List.range_succ]
  unfold mkB
  rw [List.drop_eq_getElem_cons h,set_mid (by rw [zalc]),m]
  simp [bm]
theorem markB_spec (xs:List Bool) (k:Int) (b cp:Nat) (junk:List D) (H:Hp) (hH:H b = some (cat cB xs ++ junk)) (h0:0 ≤ k) (h1:k + xs.length ≤ 1099511627776) :
    Spec Try.prog 33 [.sl b 1 0 xs.length cp,.int .i64 k] H (.int .i64 (k + xs.length)) (upd H b (some (cat cB (Jo k xs.length) ++ junk))):=by
  refine Spec.of_walk Try.func33 rfl (by simp [Try.f33]) fun B=>?_
  (repeat' (first
 | refine Qu ?_
 | refine Qc (id:=0) Jk [] (by kernel_rfl) ?_;simp [-zg,-zd,↓Qb,↓Qa,go_sem]
 | refine Qc (id:=1) Jk [] (by kernel_rfl) ?_;simp [-zg,-zd,↓Qb,↓Qa,go_sem]
 | refine Qc (id:=2) Jk [] (by kernel_rfl) ?_;simp [-zg,-zd,↓Qb,↓Qa,go_sem]
 | refine Qc (id:=4) Jk [] (by kernel_rfl) ?_;simp [-zg,-zd,↓Qb,↓Qa,go_sem,c9,Qj c9,zsP c9,mkB_len c9,mkB_set c9,(show i + 1 ≤ xs.length + junk.length by omega),(show i < xs.length + junk.length by omega)]
 | refine Qc (id:=5) Jk [] (by kernel_rfl) ?_;simp [-zg,-zd,↓Qb,↓Qa,go_sem,Qw (x:=k + (i:Int) + 1) (by omega) (by omega)]
 | refine Qc (id:=3) Jk [] (by kernel_rfl) ?_;simp [-zg,-zd,↓Qb,↓Qa,go_sem,wrapS (k:=i) (by omega)]
 | refine Qc (id:=6) Jk [] (by kernel_rfl) ?_;simp [-zg,-zd,↓Qb,↓Qa,go_sem]
 | refine Qd (c:=.tmp 9) ?_;simp [-zg,-zd,↓Qb,↓Qa,go_sem];try first | (refine ⟨?_,?_⟩ <;> refine zA ?_) | (refine ⟨fun c9=>?_,fun c9=>?_⟩ <;> (try simp [B_iff,B_not] at c9))
 | (refine Qe (id:=0) (Qz (ι:=Nat) (fun i:Nat=>⟨(upd (upd (upd (fun _=>.any) 0 (.sl b 1 0 xs.length cp)) 1 (.int .i64 (k + i))) 5 (.int .i64 i)),upd H b (some (cat cB (mkB k xs i) ++ junk))⟩) (fun i=>i ≤ xs.length) (fun i=>xs.length - i) (0) ?_ ?_ ?_);exact Nat.zero_le _;((repeat' (first | exact Qg (by assumption) | exact Qi | refine Qf ?_ ?_ | refine Qh ?_)) <;> simp [-zg,-zd,↓Qb,↓Qa,go_sem,mkB_zero,Ua hH]);rintro i hi)
 | (refine ⟨i + 1,by omega,by first | omega | (simp;done) | (simp;omega),?_⟩;((repeat' (first | exact Qg (by assumption) | exact Qi | refine Qf ?_ ?_ | refine Qh ?_)) <;> simp [-zg,-zd,↓Qb,↓Qa,go_sem,(show k + ((i:Int) + 1) = k + (i:Int) + 1 by omega),(show k + ((i + 1:Nat):Int) = k + (i:Int) + 1 by omega)]))
 | (refine Qe ?_)
 | (refine Qt ?_;simp [-zg,-zd,↓Qb,↓Qa,go_sem])
 | (refine Qs ?_;simp [-zg,-zd,↓Qb,↓Qa,go_sem])
 | (refine Qv ?_;simp [-zg,-zd,↓Qb,↓Qa,go_sem,Try.results33])
 | (intro hx;refine zA ?_)
 | (refine ⟨?_,?_⟩ <;> refine zA ?_)
 | (intro hx;constructor <;> intro hs)
 | (constructor <;> intro hs)
 | (refine ⟨?_,fun hs=>?_⟩;refine zA ?_)
 | (refine ⟨fun hs=>?_,?_⟩;rotate_left;refine zA ?_;rotate_left)))
  all_goals (first
 | (obtain rfl:i = xs.length:=(by omega);rw [mkB_all];exact ⟨rfl,fun _ _ h=>h⟩)
 | skip)
theorem markBNil_spec (k:Int) (H:Hp):Spec Try.prog 33 [.nil,.int .i64 k] H (.int .i64 k) H:=by
  refine Spec.of_walk Try.func33 rfl (by simp [Try.f33]) fun B=>?_
  (repeat' (first
 | refine Qu ?_
 | refine Qc (id:=0) Jk [] (by kernel_rfl) ?_;simp [-zg,-zd,↓Qb,↓Qa,go_sem]
 | refine Qc (id:=1) Jk [] (by kernel_rfl) ?_;simp [-zg,-zd,↓Qb,↓Qa,go_sem]
 | refine Qc (id:=2) Jk [] (by kernel_rfl) ?_;simp [-zg,-zd,↓Qb,↓Qa,go_sem]
 | refine Qc (id:=4) Jk [] (by kernel_rfl) ?_;simp [-zg,-zd,↓Qb,↓Qa,go_sem]
 | refine Qc (id:=5) Jk [] (by kernel_rfl) ?_;simp [-zg,-zd,↓Qb,↓Qa,go_sem]
 | refine Qc (id:=3) Jk [] (by kernel_rfl) ?_;simp [-zg,-zd,↓Qb,↓Qa,go_sem]
 | refine Qc (id:=6) Jk [] (by kernel_rfl) ?_;simp [-zg,-zd,↓Qb,↓Qa,go_sem]
 | refine Qd (c:=.tmp 9) ?_;simp [-zg,-zd,↓Qb,↓Qa,go_sem];try first | (refine ⟨?_,?_⟩ <;> refine zA ?_) | (refine ⟨fun c9=>?_,fun c9=>?_⟩ <;> (try simp [B_iff,B_not] at c9))
 | (refine Qe (id:=0) (Qz (ι:=Unit) (fun i:Unit=>⟨(upd (upd (upd (fun _=>.any) 0 (.nil)) 1 (.int .i64 k)) 5 (.int .i64 0)),H⟩) (fun i=>True) (fun i=>0) (()) ?_ ?_ ?_);exact trivial;((repeat' (first | exact Qg (by assumption) | exact Qi | refine Qf ?_ ?_ | refine Qh ?_)) <;> simp [-zg,-zd,↓Qb,↓Qa,go_sem]);rintro i hi)
 | (refine ⟨(),trivial,by first | omega | (simp;done) | (simp;omega),?_⟩;((repeat' (first | exact Qg (by assumption) | exact Qi | refine Qf ?_ ?_ | refine Qh ?_)) <;> simp [-zg,-zd,↓Qb,↓Qa,go_sem]))
 | (refine Qe ?_)
 | (refine Qt ?_;simp [-zg,-zd,↓Qb,↓Qa,go_sem])
 | (refine Qs ?_;simp [-zg,-zd,↓Qb,↓Qa,go_sem])
 | (refine Qv ?_;simp [-zg,-zd,↓Qb,↓Qa,go_sem,Try.results33])
 | (intro hx;refine zA ?_)
 | (refine ⟨?_,?_⟩ <;> refine zA ?_)
 | (intro hx;constructor <;> intro hs)
 | (constructor <;> intro hs)
 | (refine ⟨?_,fun hs=>?_⟩;refine zA ?_)
 | (refine ⟨fun hs=>?_,?_⟩;rotate_left;refine zA ?_;rotate_left)
 | (exfalso;omega)))
@[go_sem] def markBC:Con:=.gen fun args H=>match args with
  | [.sl b 1 0 n _,.int .i64 k]=>match H b with
    | some all=>(n ≤ all.length ∧ Is cB n (all.take n) ∧ 0 ≤ k ∧ k + n ≤ 1099511627776,.int .i64 (k + n),upd H b (some (cat cB (Jo k n) ++ all.drop n)))
    | none=>(False,.any,H)
  | [.nil,.int .i64 k]=>(True,.int .i64 k,H)
  | _=>(False,.any,H)
theorem markBC_ok:ConOk Try.prog 33 markBC:=by
  refine ⟨Qp Try.func33 (by decide) rfl,fun args H h=>?_⟩
  revert h
  dsimp only
  split
  · rename_i b n cp k
    split
    · rename_i all hH
      rintro ⟨g1,⟨xs,hn,he⟩,g2,g3⟩
      subst hn
      have:all = cat cB xs ++ all.drop xs.length:=by rw [← he,List.take_append_drop]
      rw [this] at hH
      have:=markB_spec xs k b cp _ H hH g2 g3
      exact this
    · intro h;exact h.elim
  · intro _
    exact markBNil_spec _ H
  · intro h
    exact h.elim
@[go_sem] def Γn7:FuncId → Con:=ext Γn6 33 markBC
theorem Γn7_ok:∀ g,ConOk Try.prog g (Γn7 g):=Qo Jk markBC_ok

def heldB (k:Int) (xs:List Bool):Int:=if xs = Jo k xs.length then k + xs.length else -1
@[go_sem] theorem heldB_marks (k:Int) (n:Nat):heldB k (Jo k n) = k + n:=by simp [heldB,zalc]
@[go_sem] theorem heldB_nil (k:Int):heldB k [] = k:=by simp [heldB,Jo]
@[go_sem] def Γn8:FuncId → Con:=Γn7
theorem Js:∀ g,ConOk Try.prog g (Γn8 g):=Γn7_ok

structure MT (b:Nat) (all:List D) (H H1:Hp):Prop where
  here:∃ cs,H1 b = some cs ∧ cs.length = all.length
  rest:∀ z cs,¬ z = b → H z = some cs → H1 z = some cs
theorem MT.set {b:Nat} {all:List D} {H H1 H2:Hp} (h:MT b all H H1) {cs:List D} {i:Nat} {d:D} (h2:H2 b = some (cs.set i d)) (hl:cs.length = all.length) (h3:∀ z,¬ z = b → H2 z = H1 z):MT b all H H2 :=
  ⟨⟨_,h2,by rw [List.length_set,hl]⟩,fun z cs hz k=>by rw [h3 z hz];exact h.rest z cs hz k⟩
theorem markT_spec (n:Nat) (k:Int) (b cp:Nat) (all:List D) (H:Hp) (hH:H b = some all) (hn:n * 4 ≤ all.length) (hn2:n ≤ 1048576) (h0:0 ≤ k) (h1:k + 4 * n ≤ 1099511627776) :
    Spec Try.prog 34 [.sl b 4 0 n cp,.int .i64 k] H (.int .i64 (k + 4 * n)) (upd H b none):=by
  refine Spec.of_walk Try.func34 rfl (by simp [Try.f34]) fun B=>?_
  (repeat' (first
 | refine Qu ?_
 | refine Qc (id:=0) Js [] (by kernel_rfl) ?_;simp [-zg,-zd,↓Qb,↓Qa,go_sem]
 | refine Qc (id:=1) Js [] (by kernel_rfl) ?_;simp [-zg,-zd,↓Qb,↓Qa,go_sem]
 | refine Qc (id:=2) Js [] (by kernel_rfl) ?_;simp [-zg,-zd,↓Qb,↓Qa,go_sem]
 | ((obtain ⟨⟨cs,w1,w2⟩,w3⟩:=g2));refine Qc (id:=4) Js [] (by kernel_rfl) ?_;simp [-zg,-zd,↓Qb,↓Qa,go_sem,w1,w2,c9,(show q.1 * 4 + 4 ≤ all.length by omega),(show q.1 * 4 < all.length by omega),(show q.1 * 4 + 1 ≤ all.length by omega)];try ((refine Qq (fun H1=>MT b all H H1) (MT.set (cs:=cs) ⟨⟨cs,w1,w2⟩,w3⟩ (by simp [upd,Zv];rfl) (by assumption) (by intro z hz;simp [upd,hz])) fun H1 t1=>?_))
 | refine Qc (id:=5) Js [] (by kernel_rfl) ?_;simp [-zg,-zd,↓Qb,↓Qa,go_sem,Qw (x:=k + 4 * (q.1:Int) + 1) (by omega) (by omega)]
 | ((obtain ⟨⟨cs1,w11,w12⟩,w13⟩:=t1));refine Qc (id:=6) Js [] (by kernel_rfl) ?_;simp [-zg,-zd,↓Qb,↓Qa,go_sem,w11,w12,c9,(show q.1 * 4 + 4 ≤ all.length by omega),(show q.1 * 4 + 1 < all.length by omega),(show q.1 * 4 + 1 + 1 ≤ all.length by omega)];try ((refine Qq (fun H1=>MT b all H H1) (MT.set (cs:=cs1) ⟨⟨cs1,w11,w12⟩,w13⟩ (by simp [upd,Zv];rfl) (by assumption) (by intro z hz;simp [upd,hz])) fun H2 t2=>?_))
 | refine Qc (id:=7) Js [] (by kernel_rfl) ?_;simp [-zg,-zd,↓Qb,↓Qa,go_sem,Qw (x:=k + 4 * (q.1:Int) + 1 + 1) (by omega) (by omega)]
 | ((obtain ⟨⟨cs2,w21,w22⟩,w23⟩:=t2));refine Qc (id:=8) Js [] (by kernel_rfl) ?_;simp [-zg,-zd,↓Qb,↓Qa,go_sem,w21,w22,c9,(show q.1 * 4 + 4 ≤ all.length by omega),(show q.1 * 4 + 2 < all.length by omega),(show q.1 * 4 + 2 + 1 ≤ all.length by omega)];try ((refine Qq (fun H1=>MT b all H H1) (MT.set (cs:=cs2) ⟨⟨cs2,w21,w22⟩,w23⟩ (by simp [upd,Zv];rfl) (by assumption) (by intro z hz;simp [upd,hz])) fun H3 t3=>?_))
 | refine Qc (id:=9) Js [] (by kernel_rfl) ?_;simp [-zg,-zd,↓Qb,↓Qa,go_sem,Qw (x:=k + 4 * (q.1:Int) + 1 + 1 + 1) (by omega) (by omega)]
 | ((obtain ⟨⟨cs3,w31,w32⟩,w33⟩:=t3));refine Qc (id:=10) Js [] (by kernel_rfl) ?_;simp [-zg,-zd,↓Qb,↓Qa,go_sem,w31,w32,c9,(show q.1 * 4 + 4 ≤ all.length by omega),(show q.1 * 4 + 3 < all.length by omega),(show q.1 * 4 + 3 + 1 ≤ all.length by omega)];try ((refine Qq (fun H1=>MT b all H H1) (MT.set (cs:=cs3) ⟨⟨cs3,w31,w32⟩,w33⟩ (by simp [upd,Zv];rfl) (by assumption) (by intro z hz;simp [upd,hz])) fun H9 t4=>?_))
 | refine Qc (id:=11) Js [] (by kernel_rfl) ?_;simp [-zg,-zd,↓Qb,↓Qa,go_sem,Qw (x:=k + 4 * (q.1:Int) + 1 + 1 + 1 + 1) (by omega) (by omega)]
 | refine Qc (id:=3) Js [] (by kernel_rfl) ?_;simp [-zg,-zd,↓Qb,↓Qa,go_sem,wrapS (k:=q.1) (by omega)]
 | refine Qc (id:=12) Js [] (by kernel_rfl) ?_;simp [-zg,-zd,↓Qb,↓Qa,go_sem]
 | refine Qd (c:=.tmp 9) ?_;simp [-zg,-zd,↓Qb,↓Qa,go_sem];try first | (refine ⟨?_,?_⟩ <;> refine zA ?_) | (refine ⟨fun c9=>?_,fun c9=>?_⟩ <;> (try simp [B_iff,B_not] at c9))
 | (refine Qe (id:=0) (Qz (ι:=Nat × Hp) (fun q:Nat × Hp=>⟨(upd (upd (upd (fun _=>.any) 0 (.sl b 4 0 n cp)) 1 (.int .i64 (k + 4 * q.1))) 5 (.int .i64 q.1)),q.2⟩) (fun q=>q.1 ≤ n ∧ MT b all H q.2) (fun q=>n - q.1) ((0,H)) ?_ ?_ ?_);exact ⟨Nat.zero_le _,⟨⟨all,hH,rfl⟩,fun z cs hz h=>h⟩⟩;((repeat' (first | exact Qg (by assumption) | exact Qi | refine Qf ?_ ?_ | refine Qh ?_)) <;> simp [-zg,-zd,↓Qb,↓Qa,go_sem]);rintro q ⟨g1,g2⟩)
 | (refine ⟨(q.1 + 1,H9),⟨by dsimp only;omega,t4⟩,by first | omega | (simp;done) | (simp;omega),?_⟩;((repeat' (first | exact Qg (by assumption) | exact Qi | refine Qf ?_ ?_ | refine Qh ?_)) <;> simp [-zg,-zd,↓Qb,↓Qa,go_sem,(show k + 4 * ((q.1:Int) + 1) = k + 4 * (q.1:Int) + 1 + 1 + 1 + 1 by omega),(show k + 4 * ((q.1 + 1:Nat):Int) = k + 4 * (q.1:Int) + 1 + 1 + 1 + 1 by omega)]))
 | (refine Qe ?_)
 | (refine Qt ?_;simp [-zg,-zd,↓Qb,↓Qa,go_sem])
 | (refine Qs ?_;simp [-zg,-zd,↓Qb,↓Qa,go_sem])
 | (refine Qv ?_;simp [-zg,-zd,↓Qb,↓Qa,go_sem,Try.results34])
 | (intro hx;refine zA ?_)
 | (refine ⟨?_,?_⟩ <;> refine zA ?_)
 | (intro hx;constructor <;> intro hs)
 | (constructor <;> intro hs)
 | (refine ⟨?_,fun hs=>?_⟩;refine zA ?_)
 | (refine ⟨fun hs=>?_,?_⟩;rotate_left;refine zA ?_;rotate_left)))
  all_goals (first
 | (exact ⟨by omega,fun z cs hz h=>g2.rest z cs hz h⟩)
 | (have e:q.1 = n:=(by omega);rw [e];refine ⟨rfl,fun z cs h=>?_⟩;by_cases ez:z = b;(subst ez;simp [upd] at h);(rw [Qk ez] at h;exact g2.rest z cs ez h))
 | (have e:q.1 = n:=(by omega);rw [e];refine ⟨rfl,fun z cs h=>?_⟩;by_cases ez:z = b;(subst ez;simp at h);(simp [ez] at h;exact g2.rest z cs ez h))
 | skip)
@[go_sem] def markTC:Con:=.gen fun args H=>match args with
  | [.sl b 4 0 n _,.int .i64 k]=>match H b with
    | some all=>(n * 4 ≤ all.length ∧ n ≤ 1048576 ∧ 0 ≤ k ∧ k + 4 * n ≤ 1099511627776,.int .i64 (k + 4 * n),upd H b none)
    | none=>(False,.any,H)
  | _=>(False,.any,H)
theorem markTC_ok:ConOk Try.prog 34 markTC:=by
  refine ⟨Qp Try.func34 (by decide) rfl,fun args H h=>?_⟩
  revert h
  dsimp only
  split
  · rename_i b n cp k
    split
    · rename_i all hH
      rintro ⟨g1,g2,g3,g4⟩
      exact markT_spec n k b cp all H hH g1 g2 g3 g4
    · intro h;exact h.elim
  · intro h
    exact h.elim
@[go_sem] def Γn9:FuncId → Con:=ext Γn8 34 markTC
theorem zanu:∀ g,ConOk Try.prog g (Γn9 g):=Qo Js markTC_ok

set_option maxHeartbeats 2000000 in
theorem markA_spec (a:List Int) (b:List Bool) (n:Nat) (k:Int) (b1 b2 b3 c1 c2 c3:Nat) (j1 j2 all:List D) (H:Hp) (h1:H b1 = some (cat cI a ++ j1)) (h2:H b2 = some (cat cB b ++ j2)) (h3:H b3 = some all) (n12:¬ b1 = b2) (n13:¬ b1 = b3) (n23:¬ b2 = b3) (hn:n * 4 ≤ all.length) (hn2:n ≤ 1048576) (h0:0 ≤ k) (hk:k + a.length + b.length + 4 * n ≤ 1099511627776) :
    Spec Try.prog 10 [.st [.sl b1 1 0 a.length c1,.sl b2 1 0 b.length c2,.sl b3 4 0 n c3],.int .i64 k] H (.int .i64 (k + a.length + b.length + 4 * n)) (upd (upd (upd H b1 none) b2 none) b3 none):=by
  refine Spec.of_walk Try.func10 rfl (by simp [Try.f10]) fun B=>?_
  (repeat' (first
 | refine Qu ?_
 | refine Qc (id:=0) zanu [] (by kernel_rfl) ?_;simp [-zg,-zd,↓Qb,↓Qa,go_sem];try (refine Xu 2 rfl fun b0 hb0=>?_;have m1:¬ b1 = b0:=(by rintro rfl;dsimp only at hb0;rw [h1] at hb0;cases hb0);have m2:¬ b2 = b0:=(by rintro rfl;dsimp only at hb0;rw [h2] at hb0;cases hb0);have m3:¬ b3 = b0:=(by rintro rfl;dsimp only at hb0;rw [h3] at hb0;cases hb0))
 | refine Qc (id:=1) zanu [] (by kernel_rfl) ?_;simp [-zg,-zd,↓Qb,↓Qa,go_sem,m1,h1,h0,(show k + (a.length:Int) ≤ 1099511627776 by omega)]
 | refine Qc (id:=2) zanu [] (by kernel_rfl) ?_;simp [-zg,-zd,↓Qb,↓Qa,go_sem,m1,m2,zS m1,zS m2,n12,zS n12,h2,(show 0 ≤ k + (a.length:Int) by omega),(show k + (a.length:Int) + (b.length:Int) ≤ 1099511627776 by omega)]
 | refine Qc (id:=3) zanu [] (by kernel_rfl) ?_;simp [-zg,-zd,↓Qb,↓Qa,go_sem,m1,m2,m3,zS m1,zS m2,zS m3,n12,zS n12,n13,zS n13,n23,zS n23,h3,hn,hn2,(show 0 ≤ k + (a.length:Int) + (b.length:Int) by omega),hk]
 | refine Qc (id:=4) zanu [] (by kernel_rfl) ?_;simp [-zg,-zd,↓Qb,↓Qa,go_sem]
 | (refine Qe ?_)
 | (refine Qt ?_;simp [-zg,-zd,↓Qb,↓Qa,go_sem])
 | (refine Qs ?_;simp [-zg,-zd,↓Qb,↓Qa,go_sem])
 | (refine Qv ?_;simp [-zg,-zd,↓Qb,↓Qa,go_sem,Try.results10])
 | (intro hx;refine zA ?_)
 | (refine ⟨?_,?_⟩ <;> refine zA ?_)
 | (intro hx;constructor <;> intro hs)
 | (constructor <;> intro hs)
 | (refine ⟨?_,fun hs=>?_⟩;refine zA ?_)
 | (refine ⟨fun hs=>?_,?_⟩;rotate_left;refine zA ?_;rotate_left)))
  all_goals (first
 | (intro b' cs' h;dsimp only at hb0;by_cases e3:b' = b3 <;> by_cases e2:b' = b2 <;> by_cases e1:b' = b1 <;> by_cases e0:b' = b0 <;> simp_all)
 | skip)
@[go_sem] def markAC:Con:=.gen fun args H=>match args with
  | [.st [.sl b1 1 0 n _,.sl b2 1 0 m _,.sl b3 4 0 o _],.int .i64 k]=>match H b1,H b2,H b3 with
    | some a1,some a2,some a3=>(¬ b1 = b2 ∧ ¬ b1 = b3 ∧ ¬ b2 = b3 ∧ n ≤ a1.length ∧ m ≤ a2.length ∧ Is cI n (a1.take n) ∧ Is cB m (a2.take m) ∧ o * 4 ≤ a3.length ∧ o ≤ 1048576 ∧ 0 ≤ k ∧ k + n + m + 4 * o ≤ 1099511627776,
        .int .i64 (k + n + m + 4 * o),upd (upd (upd H b1 none) b2 none) b3 none)
    | _,_,_=>(False,.any,H)
  | _=>(False,.any,H)
theorem markAC_ok:ConOk Try.prog 10 markAC:=by
  refine ⟨Qp Try.func10 (by decide) rfl,fun args H h=>?_⟩
  revert h
  dsimp only
  split
  · rename_i b1 n c1 b2 m c2 b3 o c3 k
    split
    · rename_i a1 a2 a3 hH1 hH2 hH3
      rintro ⟨g1,g2,g3,g4,g5,⟨xs,hn,he⟩,⟨ys,hm,hf⟩,g6,g7,g8,g9⟩
      subst hn hm
      have e1:a1 = cat cI xs ++ a1.drop xs.length:=by rw [← he,List.take_append_drop]
      have e2:a2 = cat cB ys ++ a2.drop ys.length:=by rw [← hf,List.take_append_drop]
      rw [e1] at hH1
      rw [e2] at hH2
      exact markA_spec xs ys o k b1 b2 b3 c1 c2 c3 _ _ _ H hH1 hH2 hH3 g1 g2 g3 g6 g7 g8 g9
    · intro h;exact h.elim
  · intro h
    exact h.elim
@[go_sem] def Γn10:FuncId → Con:=ext Γn9 10 markAC
theorem Γn10_ok:∀ g,ConOk Try.prog g (Γn10 g):=Qo zanu markAC_ok

def gd (nx:List (List Int)) (acc:List Bool) (s:Int) (i:Nat):Prop:=RchS nx [s] (i:Int) ∧ Cyc nx (i:Int) ∧ nth acc i = true
structure LV (b5 j5:Nat) (nx:List (List Int)) (acc:List Bool) (k j:Nat) (H:Hp):Prop where
  w:∃ v,H b5 = some (cat cB ((prtB (livL nx acc) k).set k v) ++ zrP j5 .any) ∧ (v = true ↔ ∃ i,i < j ∧ gd nx acc (k:Int) i)
theorem LV.next {b5 j5:Nat} {nx:List (List Int)} {acc:List Bool} {k j:Nat} {H2:Hp} {v v':Bool} (h:v = true ↔ ∃ i,i < j ∧ gd nx acc (k:Int) i) (h2:H2 b5 = some (cat cB (((prtB (livL nx acc) k).set k v).set k v') ++ zrP j5 .any)) (hv:v' = true ↔ v = true ∨ gd nx acc (k:Int) j):LV b5 j5 nx acc k (j + 1) H2:=by
  refine ⟨v',by rw [h2,List.set_set],?_⟩
  rw [hv,h]
  constructor
  · rintro (⟨i,h1,h2⟩ | q)
    · exact ⟨i,by omega,h2⟩
    · exact ⟨j,by omega,q⟩
  · rintro ⟨i,h1,h2⟩
    by_cases e:i = j
    · subst e;exact .inr h2
    · exact .inl ⟨i,by omega,h2⟩
@[go_sem] def Γn11:FuncId → Con:=Γn10
theorem Γn11_ok:∀ g,ConOk Try.prog g (Γn11 g):=Γn10_ok

theorem AutOk.rng {a:List Int} {n:Nat} {c:List Tr4} (h:AutOk a n c):InRng n c:=fun i hi=>by
  obtain ⟨g1,g2,g3,g4,_⟩:=h.2.2.2.2 i hi
  exact ⟨⟨g1,g2⟩,g3,g4⟩
theorem AutOk.sizes {a:List Int} {n:Nat} {c:List Tr4} (h:AutOk a n c):1 ≤ n ∧ n ≤ 64 ∧ a.length ≤ n ∧ c.length ≤ 2048:=⟨h.1,h.2.1,sorted_len h.2.2.1,h.2.2.2.1⟩
@[go_sem] def Γn12:FuncId → Con:=Γn11
theorem Γn12_ok:∀ g,ConOk Try.prog g (Γn12 g):=Γn11_ok

@[go_sem] def Γn13:FuncId → Con:=Γn12
theorem Γn13_ok:∀ g,ConOk Try.prog g (Γn13 g):=Γn12_ok
end
end Go.Proofs.Ytnfldmfamnhpcaa.Vm

