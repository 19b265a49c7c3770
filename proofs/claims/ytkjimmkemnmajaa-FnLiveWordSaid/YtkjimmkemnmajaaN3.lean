import Derived.Test.YtkjimmkemnmajaaA3
import Derived.Test.YtkjimmkemnmajaaJ9
/-
  impl.cyclic. No conditions.
-/
namespace Go.Proofs.Ytkjimmkemnmajaa.Vm
open Go
open Nat renaming sub_pos_of_lt → zsP
open List renaming getD_eq_getElem?_getD → zg,drop_one → zd,replicate → zrP
open Ne renaming symm → zS
noncomputable section
set_option linter.unusedVariables false
set_option linter.unusedSimpArgs false
set_option maxRecDepth 200000

def prtB (xs:List Bool) (k:Nat):List Bool:=xs.take k ++ zrP (xs.length - k) false
theorem prtB_len {xs:List Bool} {k:Nat} (h:k ≤ xs.length):(prtB xs k).length = xs.length:=by simp [prtB];omega
theorem prtB_zero (xs:List Bool):prtB xs 0 = zrP xs.length false:=by simp [prtB]
theorem prtB_all (xs:List Bool):prtB xs xs.length = xs:=by simp [prtB]
theorem prtB_set {xs:List Bool} {k:Nat} (h:k < xs.length) {v:Bool} (hv:nth xs k = v):(prtB xs k).set k v = prtB xs (k + 1):=by
  obtain ⟨m,e⟩:∃ m,xs.length - k = m + 1:=⟨xs.length - k - 1,by omega⟩
  have e2:xs.length - (k + 1) = m:=by omega
  rw [prtB,prtB,e,e2,List.replicate_succ,zalo (by simp;omega),List.take_succ_eq_append_getElem h,← Ql h,hv];simp
set_option maxHeartbeats 2000000 in

theorem cyclic_pure (nx:List (List Int)) (hx:Xc nx) (hs:NextS nx) (hn:nx.length ≤ 1048576):Pure Try.prog 161 [li cL nx] (fr 1 cB (cycL nx)):=by
  refine Pure.of_walk Try.func161 rfl (by simp [Try.f161]) (by simp [-zd,go_sem]) fun B hK=>?_
  obtain ⟨ps,hps⟩:∃ ps,Ze nx = ps:=⟨_,rfl⟩;have hpl:ps.length = nx.length:=(by rw [← hps];exact zanl hx);have hpr:=fun (i:Nat) (hi:i < nx.length)=>compsL_rng hx hi;simp only [hps] at hpr;have hcy:=fun (i:Nat) (hi:i < nx.length)=>cyc_iff hx hi;simp only [hps] at hcy;have hcl:=zanj nx
  all_goals (repeat' (first
 | refine Qt ?_
 | refine Qc (id:=0) Jl [] (by kernel_rfl) ?_;simp [-zg,-zd,↓Qb,↓Qa,go_sem]
 | refine Qc (id:=1) Jl [] (by kernel_rfl) ?_;simp [-zg,-zd,↓Qb,↓Qa,go_sem,hx,hs,hn,hps,hpl]
 | refine Qc (id:=2) Jl [] (by kernel_rfl) ?_;simp [-zg,-zd,↓Qb,↓Qa,go_sem,make_cI,(by omega:8 * (nx.length:Int) ≤ 281474976710656),(by omega:(nx.length:Int) ≤ 281474976710656),(by omega:(nx.length:Int) ≤ 9223372036854775807)];try ((refine Xa hK 3 ?_);(refine Xk 4 rfl fun b4 c4 j4 _ hc4 hj4=>?_);(simp [go_sem]))
 | refine Qc (id:=3) Jl [] (by kernel_rfl) ?_;simp [-zg,-zd,↓Qb,↓Qa,go_sem,hpl]
 | refine Qc (id:=4) Jl [] (by kernel_rfl) ?_;simp [-zg,-zd,↓Qb,↓Qa,go_sem]
 | ((have hkp:k < ps.length:=(by omega));(obtain ⟨p0,p1⟩:=hpr k (by omega));(have hset:=cnts_succ (ps:=ps) (n:=nx.length) (k:=k) (by omega) p0 p1);(have hcb:=cnts_le (ps:=ps) (n:=nx.length) (k:=k) (p:=(nth ps k).toNat) (by omega)));refine Qc (id:=5) Jl [] (by kernel_rfl) ?_;simp [-zg,-zd,↓Qb,↓Qa,go_sem,hkp,Qj hkp,zsP hkp,hpl,c17,zsP c17]
 | refine Qc (id:=6) Jl [] (by kernel_rfl) ?_;simp [-zg,-zd,↓Qb,↓Qa,go_sem,zajh,p0,p1,hset,Qv (x:=nth (cnts ps nx.length k) (nth ps k).toNat + 1) (by omega) (by omega),(show (nth ps k).toNat < nx.length by omega),(show (nth ps k).toNat < nx.length + j4 by omega),(show (nth ps k).toNat + 1 ≤ nx.length + j4 by omega)]
 | refine Qc (id:=7) Jl [] (by kernel_rfl) ?_;simp [-zg,-zd,↓Qb,↓Qa,go_sem,wrapS (k:=k) (by omega)]
 | ((obtain rfl:k = nx.length:=by omega));refine Qc (id:=8) Jl [] (by kernel_rfl) ?_;simp [-zg,-zd,↓Qb,↓Qa,go_sem,Yk,(by omega:(nx.length:Int) ≤ 281474976710656),(by omega:(nx.length:Int) ≤ 9223372036854775807)];try ((refine Xk 7 rfl fun b7 c7 j7 q7 hc7 hj7=>?_);(dsimp only at q7);(have n74:¬ b7 = b4:=(by rintro rfl;simp [upd] at q7));(clear q7);(refine Qx (fun H1=>H1 b4 = some (cat cI (cnts ps nx.length nx.length) ++ zrP j4 .any) ∧ H1 b7 = some (cat cB (prtB (cycL nx) 0) ++ zrP j7 .any)) ⟨by simp [upd,n74,zS n74],by simp [upd,prtB_zero,hcl]⟩ fun H1 ⟨w4,w7⟩=>?_))
 | refine Qc (id:=9) Jl [] (by kernel_rfl) ?_;simp [-zg,-zd,↓Qb,↓Qa,go_sem]
 | refine Qc (id:=10) Jl [] (by kernel_rfl) ?_;simp [-zg,-zd,↓Qb,↓Qa,go_sem]
 | refine Qc (id:=11) Jl [] (by kernel_rfl) ?_;simp [-zg,-zd,↓Qb,↓Qa,go_sem]
 | ((have hkp:q.1 < ps.length:=(by omega));(have hkn:q.1 < nx.length:=(by omega));(obtain ⟨p0,p1⟩:=hpr q.1 hkn);(have hpt:=prtB_len (xs:=cycL nx) (k:=q.1) (by omega));(have hcq:=hcy q.1 hkn);(have hnc:=nth_cycL hkn));refine Qc (id:=12) Jl [45] (by kernel_rfl) ?_;simp [-zg,-zd,↓Qb,↓Qa,go_sem,g2,g3,hkn,Qj hkn,zsP hkn,hkp,Qj hkp,zsP hkp,hpl,hpt,hcl,zajh,p0,p1,n74,zS n74,(show (nth ps q.1).toNat < nx.length by omega),(show (nth ps q.1).toNat < nx.length + j4 by omega),(show (nth ps q.1).toNat + 1 ≤ nx.length + j4 by omega),(show q.1 < nx.length + j7 by omega),(show q.1 + 1 ≤ nx.length + j7 by omega)];try (refine ⟨fun s12a=>?_,fun s12a=>?_⟩ <;> (try simp [B_iff,B_not] at s12a) <;> try (refine ⟨fun s12b=>?_,fun s12b=>?_⟩ <;> (try simp [B_iff,B_not] at s12b)))
 | ((first | (have hv:nth (cycL nx) q.1 = true:=(by rw [hnc];exact B_yes (hcq.1 (.inl s12a)));have hst:=prtB_set (by omega) hv) | (have hv:nth (cycL nx) q.1 = Vm.B ((q.1:Int) ∈ nth nx q.1):=(by rw [hnc,Bool.eq_iff_iff,B_iff,B_iff,← hcq];exact ⟨fun h=>h.resolve_left (by omega),.inr⟩);have hst:=prtB_set (by omega) hv));(refine Qx (fun H1=>H1 b4 = some (cat cI (cnts ps nx.length nx.length) ++ zrP j4 .any) ∧ H1 b7 = some (cat cB (prtB (cycL nx) (q.1 + 1)) ++ zrP j7 .any)) ⟨by simp [upd,n74,zS n74,g2],by simp [upd,hst]⟩ fun H9 ⟨t4,t7⟩=>?_));refine Qc (id:=13) Jl [] (by kernel_rfl) ?_;simp [-zg,-zd,↓Qb,↓Qa,go_sem,wrapS (k:=q.1) (by omega)]
 | ((obtain ⟨kx,Hx⟩:=q);(dsimp only at *);(obtain rfl:kx = nx.length:=by omega);(have hpa:prtB (cycL nx) nx.length = cycL nx:=(by have:=prtB_all (cycL nx);rwa [hcl] at this));(rw [hpa] at g3);(refine Je 7 (b:=b7) (all:=cat cB (cycL nx) ++ zrP j7 .any) rfl g3 (by omega) (by simp [Qz,hcl]) (by simp [Qz,hcl];omega) ?_));refine Qc (id:=14) Jl [] (by kernel_rfl) ?_;simp [-zg,-zd,↓Qb,↓Qa,go_sem,hcl,Jt (f:=cB) (cycL nx) (zrP j7 .any) (n:=nx.length) hcl.symm]
 | refine Qd (c:=.tmp 17) ?_;simp [-zg,-zd,↓Qb,↓Qa,go_sem];try first | (refine ⟨?_,?_⟩ <;> refine zA ?_) | (refine ⟨fun c17=>?_,fun c17=>?_⟩ <;> (try simp [B_iff,B_not] at c17))
 | refine Qd (c:=.tmp 33) ?_;simp [-zg,-zd,↓Qb,↓Qa,go_sem];try first | (refine ⟨?_,?_⟩ <;> refine zA ?_) | (refine ⟨fun c33=>?_,fun c33=>?_⟩ <;> (try simp [B_iff,B_not] at c33))
 | (refine Qe (id:=0) (Qy (ι:=Nat) (fun k:Nat=>⟨(upd (upd (upd (upd (upd (upd (fun _=>.any) 0 (li cL nx)) 3 (li cI ps)) 4 (.sl b4 1 0 nx.length c4)) 14 (li cI ps)) 15 (.int .i64 nx.length)) 16 (.int .i64 k)),upd (fun _=>none) b4 (some (cat cI (cnts ps nx.length k) ++ zrP j4 .any))⟩) (fun k=>k ≤ nx.length) (fun k=>nx.length - k) (0) ?_ ?_ ?_);exact Nat.zero_le _;((repeat' (first | exact Qg (by assumption) | exact Qi | refine Qf ?_ ?_ | refine Qh ?_)) <;> simp [-zg,-zd,↓Qb,↓Qa,go_sem,cnts_zero,hpl,li]);rintro k hk)
 | (refine ⟨k + 1,by omega,by first | omega | (simp;done) | (simp;omega),?_⟩;((repeat' (first | exact Qg (by assumption) | exact Qi | refine Qf ?_ ?_ | refine Qh ?_)) <;> simp [-zg,-zd,↓Qb,↓Qa,go_sem,hpl,li]))
 | (refine Qe (id:=2) (Qy (ι:=Nat × Hp) (fun q:Nat × Hp=>⟨(upd (upd (upd (upd (upd (upd (upd (fun _=>.any) 0 (li cL nx)) 3 (li cI ps)) 4 (.sl b4 1 0 nx.length c4)) 7 (.sl b7 1 0 nx.length c7)) 30 (li cL nx)) 31 (.int .i64 nx.length)) 32 (.int .i64 q.1)),q.2⟩) (fun q=>q.1 ≤ nx.length ∧ q.2 b4 = some (cat cI (cnts ps nx.length nx.length) ++ zrP j4 .any) ∧ q.2 b7 = some (cat cB (prtB (cycL nx) q.1) ++ zrP j7 .any)) (fun q=>nx.length - q.1) ((0,H1)) ?_ ?_ ?_);exact ⟨Nat.zero_le _,w4,w7⟩;((repeat' (first | exact Qg (by assumption) | exact Qi | refine Qf ?_ ?_ | refine Qh ?_)) <;> simp [-zg,-zd,↓Qb,↓Qa,go_sem,hpl,li]);rintro q ⟨g1,g2,g3⟩)
 | (refine ⟨(q.1 + 1,H9),⟨by dsimp only;omega,t4,t7⟩,by first | omega | (simp;done) | (simp;omega),?_⟩;((repeat' (first | exact Qg (by assumption) | exact Qi | refine Qf ?_ ?_ | refine Qh ?_)) <;> simp [-zg,-zd,↓Qb,↓Qa,go_sem,hpl,li]))
 | (refine Qe ?_)
 | (refine Qs ?_;simp [-zg,-zd,↓Qb,↓Qa,go_sem])
 | (refine Qr ?_;simp [-zg,-zd,↓Qb,↓Qa,go_sem])
 | (refine Qu ?_;simp [-zg,-zd,↓Qb,↓Qa,go_sem,Try.results161])
 | (intro hx;refine zA ?_)
 | (refine ⟨?_,?_⟩ <;> refine zA ?_)
 | (intro hx;constructor <;> intro hs)
 | (constructor <;> intro hs)
 | (refine ⟨?_,fun hs=>?_⟩;refine zA ?_)
 | (refine ⟨fun hs=>?_,?_⟩;rotate_left;refine zA ?_;rotate_left)))
@[go_sem] def zagv:Con:=.pure fun
  | [.list n_nx c_nx]=>((Is cL n_nx c_nx) ∧ (Xc (de cL c_nx)) ∧ (NextS (de cL c_nx)) ∧ ((de cL c_nx).length ≤ 1048576),fr 1 cB (cycL (de cL c_nx)))
  | _=>(False,.any)
theorem zaou:ConOk Try.prog 161 zagv:=by
  refine ⟨Qp Try.func161 (by decide) rfl,fun args h=>?_⟩
  revert h
  dsimp only
  split
  · intro h
    obtain ⟨⟨nx,rfl,rfl⟩,hx,hs,hn⟩:=h
    try simp only [Qm] at *
    exact ⟨cyclic_pure nx hx hs hn,by simp [go_sem]⟩
  · intro h
    exact h.elim
@[go_sem] def Γn1:FuncId → Con:=ext Γa23 161 zagv
theorem Zl:∀ g,ConOk Try.prog g (Γn1 g):=Qo Jl zaou


structure DQ where
  m:List Bool
  td:List Int
  b:Nat
  cp:Nat
  jl:List D
  H:Hp
structure DQm (b5 j5:Nat) (x:DQ):Prop where
  m5:x.H b5 = some (cat cB x.m ++ zrP j5 .any)
  mb:x.H x.b = some (cat cI x.td ++ x.jl)
  nb:¬ x.b = b5
  r1:x.td.length ≤ x.cp
  r2:x.cp ≤ x.td.length + x.jl.length
theorem last_cut {td:List Int} (h:0 < td.length):cat cI td = cat cI (td.take (td.length - 1)) ++ [D.int .i64 (nth td (td.length - 1))]:=by
  rw [zalg (by omega),Nat.sub_add_cancel h,List.take_length]
theorem mkd_nth {m:List Bool} {x:Int} (h:¬ nth m x.toNat = false):mkd m x:=by unfold mkd;simpa using h
set_option maxHeartbeats 4000000 in

theorem reach_pure (nx:List (List Int)) (ss:List Int) (hx:Xc nx) (hs:NextS nx) (hn:nx.length ≤ 1048576) (hS:∀ x,x ∈ ss → Nd nx x) (hl:ss.length ≤ 1048576):Pure Try.prog 181 [li cL nx,li cI ss] (fr 1 cB (rchL nx ss)):=by
  refine Pure.of_walk Try.func181 rfl (by simp [Try.f181]) (by simp [-zd,go_sem]) fun B hK=>?_
  have hrl:=zage nx ss
  all_goals (repeat' (first
 | refine Qt ?_
 | refine Qc (id:=0) Zl [] (by kernel_rfl) ?_;simp [-zg,-zd,↓Qb,↓Qa,go_sem]
 | refine Qc (id:=1) Zl [] (by kernel_rfl) ?_;simp [-zg,-zd,↓Qb,↓Qa,go_sem,Yk,(by omega:(nx.length:Int) ≤ 281474976710656),(by omega:(nx.length:Int) ≤ 9223372036854775807)]
 | refine Qc (id:=2) Zl [] (by kernel_rfl) ?_;simp [-zg,-zd,↓Qb,↓Qa,go_sem,hl];try ((refine Xk 5 rfl fun b5 c5 j5 q5 hc5 hj5=>?_);(refine Xk 6 rfl fun b6 c6 j6 q6 hc6 hj6=>?_);(dsimp only at q6);(have n65:¬ b6 = b5:=(by rintro rfl;simp [upd] at q6));(clear q5 q6);(refine Qx (fun H1=>H1 b5 = some (cat cB (Xr nx.length ss 0) ++ zrP j5 .any) ∧ H1 b6 = some (cat cI ss ++ zrP j6 .any)) ⟨by simp [upd,n65,zS n65,zacg],by simp [upd,n65,zS n65]⟩ fun H1 ⟨w5,w6⟩=>?_))
 | refine Qc (id:=3) Zl [] (by kernel_rfl) ?_;simp [-zg,-zd,↓Qb,↓Qa,go_sem]
 | refine Qc (id:=4) Zl [] (by kernel_rfl) ?_;simp [-zg,-zd,↓Qb,↓Qa,go_sem]
 | refine Qc (id:=5) Zl [] (by kernel_rfl) ?_;simp [-zg,-zd,↓Qb,↓Qa,go_sem,c20,Qj c20,zsP c20]
 | ((obtain ⟨p0,p1⟩:=hS (nth ss q.1) (Xe c20));(have hml:=zacr nx.length ss q.1);(have hst:=zach (n:=nx.length) c20));refine Qc (id:=6) Zl [] (by kernel_rfl) ?_;simp [-zg,-zd,↓Qb,↓Qa,go_sem,g2,hml,p0,p1,(show (nth ss q.1).toNat < nx.length by omega),(show (nth ss q.1).toNat < nx.length + j5 by omega),(show (nth ss q.1).toNat + 1 ≤ nx.length + j5 by omega)];try ((refine Qx (fun H1=>H1 b5 = some (cat cB (Xr nx.length ss (q.1 + 1)) ++ zrP j5 .any) ∧ H1 b6 = some (cat cI ss ++ zrP j6 .any)) ⟨by simp [upd,hst],by simp [upd,n65,zS n65,g3]⟩ fun H9 ⟨t5,t6⟩=>?_))
 | refine Qc (id:=7) Zl [] (by kernel_rfl) ?_;simp [-zg,-zd,↓Qb,↓Qa,go_sem,wrapS (k:=q.1) (by omega)]
 | refine Qc (id:=8) Zl [] (by kernel_rfl) ?_;simp [-zg,-zd,↓Qb,↓Qa,go_sem]
 | ((have ht:=c29);(have hbd:=g4.bd);(have hun:=un_le x.2.m);(have hml:=g4.ln);(obtain ⟨m5,mb,nb,r1,r2⟩:=g5);(have vl:x.2.td.length - 1 < x.2.td.length:=(by omega));(have vw:=Qv (x:=(x.2.td.length:Int) - 1) (by omega) (by omega));(have vt:((x.2.td.length:Int) - 1).toNat = x.2.td.length - 1:=(by omega));(have v0:(0:Int) ≤ (x.2.td.length:Int) - 1:=(by omega));(have v1:(1:Int) ≤ (x.2.td.length:Int):=(by omega));(have v2:(x.2.td.length:Int) - 1 < (x.2.td.length:Int):=(by omega));(have v3:x.2.td.length - 1 < x.2.td.length + x.2.jl.length:=(by omega));(have v5:x.2.td.length - 1 + 1 ≤ x.2.td.length + x.2.jl.length:=(by omega));(have v6:x.2.td.length - 1 ≤ x.2.cp:=(by omega));(have v7:(x.2.td.length:Int) - 1 ≤ (x.2.cp:Int):=(by omega));(have v8:x.2.td.length ≤ x.2.cp + 1:=(by omega));(have v9:(x.2.td.length:Int) - 1 ≤ (x.2.td.length:Int):=(by omega)));refine Qc (id:=9) Zl [] (by kernel_rfl) ?_;simp [-zg,-zd,↓Qb,↓Qa,go_sem,mb,vl,vw,vt,v0,v1,v2,v3,v5];try ((have hpop:=g4.pop (by omega));(have hnd:=g4.nd _ (Xe vl));(have hlc:=last_cut (td:=x.2.td) (by omega));(obtain ⟨v,hv⟩:∃ v,nth x.2.td (x.2.td.length - 1) = v:=⟨_,rfl⟩);(rw [hv] at hpop hnd hlc ⊢);(obtain ⟨hvn,hvm⟩:=hnd))
 | refine Qc (id:=10) Zl [] (by kernel_rfl) ?_;simp [-zg,-zd,↓Qb,↓Qa,go_sem,mb,vl,vw,vt,v0,v1,v2,v3,v5,v6,v7,v8,v9];try ((have hvl:v.toNat < nx.length:=(by have:=hvn.1;have:=hvn.2;omega));(have hrl2:=hs v.toNat hvl);(refine Qx (fun H1=>DQm b5 j5 ⟨x.2.m,x.2.td.take (x.2.td.length - 1),x.2.b,x.2.cp,.int .i64 v :: x.2.jl,H1⟩) ⟨m5,by show x.2.H x.2.b = _;rw [mb,hlc];simp,nb,by simp;omega,by simp;omega⟩ fun H3 hM=>?_))
 | refine Qc (id:=11) Zl [] (by kernel_rfl) ?_;simp [-zg,-zd,↓Qb,↓Qa,go_sem,hvn.1,hvn.2,hvl,Qj hvl,zsP hvl]
 | refine Qc (id:=12) Zl [] (by kernel_rfl) ?_;simp [-zg,-zd,↓Qb,↓Qa,go_sem]
 | ((have y5:=f3.m5);(have yb:=f3.mb);(have yn:=f3.nb);(have yr1:=f3.r1);(have yr2:=f3.r2);(have yl:=f2.ln);(have ybd:=f2.bd);(have yun:=un_le y.2.m));refine Qc (id:=13) Zl [] (by kernel_rfl) ?_;simp [-zg,-zd,↓Qb,↓Qa,go_sem,c47,Qj c47,zsP c47];try ((have hun2:=Zm hx hvn (Xe c47));(have hskip:=fun h=>f2.skip c47 h);(have hmark:=fun h=>f2.mark hx hvn f4 c47 h);(obtain ⟨u,hu⟩:∃ u,nth (nth nx v.toNat) y.1 = u:=⟨_,rfl⟩);(rw [hu] at hun2 hskip hmark ⊢);(obtain ⟨u0,u1⟩:=id hun2);(have hul:u.toNat < nx.length:=(by omega)))
 | refine Qc (id:=14) Zl [] (by kernel_rfl) ?_;simp [-zg,-zd,↓Qb,↓Qa,go_sem,y5,yl,u0,u1,hul,(show u.toNat < nx.length + j5 by omega),(show u.toNat + 1 ≤ nx.length + j5 by omega)]
 | refine Qc (id:=15) Zl [] (by kernel_rfl) ?_;simp [-zg,-zd,↓Qb,↓Qa,go_sem,y5,yl,u0,u1,hul,(show u.toNat < nx.length + j5 by omega),(show u.toNat + 1 ≤ nx.length + j5 by omega)]
 | refine Qc (id:=16) Zl [] (by kernel_rfl) ?_;simp [-zg,-zd,↓Qb,↓Qa,go_sem,yb,yn,zS yn,Xv,(show y.2.td.length ≤ y.2.td.length + y.2.jl.length by omega),yr2,(show y.2.td.length + 1 ≤ 9223372036854775807 by omega),(show 2 * (y.2.td.length + 1) * 8 ≤ 281474976710656 by omega),Xt];try ((refine Xk 6 rfl fun q' cp' jj' hq' hc' hd'=>?_);(dsimp only at hq');(have k5:¬ q' = b5:=(by rintro rfl;simp [upd,yn,zS yn] at hq'));(clear hq');(refine Qx (fun H2=>DQm b5 j5 ⟨y.2.m.set u.toNat true,y.2.td ++ [u],q',cp',zrP jj' .any,H2⟩) ⟨by simp [upd,k5,zS k5,yn,zS yn],by simp [upd,k5,zS k5,yn,zS yn],k5,by simpa using hc',by simpa using hd'⟩ fun H2 hH2=>?_);(have hfal:nth y.2.m u.toNat = false:=(by assumption));(have hD2:=hmark hfal);(have hus:=un_set (m:=y.2.m) (k:=u.toNat) (by rw [yl];exact hul) hfal);(have hmv:mkd (y.2.m.set u.toNat true) v:=(mk_set yl hun2 hvn).2 (.inr f4));(have hms:2 * un (y.2.m.set u.toNat true) + (y.2.td ++ [u]).length + 1 ≤ 2 * un x.2.m + x.2.td.length:=(by simp only [List.length_append,List.length_singleton];omega)))
 | refine Qc (id:=17) Zl [] (by kernel_rfl) ?_;simp [-zg,-zd,↓Qb,↓Qa,go_sem,wrapS (k:=y.1) (by omega)]
 | ((obtain ⟨a9,m9,td9,b9,cp9,jl9,H9⟩:=x);(dsimp only at *);(have htd:td9 = []:=(by simpa using c29));(subst htd);(have hfin:=g4.done hx hS);(subst hfin);(have m5:=g5.m5);(refine Je 5 (b:=b5) (all:=cat cB (rchL nx ss) ++ zrP j5 .any) rfl m5 (by omega) (by simp [Qz,hrl]) (by simp [Qz,hrl];omega) ?_));refine Qc (id:=18) Zl [] (by kernel_rfl) ?_;simp [-zg,-zd,↓Qb,↓Qa,go_sem,hrl,Jt (f:=cB) (rchL nx ss) (zrP j5 .any) (n:=nx.length) hrl.symm]
 | refine Qd (c:=.tmp 20) ?_;simp [-zg,-zd,↓Qb,↓Qa,go_sem];try first | (refine ⟨?_,?_⟩ <;> refine zA ?_) | (refine ⟨fun c20=>?_,fun c20=>?_⟩ <;> (try simp [B_iff,B_not] at c20))
 | refine Qd (c:=.tmp 29) ?_;simp [-zg,-zd,↓Qb,↓Qa,go_sem];try first | (refine ⟨?_,?_⟩ <;> refine zA ?_) | (refine ⟨fun c29=>?_,fun c29=>?_⟩ <;> (try simp [B_iff,B_not] at c29))
 | refine Qd (c:=.tmp 47) ?_;simp [-zg,-zd,↓Qb,↓Qa,go_sem];try first | (refine ⟨?_,?_⟩ <;> refine zA ?_) | (refine ⟨fun c47=>?_,fun c47=>?_⟩ <;> (try simp [B_iff,B_not] at c47))
 | refine Qd (c:=.tmp 54) ?_;simp [-zg,-zd,↓Qb,↓Qa,go_sem];try first | (refine ⟨?_,?_⟩ <;> refine zA ?_) | (refine ⟨fun c54=>?_,fun c54=>?_⟩ <;> (try simp [B_iff,B_not] at c54))
 | (refine Qe (id:=0) (Qy (ι:=Nat × Hp) (fun q:Nat × Hp=>⟨(upd (upd (upd (upd (upd (upd (upd (fun _=>.any) 0 (li cL nx)) 1 (li cI ss)) 5 (.sl b5 1 0 nx.length c5)) 6 (.sl b6 1 0 ss.length c6)) 17 (li cI ss)) 18 (.int .i64 ss.length)) 19 (.int .i64 q.1)),q.2⟩) (fun q=>q.1 ≤ ss.length ∧ q.2 b5 = some (cat cB (Xr nx.length ss q.1) ++ zrP j5 .any) ∧ q.2 b6 = some (cat cI ss ++ zrP j6 .any)) (fun q=>ss.length - q.1) ((0,H1)) ?_ ?_ ?_);exact ⟨Nat.zero_le _,w5,w6⟩;((repeat' (first | exact Qg (by assumption) | exact Qi | refine Qf ?_ ?_ | refine Qh ?_)) <;> simp [-zg,-zd,↓Qb,↓Qa,go_sem]);rintro q ⟨g1,g2,g3⟩)
 | (refine ⟨(q.1 + 1,H9),⟨by dsimp only;omega,t5,t6⟩,by first | omega | (simp;done) | (simp;omega),?_⟩;((repeat' (first | exact Qg (by assumption) | exact Qi | refine Qf ?_ ?_ | refine Qh ?_)) <;> simp [-zg,-zd,↓Qb,↓Qa,go_sem]))
 | (refine Qe (id:=2) (Qy (ι:=Int × DQ) (fun x:Int × DQ=>⟨(upd (upd (upd (upd (fun _=>.any) 0 (li cL nx)) 1 (li cI ss)) 5 (.sl b5 1 0 nx.length c5)) 6 (.sl x.2.b 1 0 x.2.td.length x.2.cp)),x.2.H⟩) (fun x=>DI nx ss x.1 (nth nx x.1.toNat).length x.2.m x.2.td ∧ DQm b5 j5 x.2) (fun x=>2 * un x.2.m + x.2.td.length) ((-1,⟨Xr nx.length ss ss.length,ss,b6,c6,zrP j6 .any,q.2⟩)) ?_ ?_ ?_);exact (by (have e0:q.1 = ss.length:=by omega);(rw [e0] at g2);exact ⟨(DI.start hS).none,⟨g2,g3,n65,hc6,by simp;omega⟩⟩);((repeat' (first | exact Qg (by assumption) | exact Qi | refine Qf ?_ ?_ | refine Qh ?_)) <;> simp [-zg,-zd,↓Qb,↓Qa,go_sem]);rintro x ⟨g4,g5⟩)
 | (refine ⟨(v,⟨y.2.m,y.2.td,y.2.b,y.2.cp,y.2.jl,y.2.H⟩),⟨by dsimp only;(have e9:y.1 = (nth nx v.toNat).length:=by omega);rw [← e9];exact f2,⟨f3.m5,f3.mb,f3.nb,f3.r1,f3.r2⟩⟩,by first | omega | (simp;done) | (simp;omega),?_⟩;((repeat' (first | exact Qg (by assumption) | exact Qi | refine Qf ?_ ?_ | refine Qh ?_)) <;> simp [-zg,-zd,↓Qb,↓Qa,go_sem]))
 | (refine Qe (id:=4) (Qy (ι:=Nat × DQ) (fun y:Nat × DQ=>⟨(upd (upd (upd (upd (upd (upd (upd (fun _=>.any) 0 (li cL nx)) 1 (li cI ss)) 5 (.sl b5 1 0 nx.length c5)) 6 (.sl y.2.b 1 0 y.2.td.length y.2.cp)) 44 (li cI (nth nx v.toNat))) 45 (.int .i64 (nth nx v.toNat).length)) 46 (.int .i64 y.1)),y.2.H⟩) (fun y=>y.1 ≤ (nth nx v.toNat).length ∧ DI nx ss v y.1 y.2.m y.2.td ∧ DQm b5 j5 y.2 ∧ mkd y.2.m v ∧ 2 * un y.2.m + y.2.td.length + 1 ≤ 2 * un x.2.m + x.2.td.length) (fun y=>(nth nx v.toNat).length - y.1) ((0,⟨x.2.m,x.2.td.take (x.2.td.length - 1),x.2.b,x.2.cp,.int .i64 v :: x.2.jl,H3⟩)) ?_ ?_ ?_);exact ⟨Nat.zero_le _,hpop,hM,hvm,by simp;omega⟩;((repeat' (first | exact Qg (by assumption) | exact Qi | refine Qf ?_ ?_ | refine Qh ?_)) <;> simp [-zg,-zd,↓Qb,↓Qa,go_sem,(show min (x.2.td.length - 1) x.2.td.length = x.2.td.length - 1 by omega)]);rintro y ⟨f1,f2,f3,f4,f5⟩)
 | (refine ⟨(y.1 + 1,⟨y.2.m.set u.toNat true,y.2.td ++ [u],q',cp',zrP jj' .any,H2⟩),⟨by dsimp only;omega,hD2,hH2,hmv,hms⟩,by first | omega | (simp;done) | (simp;omega),?_⟩;((repeat' (first | exact Qg (by assumption) | exact Qi | refine Qf ?_ ?_ | refine Qh ?_)) <;> simp [-zg,-zd,↓Qb,↓Qa,go_sem,]))
 | (refine Qe ?_)
 | (refine Qs ?_;simp [-zg,-zd,↓Qb,↓Qa,go_sem])
 | (refine Qr ?_;simp [-zg,-zd,↓Qb,↓Qa,go_sem])
 | (refine Qu ?_;simp [-zg,-zd,↓Qb,↓Qa,go_sem,Try.results181])
 | (intro hx;refine zA ?_)
 | (refine ⟨?_,?_⟩ <;> refine zA ?_)
 | (intro hx;constructor <;> intro hs)
 | (constructor <;> intro hs)
 | (refine ⟨?_,fun hs=>?_⟩;refine zA ?_)
 | (refine ⟨fun hs=>?_,?_⟩;rotate_left;refine zA ?_;rotate_left)
 | (refine ⟨(y.1 + 1,⟨y.2.m,y.2.td,y.2.b,y.2.cp,y.2.jl,y.2.H⟩),⟨by dsimp only;omega,hskip (mkd_nth (by simp_all)),⟨f3.m5,f3.mb,f3.nb,f3.r1,f3.r2⟩,f4,f5⟩,by dsimp only;omega,?_⟩;((repeat' (first | exact Qg (by assumption) | exact Qi | refine Qf ?_ ?_ | refine Qh ?_)) <;> simp [-zg,-zd,go_sem]))))
@[go_sem] def zaie:Con:=.pure fun
  | [.list n_nx c_nx,.list n_ss c_ss]=>(((Is cL n_nx c_nx) ∧ (Is cI n_ss c_ss) ∧ (Xc (de cL c_nx)) ∧ (NextS (de cL c_nx)) ∧ ((de cL c_nx).length ≤ 1048576) ∧ (∀ x,x ∈ (de cI c_ss) → Nd (de cL c_nx) x) ∧ ((de cI c_ss).length ≤ 1048576)),fr 1 cB (rchL (de cL c_nx) (de cI c_ss)))
  | _=>(False,.any)
theorem reach_pureC_ok:ConOk Try.prog 181 zaie:=by
  refine ⟨Qp Try.func181 (by decide) rfl,fun args h=>?_⟩
  revert h
  dsimp only
  split
  · intro h
    obtain ⟨⟨nx,rfl,rfl⟩,⟨ss,rfl,rfl⟩,hx,hs,hn,hS,hl⟩:=h
    try simp only [Qm] at *
    exact ⟨reach_pure nx ss hx hs hn hS hl,by simp [go_sem]⟩
  · intro h
    exact h.elim
@[go_sem] def Γn2:FuncId → Con:=ext Γn1 181 zaie
theorem Ul:∀ g,ConOk Try.prog g (Γn2 g):=Qo Zl reach_pureC_ok


theorem Xg (l:List D) (i:Nat) (d:D):stSeg l i [d] = l.set i d:=rfl
theorem make_oN (n:Nat):makeD [.nil] n = cat oN (zrP n []):=by
  rw [oN_rep,Vf]
theorem Vi {xs:List (List Int)} {junk:List D}:(cat oN xs ++ junk).length = xs.length + junk.length:=by rw [List.length_append,Qz];omega
theorem oN_add {n:Nat} {es:List Tr4} (hr:InRng n es) {k:Nat} (h:k < es.length) (junk:List D):(cat oN (nxE n es k) ++ junk).set (nth es k).1.toNat (.fr 1 ((nth (nxE n es k) (nth es k).1.toNat).length + 1) (cat cI (nth (nxE n es k) (nth es k).1.toNat ++ [(nth es k).2.2.2]))) = cat oN (nxE n es (k + 1)) ++ junk:=by
  have hk:=(hr k h).1
  have hl:=Xp n es k (by omega)
  have:=oN_set (xs:=nxE n es k) (i:=(nth es k).1.toNat) (junk:=junk) (y:=nth (nxE n es k) (nth es k).1.toNat ++ [(nth es k).2.2.2]) (by omega)
  rw [Yb h,addE,← this,Wf (by simp)]
  simp
theorem oN_addD {n:Nat} {es:List Tr4} (hr:InRng n es) {k:Nat} (h:k < es.length) (hn:¬ (nth es k).2.2.2 ∈ nth (nxD n es k) (nth es k).1.toNat) (junk:List D):(cat oN (nxD n es k) ++ junk).set (nth es k).1.toNat (.fr 1 ((nth (nxD n es k) (nth es k).1.toNat).length + 1) (cat cI (nth (nxD n es k) (nth es k).1.toNat ++ [(nth es k).2.2.2]))) = cat oN (nxD n es (k + 1)) ++ junk:=by
  have hk:=(hr k h).1
  have hl:=Yj n es k (by omega)
  have:=oN_set (xs:=nxD n es k) (i:=(nth es k).1.toNat) (junk:=junk) (y:=nth (nxD n es k) (nth es k).1.toNat ++ [(nth es k).2.2.2]) (by omega)
  rw [zama h,addD,if_neg hn,addE,← this,Wf (by simp)]
  simp
theorem oN_cell {xs:List (List Int)} {i:Nat} (h:i < xs.length) (hn:¬ nth xs i = []) (junk:List D):(cat oN xs ++ junk)[i]? = some (.fr 1 (nth xs i).length (cat cI (nth xs i))):=by
  have h1:i < (cat oN xs ++ junk).length:=by rw [Vi];omega
  have:=oN_get h junk
  rw [List.getD_eq_getElem?_getD,List.getElem?_eq_getElem h1,Option.getD_some] at this
  rw [List.getElem?_eq_getElem h1,this,Wf hn]
set_option maxHeartbeats 4000000 in

theorem next_pure (a:List Int) (b:List Bool) (c:List Tr4) (hr:InRng b.length c) (hb:b.length ≤ 1048576) (hc:c.length ≤ 1048576):Pure Try.prog 76 [.st [li cI a,li cB b,li cT c]] (fr 1 oN (nxE b.length c c.length)):=by
  refine Pure.of_walk Try.func76 rfl (by simp [Try.f76]) (by simp [-zd,go_sem]) fun B hK=>?_
  (repeat' (first
 | refine Qt ?_
 | refine Qc (id:=0) Ul [] (by kernel_rfl) ?_;simp [-zg,-zd,↓Qb,↓Qa,go_sem];try (refine Xa hK 1 ?_;simp [go_sem])
 | refine Qc (id:=1) Ul [] (by kernel_rfl) ?_;simp [-zg,-zd,↓Qb,↓Qa,go_sem,make_oN,(by omega:24 * (b.length:Int) ≤ 281474976710656),(by omega:(b.length:Int) ≤ 281474976710656),(by omega:(b.length:Int) ≤ 9223372036854775807)];try ((refine Xk 3 rfl fun b3 c3 j3 q3 hc3 hj3=>?_);(clear q3);(refine Qx (fun H1=>H1 b3 = some (cat oN (nxE b.length c 0) ++ zrP j3 D.any)) (by simp [upd,zaih]) fun H1 w3=>?_))
 | refine Qc (id:=2) Ul [] (by kernel_rfl) ?_;simp [-zg,-zd,↓Qb,↓Qa,go_sem]
 | refine Qc (id:=3) Ul [] (by kernel_rfl) ?_;simp [-zg,-zd,↓Qb,↓Qa,go_sem]
 | refine Qc (id:=4) Ul [] (by kernel_rfl) ?_;simp [-zg,-zd,↓Qb,↓Qa,go_sem,c14,Qj c14,zsP c14];try ((refine Xa hK 5 ?_);(simp [go_sem]);(obtain ⟨⟨p0,p1⟩,p2,p3⟩:=hr q.1 c14);(have hnl:=Xp b.length c q.1 (by omega));(have hrow:=nxE_row hr q.1 (by omega) (nth c q.1).1.toNat);(have hfl:(nth c q.1).1.toNat < b.length:=(by omega));(have hadd:=oN_add hr c14 (zrP j3 D.any));(have hgt:=oN_get (xs:=nxE b.length c q.1) (i:=(nth c q.1).1.toNat) (by omega) (zrP j3 D.any));(have hcl:=Vi (xs:=nxE b.length c q.1) (junk:=zrP j3 D.any));(rw [List.length_replicate] at hcl);(by_cases he:nth (nxE b.length c q.1) (nth c q.1).1.toNat = []);(rw [he,zalz] at hgt);(rw [he] at hadd);(obtain ⟨cells,hce⟩:∃ cells,cat oN (nxE b.length c q.1) ++ zrP j3 D.any = cells:=⟨_,rfl⟩);(rw [hce] at hgt hcl g2 hadd);(have hadd1:cells.set (nth c q.1).1.toNat (.fr 1 1 [.int .i64 (nth c q.1).2.2.2]) = cat oN (nxE b.length c (q.1 + 1)) ++ zrP j3 D.any:=hadd);rotate_left;(have hcell:=oN_cell (by omega) he (zrP j3 D.any));(refine Zu b3 (nth c q.1).1.toNat g2 hcell fun rb rcp rj q8 hrc hrj=>?_);(dsimp only at q8);(have rn:¬ rb = b3:=(by rintro rfl;rw [g2] at q8;cases q8));(clear q8);(have hset2:∀ z,((cat oN (nxE b.length c q.1) ++ zrP j3 D.any).set (nth c q.1).1.toNat (.sl rb 1 0 (nth (nxE b.length c q.1) (nth c q.1).1.toNat).length rcp)).set (nth c q.1).1.toNat z = (cat oN (nxE b.length c q.1) ++ zrP j3 D.any).set (nth c q.1).1.toNat z:=fun z=>List.set_set ..);(have hgt2:((cat oN (nxE b.length c q.1) ++ zrP j3 D.any).set (nth c q.1).1.toNat (.sl rb 1 0 (nth (nxE b.length c q.1) (nth c q.1).1.toNat).length rcp)).getD (nth c q.1).1.toNat D.any = .sl rb 1 0 (nth (nxE b.length c q.1) (nth c q.1).1.toNat).length rcp:=(by rw [List.getD_eq_getElem?_getD,List.getElem?_set_self (by rw [Vi];omega)];rfl));(have hadd2:=hadd);(rw [← hset2] at hadd2);(have hcl2:((cat oN (nxE b.length c q.1) ++ zrP j3 D.any).set (nth c q.1).1.toNat (.sl rb 1 0 (nth (nxE b.length c q.1) (nth c q.1).1.toNat).length rcp)).length = (nxE b.length c q.1).length + j3:=(by rw [List.length_set];exact hcl));(obtain ⟨cells,hce⟩:∃ cells,(cat oN (nxE b.length c q.1) ++ zrP j3 D.any).set (nth c q.1).1.toNat (.sl rb 1 0 (nth (nxE b.length c q.1) (nth c q.1).1.toNat).length rcp) = cells:=⟨_,rfl⟩);(refine Qx (fun H4=>H4 b3 = some cells ∧ H4 rb = some (cat cI (nth (nxE b.length c q.1) (nth c q.1).1.toNat) ++ zrP rj D.any)) ⟨by simp [upd,rn,zS rn,← hce],by simp [upd,rn,zS rn]⟩ fun H4 ⟨g4,hrb⟩=>?_);(rw [hce] at hgt2 hadd2 hcl2))
 | refine Xx (id:=5) Ul mixed [(b3,cells)] [] [3,5] (by kernel_rfl) (by kernel_rfl) (by simp [-zg,-zd,↓Qb,↓Qa,go_sem,Xg,g4,hrb,rn,zS rn,hgt2,hcl2,p0,p1,p2,p3,hnl,hfl,Xv,hadd2,(show rcp ≤ (nth (nxE b.length c q.1) (nth c q.1).1.toNat).length + rj by omega),(show (nth c q.1).1.toNat < b.length + j3 by omega),(show (nth c q.1).1.toNat + 1 ≤ b.length + j3 by omega),(show (nth (nxE b.length c q.1) (nth c q.1).1.toNat).length + 1 ≤ 9223372036854775807 by omega),(show (nth (nxE b.length c q.1) (nth c q.1).1.toNat).length ≤ 9223372036854775806 by omega),(show 2 * ((nth (nxE b.length c q.1) (nth c q.1).1.toNat).length + 1) * 8 ≤ 281474976710656 by omega),Xt]) (by simp [-zg,-zd,↓Qb,↓Qa,go_sem,Xg,g4,hrb,rn,zS rn,hgt2,hcl2,p0,p1,p2,p3,hnl,hfl,Xv,hadd2,(show rcp ≤ (nth (nxE b.length c q.1) (nth c q.1).1.toNat).length + rj by omega),(show (nth c q.1).1.toNat < b.length + j3 by omega),(show (nth c q.1).1.toNat + 1 ≤ b.length + j3 by omega),(show (nth (nxE b.length c q.1) (nth c q.1).1.toNat).length + 1 ≤ 9223372036854775807 by omega),(show (nth (nxE b.length c q.1) (nth c q.1).1.toNat).length ≤ 9223372036854775806 by omega),(show 2 * ((nth (nxE b.length c q.1) (nth c q.1).1.toNat).length + 1) * 8 ≤ 281474976710656 by omega),Xt]) ?_;simp [-zg,-zd,↓Qb,↓Qa,go_sem,Xg,g4,hrb,rn,zS rn,hgt2,hcl2,p0,p1,p2,p3,hnl,hfl,Xv,hadd2,(show rcp ≤ (nth (nxE b.length c q.1) (nth c q.1).1.toNat).length + rj by omega),(show (nth c q.1).1.toNat < b.length + j3 by omega),(show (nth c q.1).1.toNat + 1 ≤ b.length + j3 by omega),(show (nth (nxE b.length c q.1) (nth c q.1).1.toNat).length + 1 ≤ 9223372036854775807 by omega),(show (nth (nxE b.length c q.1) (nth c q.1).1.toNat).length ≤ 9223372036854775806 by omega),(show 2 * ((nth (nxE b.length c q.1) (nth c q.1).1.toNat).length + 1) * 8 ≤ 281474976710656 by omega),Xt];try ((refine Qx (fun H1=>H1 b3 = some (cat oN (nxE b.length c (q.1 + 1)) ++ zrP j3 D.any)) (by first | (simp [upd,Xg,rn,zS rn,hadd2];done) | (simp [upd,Xg,hadd1];done)) fun H9 t3=>?_))
 | refine Xx (id:=5) Ul mixed [(b3,cells)] [] [3,5] (by kernel_rfl) (by kernel_rfl) (by simp [-zg,-zd,↓Qb,↓Qa,go_sem,Xg,g2,hgt,hcl,p0,p1,p2,p3,hnl,hfl,hadd1,(show (nth c q.1).1.toNat < b.length + j3 by omega),(show (nth c q.1).1.toNat + 1 ≤ b.length + j3 by omega),(show makeD [D.int .i64 0] 1 = [D.int .i64 0] from rfl)]) (by simp [-zg,-zd,↓Qb,↓Qa,go_sem,Xg,g2,hgt,hcl,p0,p1,p2,p3,hnl,hfl,hadd1,(show (nth c q.1).1.toNat < b.length + j3 by omega),(show (nth c q.1).1.toNat + 1 ≤ b.length + j3 by omega),(show makeD [D.int .i64 0] 1 = [D.int .i64 0] from rfl)]) ?_;simp [-zg,-zd,↓Qb,↓Qa,go_sem,Xg,g2,hgt,hcl,p0,p1,p2,p3,hnl,hfl,hadd1,(show (nth c q.1).1.toNat < b.length + j3 by omega),(show (nth c q.1).1.toNat + 1 ≤ b.length + j3 by omega),(show makeD [D.int .i64 0] 1 = [D.int .i64 0] from rfl)];try ((refine Qx (fun H1=>H1 b3 = some (cat oN (nxE b.length c (q.1 + 1)) ++ zrP j3 D.any)) (by first | (simp [upd,Xg,rn,zS rn,hadd2];done) | (simp [upd,Xg,hadd1];done)) fun H9 t3=>?_))
 | refine Qc (id:=6) Ul [] (by kernel_rfl) ?_;simp [-zg,-zd,↓Qb,↓Qa,go_sem,wrapS (k:=q.1) (by omega)]
 | ((obtain ⟨kx,Hx⟩:=q);(dsimp only at *);(obtain rfl:kx = c.length:=by omega);(have hnl:=Xp b.length c c.length (Nat.le_refl _));(refine Je 3 (b:=b3) (all:=cat oN (nxE b.length c c.length) ++ zrP j3 D.any) rfl g2 (by omega) (by rw [Vi];simp;omega) (by rw [Vi];simp;omega) ?_));refine Qc (id:=7) Ul [] (by kernel_rfl) ?_;simp [-zg,-zd,↓Qb,↓Qa,go_sem,hnl,Jt (f:=oN) (nxE b.length c c.length) (zrP j3 D.any) (n:=b.length) hnl.symm]
 | refine Qd (c:=.tmp 14) ?_;simp [-zg,-zd,↓Qb,↓Qa,go_sem];try first | (refine ⟨?_,?_⟩ <;> refine zA ?_) | (refine ⟨fun c14=>?_,fun c14=>?_⟩ <;> (try simp [B_iff,B_not] at c14))
 | (refine Qe (id:=0) (Qy (ι:=Nat × Hp) (fun q:Nat × Hp=>⟨(upd (upd (upd (upd (upd (fun _=>.any) 1 (.pd [li cI a,li cB b,li cT c])) 3 (.sl b3 1 0 b.length c3)) 11 (li cT c)) 12 (.int .i64 c.length)) 13 (.int .i64 q.1)),q.2⟩) (fun q=>q.1 ≤ c.length ∧ q.2 b3 = some (cat oN (nxE b.length c q.1) ++ zrP j3 D.any)) (fun q=>c.length - q.1) ((0,H1)) ?_ ?_ ?_);exact ⟨Nat.zero_le _,w3⟩;((repeat' (first | exact Qg (by assumption) | exact Qi | refine Qf ?_ ?_ | refine Qh ?_)) <;> simp [-zg,-zd,↓Qb,↓Qa,go_sem]);rintro q ⟨g1,g2⟩)
 | (refine ⟨(q.1 + 1,H9),⟨by dsimp only;omega,t3⟩,by first | omega | (simp;done) | (simp;omega),?_⟩;((repeat' (first | exact Qg (by assumption) | exact Qi | refine Qf ?_ ?_ | refine Qh ?_)) <;> simp [-zg,-zd,↓Qb,↓Qa,go_sem]))
 | (refine Qe ?_)
 | (refine Qs ?_;simp [-zg,-zd,↓Qb,↓Qa,go_sem])
 | (refine Qr ?_;simp [-zg,-zd,↓Qb,↓Qa,go_sem])
 | (refine Qu ?_;simp [-zg,-zd,↓Qb,↓Qa,go_sem,Try.results76])
 | (intro hx;refine zA ?_)
 | (refine ⟨?_,?_⟩ <;> refine zA ?_)
 | (intro hx;constructor <;> intro hs)
 | (constructor <;> intro hs)
 | (refine ⟨?_,fun hs=>?_⟩;refine zA ?_)
 | (refine ⟨fun hs=>?_,?_⟩;rotate_left;refine zA ?_;rotate_left)))
@[go_sem] def zamd:Con:=.pure fun
  | [.st [.list n_a c_a,.list n_b c_b,.list n_c c_c]]=>((Is cI n_a c_a) ∧ (Is cB n_b c_b) ∧ (Is cT n_c c_c) ∧ (InRng (de cB c_b).length (de cT c_c)) ∧ ((de cB c_b).length ≤ 1048576) ∧ ((de cT c_c).length ≤ 1048576),fr 1 oN (nxE (de cB c_b).length (de cT c_c) (de cT c_c).length))
  | _=>(False,.any)
theorem next_pureC_ok:ConOk Try.prog 76 zamd:=by
  refine ⟨Qp Try.func76 (by decide) rfl,fun args h=>?_⟩
  revert h
  dsimp only
  split
  · intro h
    obtain ⟨⟨a,rfl,rfl⟩,⟨b,rfl,rfl⟩,⟨c,rfl,rfl⟩,hr,hb,hc⟩:=h
    try simp only [Qm] at *
    exact ⟨next_pure a b c hr hb hc,by simp [go_sem]⟩
  · intro h
    exact h.elim
@[go_sem] def Γn3:FuncId → Con:=ext Γn2 76 zamd
theorem Vq:∀ g,ConOk Try.prog g (Γn3 g):=Qo Ul next_pureC_ok

end
end Go.Proofs.Ytkjimmkemnmajaa.Vm

