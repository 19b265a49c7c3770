import Derived.Test.YtiilmjojffjhlaaGreatDoorA3
import Derived.Test.YtiilmjojffjhlaaGreatDoorJ10
/-
  impl.cyclic. No conditions.
-/
namespace Go.Proofs.YtiilmjojffjhlaaGreatDoor.Vm
open Go
open Nat renaming sub_pos_of_lt → zsP
open List renaming getD_eq_getElem?_getD → zg,drop_one → zd,replicate → zrP
noncomputable section
set_option linter.unusedVariables false
set_option linter.unusedSimpArgs false
set_option maxRecDepth 200000

@[go_sem] def Γn1:FuncId → Con:=Γa23
theorem Γn1_ok:∀ g,ConOk Tryz.prog g (Γn1 g):=Γa23_ok

theorem take_snocN {xs:List Int} {k:Nat} (h:k < xs.length):cat cI (xs.take k) ++ [.int .i64 (nth xs k)] = cat cI (xs.take (k + 1)):=by
  rw [show cat cI (xs.take k) ++ [D.int .i64 (nth xs k)] = cat cI (xs.take k ++ [nth xs k]) by rw [Xk,Xg];rfl,List.take_succ_eq_append_getElem h,Xc h]

@[go_sem] def Γn2:FuncId → Con:=Γn1
theorem Γn2_ok:∀ g,ConOk Tryz.prog g (Γn2 g):=Γn1_ok

theorem zaty (l:List D) (i:Nat) (d:D):stSeg l i [d] = l.set i d:=rfl
theorem make_oN (n:Nat):makeD [.nil] n = cat oN (zrP n []):=by
  rw [oN_rep,Zs]
theorem oN_clen {xs:List (List Int)} {junk:List D}:(cat oN xs ++ junk).length = xs.length + junk.length:=by rw [List.length_append,Qv];omega
theorem oN_cell {xs:List (List Int)} {i:Nat} (h:i < xs.length) (hn:¬ nth xs i = []) (junk:List D):(cat oN xs ++ junk)[i]? = some (.fr 1 (nth xs i).length (cat cI (nth xs i))):=by
  have h1:i < (cat oN xs ++ junk).length:=by rw [oN_clen];omega
  have:=oN_get h junk
  rw [List.getD_eq_getElem?_getD,List.getElem?_eq_getElem h1,Option.getD_some] at this
  rw [List.getElem?_eq_getElem h1,this,zamm hn]
@[go_sem] def Γn3:FuncId → Con:=Γn2
theorem Γn3_ok:∀ g,ConOk Tryz.prog g (Γn3 g):=Γn2_ok

@[go_sem] def Γn4:FuncId → Con:=Γn3
theorem Zn:∀ g,ConOk Tryz.prog g (Γn4 g):=Γn3_ok

theorem zaqd (n:Nat) (ss:List Int):∀ k,k ≤ ss.length → Zj n ss k = smP (roots n (ss.take k))
  | 0,_=>by rw [zajb];simp [roots,smP]
  | k + 1,h=>by rw [← zajc (by omega),zaqd n ss k (by omega),roots_take (by omega),smP_set _ _ (v:=-1) (by omega)]
theorem marksK_fresh {nx:List (List Int)} {ss:List Int} (hS:Starts nx.length ss) {k:Nat} (h:k < ss.length):nth (Zj nx.length ss k) (nth ss k).toNat = false:=by
  have hs:∀ x,x ∈ ss → Nd nx x:=hS.1
  have:=marksK_mk hs k (by omega) (nth ss k) (hs _ (Xz h))
  cases hb:nth (Zj nx.length ss k) (nth ss k).toNat with
  | false=>rfl
  | true =>
    exfalso
    have hm:=this.1 hb
    rw [zaqb] at hm
    obtain ⟨i,h1,h2⟩:=hm
    rw [List.length_take] at h1
    rw [nth_take (by omega),Xc (by omega),Xc h] at h2
    have:=(List.nodup_iff_pairwise_ne.1 hS.2)
    rw [List.pairwise_iff_getElem] at this
    exact this i k (by omega) h (by omega) h2
structure QM5 (b5:Nat) (j5:List D) (x:SQ):Prop where
  m5:x.H b5 = some (cat cB (smP x.s.1) ++ j5)
  mq:x.H x.q = some (cat cI x.s.2 ++ zrP x.j .any)
  n5:¬ x.q = b5
  r1:x.s.2.length ≤ x.cp
  r2:x.cp ≤ x.s.2.length + x.j
set_option maxHeartbeats 2000000 in

theorem l7Reach_pure (nx:List (List Int)) (ss:List Int) (hx:Zr nx) (hl:NextS nx) (hn:nx.length ≤ 1048576) (hS:Starts nx.length ss) (hsl:ss.length ≤ nx.length):Pure Tryz.prog 138 [li cL nx,li cI ss] (fr 1 cI (bfsE nx ss).2):=by
  refine Pure.of_walk Tryz.func138 rfl (by simp [Tryz.f138]) (by simp [-zd,go_sem]) fun B hK=>?_
  (repeat' (first
 | refine Qt ?_
 | refine Qc (id:=1) Zn [] (by kernel_rfl) ?_;simp [-zg,-zd,↓Qb,↓Qa,go_sem,make_cB,(by omega:(nx.length:Int) ≤ 281474976710656),(by omega:(nx.length:Int) ≤ 9223372036854775807)]
 | refine Qc (id:=3) Zn [] (by kernel_rfl) ?_;simp [-zg,-zd,↓Qb,↓Qa,go_sem];try ((refine Zb 5 rfl fun b5 c5 j5 q5 hc5 hj5=>?_);(clear q5);(refine Qp (fun H1=>H1 b5 = some (cat cB (Zj nx.length ss 0) ++ zrP j5 D.any)) (by simp [upd,zajb]) fun H1 w5=>?_))
 | ((obtain ⟨p0,p1⟩:=hS.1 (nth ss q.1) (Xz c18));(have hml:=zakz nx.length ss q.1);(have hst:=zajc (n:=nx.length) c18);(have hfr:=marksK_fresh hS c18);(have hts:=take_snocN c18));refine Qc (id:=6) Zn [] (by kernel_rfl) ?_;simp [-zg,-zd,↓Qb,↓Qa,go_sem,c18,Qk c18,zsP c18,g2,hml,p0,p1,hfr,(show (nth ss q.1).toNat < nx.length by omega),(show (nth ss q.1).toNat < nx.length + j5 by omega),(show (nth ss q.1).toNat + 1 ≤ nx.length + j5 by omega)]
 | refine Qc (id:=7) Zn [] (by kernel_rfl) ?_;simp [-zg,-zd,↓Qb,↓Qa,go_sem,c18,Qk c18,zsP c18,g2,hml,p0,p1,(show (nth ss q.1).toNat < nx.length by omega),(show (nth ss q.1).toNat < nx.length + j5 by omega),(show (nth ss q.1).toNat + 1 ≤ nx.length + j5 by omega)];try ((refine Qp (fun H1=>H1 b5 = some (cat cB (Zj nx.length ss (q.1 + 1)) ++ zrP j5 D.any)) (by simp [upd,hst]) fun H9 t5=>?_))
 | refine Qc (id:=8) Zn [] (by kernel_rfl) ?_;simp [-zg,-zd,↓Qb,↓Qa,go_sem,c18,Qk c18,zsP c18,hts,(show q.1 ≤ 9223372036854775806 by omega),(show 2 * (q.1 + 1) * 8 ≤ 281474976710656 by omega),(show q.1 + 1 ≤ 9223372036854775807 by omega)]
 | refine Qc (id:=5) Zn [] (by kernel_rfl) ?_;simp [-zg,-zd,↓Qb,↓Qa,go_sem,wrapS (k:=q.1) (by omega)]
 | ((obtain ⟨kx,H2⟩:=q);(dsimp only at *);(obtain rfl:kx = ss.length:=by omega));refine Qc (id:=9) Zn [] (by kernel_rfl) ?_;simp [-zg,-zd,↓Qb,↓Qa,go_sem];try ((refine Zb 6 rfl fun q cq jq hq hcq hdq=>?_);(dsimp only at hq);(have n5:¬ q = b5:=(by rintro rfl;rw [g2] at hq;cases hq));(clear hq);(have hmr:=zaqd nx.length ss ss.length (Nat.le_refl _));(rw [List.take_length] at hmr);(refine Qp (fun H1=>QM5 b5 (zrP j5 D.any) ⟨0,bfs0 nx.length ss,q,cq,jq,H1⟩) ⟨by simp [upd,n5,Ne.symm n5,bfs0,g2,hmr],by simp [upd,bfs0],n5,by simpa [bfs0] using hcq,by simpa [bfs0] using hdq⟩ fun H3 hH1=>?_))
 | refine Qc (id:=12) Zn [] (by kernel_rfl) ?_;simp [-zg,-zd,↓Qb,↓Qa,go_sem];try ((have hu:=hB.rng x.k c45);(have hxu:=hx (nth x.s.2 x.k).toNat (by omega));(have hul:(nth x.s.2 x.k).toNat < nx.length:=(by omega));(have hls:=hl _ hul))
 | (have m5:=e3.m5;have mq:=e3.mq;have n5:=e3.n5;have r1:=e3.r1;have r2:=e3.r2);refine Qc (id:=13) Zn [] (by kernel_rfl) ?_;simp [-zg,-zd,↓Qb,↓Qa,go_sem,e6,Qk e6,zsP e6,mq,e5,hu.1,hu.2,hul,Qk hul,zsP hul,(show x.k < y.s.2.length + y.j by omega),(show x.k + 1 ≤ y.s.2.length + y.j by omega)]
 | ((generalize hv:nth (nth nx (nth x.s.2 x.k).toNat) y.k = v at *);have hvr:=hxu y.k c57;(rw [hv] at hvr);have hvn:v.toNat < nx.length:=(by omega));refine Qc (id:=15) Zn [] (by kernel_rfl) ?_;simp [-zg,-zd,↓Qb,↓Qa,go_sem,e6,Qk e6,zsP e6,mq,e5,hu.1,hu.2,hul,Qk hul,zsP hul,c57,Qk c57,zsP c57,hv,(show x.k < y.s.2.length + y.j by omega),(show x.k + 1 ≤ y.s.2.length + y.j by omega)]
 | refine Qc (id:=16) Zn [] (by kernel_rfl) ?_;simp [-zg,-zd,↓Qb,↓Qa,go_sem,m5,hvr.1,hvr.2,hvn,e7,nth_smP (P:=y.s.1) (k:=v.toNat) (by omega),(show v.toNat < nx.length + j5 by omega),(show v.toNat + 1 ≤ nx.length + j5 by omega)]
 | refine Qc (id:=17) Zn [] (by kernel_rfl) ?_;simp [-zg,-zd,↓Qb,↓Qa,go_sem,m5,hvr.1,hvr.2,hvn,e7,(show v.toNat < nx.length + j5 by omega),(show v.toNat + 1 ≤ nx.length + j5 by omega)]
 | refine Qc (id:=18) Zn [] (by kernel_rfl) ?_;simp [-zg,-zd,↓Qb,↓Qa,go_sem,mq,n5,Ne.symm n5,Vd,(show y.s.2.length ≤ y.s.2.length + y.j by omega),r2,(show y.s.2.length + 1 ≤ 9223372036854775807 by omega),(show 2 * (y.s.2.length + 1) * 8 ≤ 281474976710656 by omega),Zf];try ((refine Zb 6 rfl fun q' cp' jj' hq' hc' hd'=>?_);(dsimp only at hq');(have k5:¬ q' = b5:=(by rintro rfl;simp [upd,n5,Ne.symm n5] at hq'));(refine Qp (fun H2=>QM5 b5 (zrP j5 D.any) ⟨y.k + 1,((y.s.1.set v.toNat (nth x.s.2 x.k),y.s.2 ++ [v]):PQ),q',cp',jj',H2⟩) ⟨by simp [upd,k5,Ne.symm k5,n5,Ne.symm n5,smP_set y.s.1 v.toNat (show ¬ nth x.s.2 x.k = -2 by omega)],by simp [upd,k5,Ne.symm k5,n5,Ne.symm n5],k5,by simpa using hc',by simpa using hd'⟩ fun H2 hH2=>?_))
 | refine Qc (id:=14) Zn [] (by kernel_rfl) ?_;simp [-zg,-zd,↓Qb,↓Qa,go_sem,wrapS (k:=y.k) (by omega)]
 | refine Qc (id:=11) Zn [] (by kernel_rfl) ?_;simp [-zg,-zd,↓Qb,↓Qa,go_sem,wrapS (k:=x.k) (by omega)]
 | ((obtain ⟨kx,sx,qx,cx,jx,Hx⟩:=x);(try dsimp only at *);(have hE:sx = bfsE nx ss:=(by rw [g2];exact bfs_last (by rw [← g2];omega) (by omega)));(subst hE);have mq:=g3.mq;have r1:=g3.r1;have r2:=g3.r2;(try dsimp only at *);(refine Zz 6 (b:=qx) (all:=cat cI (bfsE nx ss).2 ++ zrP jx D.any) rfl mq (by omega) (by simp [Qv]) (by simp [Qv];omega) ?_));refine Qc (id:=19) Zn [] (by kernel_rfl) ?_;simp [-zg,-zd,↓Qb,↓Qa,go_sem,Zf]
 | refine Qj (c:=.tmp 18) ?_;simp [-zg,-zd,↓Qb,↓Qa,go_sem];try first | (refine ⟨?_,?_⟩ <;> refine zA ?_) | (refine ⟨fun c18=>?_,fun c18=>?_⟩ <;> (try simp [B_iff,B_not] at c18))
 | refine Qj (c:=.tmp 45) ?_;simp [-zg,-zd,↓Qb,↓Qa,go_sem];try first | (refine ⟨?_,?_⟩ <;> refine zA ?_) | (refine ⟨fun c45=>?_,fun c45=>?_⟩ <;> (try simp [B_iff,B_not] at c45))
 | refine Qj (c:=.tmp 57) ?_;simp [-zg,-zd,↓Qb,↓Qa,go_sem];try first | (refine ⟨?_,?_⟩ <;> refine zA ?_) | (refine ⟨fun c57=>?_,fun c57=>?_⟩ <;> (try simp [B_iff,B_not] at c57))
 | (refine Qe (id:=0) (Qw (ι:=Nat × Hp) (fun q:Nat × Hp=>⟨(upd (upd (upd (upd (upd (fun _=>.any) 0 (li cL nx)) 1 (li cI ss)) 5 (.sl b5 1 0 nx.length c5)) 6 (.fr 1 q.1 (cat cI (ss.take q.1)))) 7 (.int .i64 q.1)),q.2⟩) (fun q=>q.1 ≤ ss.length ∧ q.2 b5 = some (cat cB (Zj nx.length ss q.1) ++ zrP j5 D.any)) (fun q=>ss.length - q.1) ((0,H1)) ?_ ?_ ?_);exact ⟨Nat.zero_le _,w5⟩;((repeat' (first | exact Qg (by assumption) | exact Qi | refine Qf ?_ ?_ | refine Qh ?_)) <;> simp [-zg,-zd,↓Qb,↓Qa,go_sem,List.take_zero,Xb]);rintro q ⟨g1,g2⟩)
 | (refine ⟨(q.1 + 1,H9),⟨by dsimp only;omega,t5⟩,by first | omega | (simp;done) | (simp;omega),?_⟩;((repeat' (first | exact Qg (by assumption) | exact Qi | refine Qf ?_ ?_ | refine Qh ?_)) <;> simp [-zg,-zd,↓Qb,↓Qa,go_sem,]))
 | (refine Qe (id:=2) (Qw (ι:=SQ) (fun x:SQ=>⟨(upd (upd (upd (upd (upd (fun _=>.any) 0 (li cL nx)) 1 (li cI ss)) 5 (.sl b5 1 0 nx.length c5)) 6 (.sl x.q 1 0 x.s.2.length x.cp)) 8 (.int .i64 x.k)),x.H⟩) (fun x=>x.k ≤ x.s.2.length ∧ x.s = bfs nx x.k (bfs0 nx.length ss) ∧ QM5 b5 (zrP j5 D.any) x) (fun x=>nx.length - x.k) (⟨0,bfs0 nx.length ss,q,cq,jq,H3⟩) ?_ ?_ ?_);exact ⟨Nat.zero_le _,rfl,hH1⟩;((repeat' (first | exact Qg (by assumption) | exact Qi | refine Qf ?_ ?_ | refine Qh ?_)) <;> simp [-zg,-zd,↓Qb,↓Qa,go_sem,bfs0,List.take_length]);rintro x ⟨g1,g2,g3⟩;have hB:=(bfs_ok hx (Bf.start hS) x.k).1;(rw [← g2] at hB);have hle:=hB.le)
 | (refine ⟨⟨x.k + 1,y.s,y.q,y.cp,y.j,y.H⟩,⟨by dsimp only;omega,by dsimp only;(have qe:y.k = (nth nx (nth x.s.2 x.k).toNat).length:=by omega);rw [qe,List.take_length] at e2;rw [e2,bfs_succ (by rw [← g2];exact c45),← g2],⟨e3.m5,e3.mq,e3.n5,e3.r1,e3.r2⟩⟩,by first | omega | (simp;done) | (simp;omega),?_⟩;((repeat' (first | exact Qg (by assumption) | exact Qi | refine Qf ?_ ?_ | refine Qh ?_)) <;> simp [-zg,-zd,↓Qb,↓Qa,go_sem,]))
 | (refine Qe (id:=4) (Qw (ι:=SQ) (fun y:SQ=>⟨(upd (upd (upd (upd (upd (upd (fun _=>.any) 0 (li cL nx)) 1 (li cI ss)) 5 (.sl b5 1 0 nx.length c5)) 6 (.sl y.q 1 0 y.s.2.length y.cp)) 8 (.int .i64 x.k)) 9 (.int .i64 y.k)),y.H⟩) (fun y=>y.k ≤ (nth nx (nth x.s.2 x.k).toNat).length ∧ y.s = meets (nth x.s.2 x.k) ((nth nx (nth x.s.2 x.k).toNat).take y.k) x.s ∧ QM5 b5 (zrP j5 D.any) y) (fun y=>(nth nx (nth x.s.2 x.k).toNat).length - y.k) (⟨0,x.s,x.q,x.cp,x.j,x.H⟩) ?_ ?_ ?_);exact ⟨Nat.zero_le _,by simp [meets],⟨g3.m5,g3.mq,g3.n5,g3.r1,g3.r2⟩⟩;((repeat' (first | exact Qg (by assumption) | exact Qi | refine Qf ?_ ?_ | refine Qh ?_)) <;> simp [-zg,-zd,↓Qb,↓Qa,go_sem]);rintro y ⟨e1,e2,e3⟩;(obtain ⟨hC,hL⟩:=meets_ok hB c45 hxu y.k e1);(rw [← e2] at hC hL);have hl2:=hL.le;have e5:=hL.nth c45;have e6:x.k < y.s.2.length:=(by omega);have hle2:=hC.le;have e7:=hC.len)
 | (refine ⟨⟨y.k + 1,((y.s.1.set v.toNat (nth x.s.2 x.k),y.s.2 ++ [v]):PQ),q',cp',jj',H2⟩,⟨by dsimp only;omega,by dsimp only;rw [zaqc _ c57,← e2,hv,meet1,if_pos (by assumption)],hH2⟩,by first | omega | (simp;done) | (simp;omega),?_⟩;((repeat' (first | exact Qg (by assumption) | exact Qi | refine Qf ?_ ?_ | refine Qh ?_)) <;> simp [-zg,-zd,↓Qb,↓Qa,go_sem]))
 | (refine Qe ?_)
 | (refine Qs ?_;simp [-zg,-zd,↓Qb,↓Qa,go_sem])
 | (refine Qr ?_;simp [-zg,-zd,↓Qb,↓Qa,go_sem])
 | (refine Qq ?_;simp [-zg,-zd,↓Qb,↓Qa,go_sem,Tryz.results138])
 | (intro hx;refine zA ?_)
 | (refine ⟨?_,?_⟩ <;> refine zA ?_)
 | (intro hx;constructor <;> intro hs)
 | (constructor <;> intro hs)
 | (refine ⟨?_,fun hs=>?_⟩;refine zA ?_)
 | (refine ⟨fun hs=>?_,?_⟩;rotate_left;refine zA ?_;rotate_left)
 | (refine ⟨⟨y.k + 1,y.s,y.q,y.cp,y.j,y.H⟩,⟨by dsimp only;omega,by dsimp only;rw [zaqc _ c57,← e2,hv,meet1,if_neg (by assumption)],⟨e3.m5,e3.mq,e3.n5,e3.r1,e3.r2⟩⟩,by dsimp only;omega,?_⟩;((repeat' (first | exact Qg (by assumption) | exact Qi | refine Qf ?_ ?_ | refine Qh ?_)) <;> simp [-zg,-zd,go_sem]))
 | (refine Qj ?_;simp [-zg,-zd,↓Qb,↓Qa,go_sem];try first | (refine ⟨?_,?_⟩ <;> refine zA ?_) | (refine ⟨fun cz=>?_,fun cz=>?_⟩ <;> (try simp [B_iff,B_not] at cz)))
 | (refine Qc Zn [] (by kernel_rfl) ?_;simp [-zg,-zd,↓Qb,↓Qa,go_sem])
 | fail))
@[go_sem] def zaib:Con:=.pure fun
  | [.list n_nx c_nx,.list n_ss c_ss]=>((Is cL n_nx c_nx) ∧ (Is cI n_ss c_ss) ∧ (Zr (de cL c_nx)) ∧ (NextS (de cL c_nx)) ∧ ((de cL c_nx).length ≤ 1048576) ∧ (Starts (de cL c_nx).length (de cI c_ss)) ∧ ((de cI c_ss).length ≤ (de cL c_nx).length),fr 1 cI (bfsE (de cL c_nx) (de cI c_ss)).2)
  | _=>(False,.any)
theorem zaqm:ConOk Tryz.prog 138 zaib:=by
  refine ⟨Qo Tryz.func138 (by decide) rfl,fun args h=>?_⟩
  revert h
  dsimp only
  split
  · intro h
    obtain ⟨⟨nx,rfl,rfl⟩,⟨ss,rfl,rfl⟩,hx,hl,hn,hS,hsl⟩:=h
    try simp only [Qm] at *
    exact ⟨l7Reach_pure nx ss hx hl hn hS hsl,by simp [go_sem]⟩
  · intro h
    exact h.elim
@[go_sem] def Γn5:FuncId → Con:=ext Γn4 138 zaib
theorem Γn5_ok:∀ g,ConOk Tryz.prog g (Γn5 g):=Qn Zn zaqm


@[go_sem] def Γn6:FuncId → Con:=Γn5
theorem Γn6_ok:∀ g,ConOk Tryz.prog g (Γn6 g):=Γn5_ok

def bm (k:Int):Bool:=decide (k.tmod 3 = 0)
def marksB (k:Int) (n:Nat):List Bool:=(List.range n).map fun (i:Nat)=>bm (k + i)
@[go_sem] theorem marksB_len (k:Int) (n:Nat):(marksB k n).length = n:=by simp [marksB]
@[go_sem] def Γn7:FuncId → Con:=Γn6
theorem Γn7_ok:∀ g,ConOk Tryz.prog g (Γn7 g):=Γn6_ok

def heldB (k:Int) (xs:List Bool):Int:=if xs = marksB k xs.length then k + xs.length else -1
@[go_sem] theorem heldB_marks (k:Int) (n:Nat):heldB k (marksB k n) = k + n:=by simp [heldB,marksB_len]
@[go_sem] theorem heldB_nil (k:Int):heldB k [] = k:=by simp [heldB,marksB]
@[go_sem] def Γn8:FuncId → Con:=Γn7
theorem Γn8_ok:∀ g,ConOk Tryz.prog g (Γn8 g):=Γn7_ok

@[go_sem] def Γn9:FuncId → Con:=Γn8
theorem Γn9_ok:∀ g,ConOk Tryz.prog g (Γn9 g):=Γn8_ok

@[go_sem] def Γn10:FuncId → Con:=Γn9
theorem Γn10_ok:∀ g,ConOk Tryz.prog g (Γn10 g):=Γn9_ok

@[go_sem] def Γn11:FuncId → Con:=Γn10
theorem Γn11_ok:∀ g,ConOk Tryz.prog g (Γn11 g):=Γn10_ok

theorem AutOk.rng {a:List Int} {n:Nat} {c:List Tr4} (h:AutOk a n c):InRng n c:=fun i hi=>by
  obtain ⟨g1,g2,g3,g4,_⟩:=h.2.2.2.2 i hi
  exact ⟨⟨g1,g2⟩,g3,g4⟩
theorem AutOk.sizes {a:List Int} {n:Nat} {c:List Tr4} (h:AutOk a n c):1 ≤ n ∧ n ≤ 64 ∧ a.length ≤ n ∧ c.length ≤ 2048:=⟨h.1,h.2.1,sorted_len h.2.2.1,h.2.2.2.1⟩
@[go_sem] def Γn12:FuncId → Con:=Γn11
theorem Γn12_ok:∀ g,ConOk Tryz.prog g (Γn12 g):=Γn11_ok

@[go_sem] def Γn13:FuncId → Con:=Γn12
theorem Γn13_ok:∀ g,ConOk Tryz.prog g (Γn13 g):=Γn12_ok
end
end Go.Proofs.YtiilmjojffjhlaaGreatDoor.Vm

