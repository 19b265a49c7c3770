import Derived.Test.YtmiimodggpjkmaaGreatRC
/-
  Draws of labels, of blocks. No conditions.
-/
namespace Go.Proofs.YtmiimodggpjkmaaGreat.Vm
open Go
open List renaming getD_eq_getElem?_getD → zg,drop_one → zd,replicate → zrP
open Ne renaming symm → zS
noncomputable section
set_option linter.unusedVariables false
set_option linter.unusedSimpArgs false
set_option maxRecDepth 200000

@[go_sem] theorem ssR3 (x0 x1 x2 x3 x4 x5 y z u:D) (l:List D):stSeg (x0 :: x1 :: x2 :: x3 :: x4 :: x5 :: l) 3 [y,z,u] = x0 :: x1 :: x2 :: y :: z :: u :: l:=rfl
theorem three {xs:List Tree} (h:xs.length = 3):∃ t0 t1 t2,xs = [t0,t1,t2]:=by
  match xs,h with
  | [t0,t1,t2],_=>exact ⟨t0,t1,t2,rfl⟩
theorem cat3 (t0 t1 t2:Tree):cat cX [t0,t1,t2] = [.int .i64 t0.k,.int .i64 t0.v,li cX t0.ks,.int .i64 t1.k,.int .i64 t1.v,li cX t1.ks,.int .i64 t2.k,.int .i64 t2.v,li cX t2.ks]:=by
  rw [Xg,Xg,Xi,cX_eq,cX_eq,cX_eq];rfl
theorem snoc_tm {xs:List Tree} {t:Tree} (h:∀ t ∈ xs,tm t ≤ 4) (ht:tm t ≤ 4):∀ x ∈ xs ++ [t],tm x ≤ 4:=fun x hx=>by
  rcases List.mem_append.1 hx with h1 | h1
  · exact h x h1
  · simp at h1;subst h1;exact ht

@[go_sem] def zabh:List Tree → D:=fun x=>fr 3 cX x
def Ua  : List Tree → Prop:=fun x=>x.length ≤ 3
def zaik  (x:(List Tree) × D):Prop:=Ua x.1 ∧ x.2 = zabh x.1
def zaar  (p:Int) (c:Any):((List Tree) × D) × Int:=dsel (zaik) (([]:List Tree),zabh ([])) 23 p c
def Vf  (p:Int) (c:Any):(List Tree) × Int:=((zaar p c).1.1,(zaar p c).2)
theorem zalf   (p:Int) (c:Any):(Ua (Vf p c).1 ∧ p ≤ (Vf p c).2 ∧ (Vf p c).2 ≤ p + 23) ∧ (zaar p c).1.2 = zabh (Vf p c).1:=by
  have hx:Ua ([]):=by simp [Ua]
  have h:=Vc (good:=zaik) (x0:=(([]:List Tree),zabh ([]))) ⟨hx,rfl⟩ (K:=23) (by omega) (p:=p) c
  exact ⟨⟨h.1.1,h.2.1,h.2.2⟩,h.1.2⟩
theorem l8Labels_ok   (p:Int) (c:Any):Ua (Vf p c).1 ∧ p ≤ (Vf p c).2 ∧ (Vf p c).2 ≤ p + 23:=(zalf  p c).1
theorem zale  (ys:List UInt8) (p:Int) (b:Nat) {e_:Exit} {S_:St} (x:List Tree) (p':Int) (he_:e_ = .ret ∨ e_ = .normal)
    (h1:(Qf Tryz.prog S_ Tryz.f37.results.toList).1 ∧ (resD (Qf Tryz.prog S_ Tryz.f37.results.toList).2.1) = zabh x ∧ (Qf Tryz.prog S_ Tryz.f37.results.toList).2.2.H b = some [li cY ys,.int .i64 p']) (hg:Ua x) (h2:p ≤ p' ∧ p' ≤ p + 23) :
    retR Tryz.prog Tryz.f37 (fun c=>((zaar p c).1.2,one b [li cY ys,.int .i64 (zaar p c).2])) e_ S_ :=
  Jv (good:=zaik) (enc:=fun x:(List Tree) × D=>x.2) (cells:=fun q=>[li cY ys,.int .i64 q]) (x,resD (Qf Tryz.prog S_ Tryz.f37.results.toList).2.1) p' he_ ⟨h1.1,rfl,h1.2.2⟩ ⟨hg,h1.2.1⟩ h2
set_option maxHeartbeats 4000000 in
theorem l8Labels_spec (ys:List UInt8) (p:Int) (b:Nat)  (hl:ys.length ≤ 2000) (h0_:0 ≤ p) (hp_:p + 23 ≤ 1000000)  : SpecR Tryz.prog 37 [.ptr b 0] (one b [li cY ys,.int .i64 p]) (fun c=>((zaar p c).1.2,one b [li cY ys,.int .i64 (zaar p c).2])):=by
  refine SpecR.of_walk Tryz.func37 rfl (by simp [Tryz.f37]) fun B=>?_
  (repeat' (first
 | refine Qt ?_
 | refine Qc (id:=0) Zj [] (by kernel_rfl) ?_;simp [-zg,-zd,↓Qb,↓Qa,go_sem]
 | refine Qc (id:=1) Zj [] (by kernel_rfl) ?_;simp [-zg,-zd,↓Qb,↓Qa,go_sem]
 | refine Qc (id:=2) Zj [] (by kernel_rfl) ?_;simp [-zg,-zd,↓Qb,↓Qa,go_sem]
 | refine Qc (id:=3) Zj [] (by kernel_rfl) ?_;simp [-zg,-zd,↓Qb,↓Qa,go_sem]
 | refine Qc (id:=5) Zj [] (by kernel_rfl) ?_;simp [-zg,-zd,↓Qb,↓Qa,go_sem,g5,hl,(show 0 ≤ q.2.2.1 by omega),(show q.2.2.1 ≤ 1000000 by omega),(show 0 ≤ q.2.2.1 + 1 by omega),(show q.2.2.1 + 1 ≤ 1000000 by omega),(show 0 ≤ q.2.2.1 + 1 + 1 by omega),(show q.2.2.1 + 1 + 1 ≤ 1000000 by omega),(show 0 ≤ q.2.2.1 + 1 + 1 + 1 by omega),(show q.2.2.1 + 1 + 1 + 1 ≤ 1000000 by omega),(show 0 ≤ q.2.2.1 + 1 + 1 + 1 + 1 by omega),(show q.2.2.1 + 1 + 1 + 1 + 1 ≤ 1000000 by omega),(show 0 ≤ q.2.2.1 + 1 + 1 + 1 + 1 + 1 by omega),(show q.2.2.1 + 1 + 1 + 1 + 1 + 1 ≤ 1000000 by omega),(show 0 ≤ q.2.2.1 + 1 + 1 + 1 + 1 + 1 + 1 by omega),(show q.2.2.1 + 1 + 1 + 1 + 1 + 1 + 1 ≤ 1000000 by omega),(show q.2.2.1 + 5 ≤ 1000000 by omega)];try (intro c5;have z0:=l2Guard_ok q.2.2.1 c5;generalize Jq q.2.2.1 c5 = z at *;obtain ⟨z4,z1,z2⟩:=z0;obtain ⟨⟨tk,tv,ts⟩,p2⟩:=z;dsimp only at z1 z2 z4;(refine Zn 5 rfl fun qb hqb=>?_);(have hbq:¬ b = qb:=(by rintro rfl;simp [go_sem] at hqb));(clear hqb);(refine Qw (fun H1=>H1 b = some [.list ys.length (cat cY ys),.int .i64 p2] ∧ H1 qb = some [.int .i64 tk,.int .i64 tv,li cX ts]) ⟨by simp [go_sem,hbq,zS hbq],by simp [go_sem,hbq,zS hbq]⟩ fun H1 ⟨w1,w2⟩=>?_))
 | refine Qc (id:=6) Zj [] (by kernel_rfl) ?_;simp [-zg,-zd,↓Qb,↓Qa,go_sem,w1,w2,hbq,zS hbq]
 | refine Qc (id:=7) Zj [] (by kernel_rfl) ?_;simp [-zg,-zd,↓Qb,↓Qa,go_sem,w1,w2,hl,hbq,zS hbq,(show 0 ≤ p2 by omega),(show p2 ≤ 1000000 by omega),(show 0 ≤ p2 + 1 by omega),(show p2 + 1 ≤ 1000000 by omega),(show 0 ≤ p2 + 1 + 1 by omega),(show p2 + 1 + 1 ≤ 1000000 by omega),(show 0 ≤ p2 + 1 + 1 + 1 by omega),(show p2 + 1 + 1 + 1 ≤ 1000000 by omega)];try ((obtain ⟨t,p3,ht1,ht2,ht3,ht4⟩:∃ (t:Tree) (p3:Int),t = .mk 2 (pkI ys p2 3) [] ∧ p3 = p2 + 1 ∧ (q.2.2.1 ≤ p3 ∧ p3 ≤ q.2.2.1 + 6) ∧ tm t ≤ 4:=⟨_,_,rfl,rfl,by omega,by simp [tm,tms]⟩);(refine zafw qb 2 (all:=[.int .i64 2,.int .i64 (pkI ys p2 3),.nil]) (by simp [upd,hbq,zS hbq]) rfl rfl ?_);(refine Qw (fun H2=>H2 b = some [.list ys.length (cat cY ys),.int .i64 p3] ∧ H2 qb = some [.int .i64 t.k,.int .i64 t.v,li cX t.ks]) ⟨by simp [upd,hbq,zS hbq,ht2],by simp [upd,hbq,zS hbq,ht1,Tree.k,Tree.v,Tree.ks,dat,datL,li,cat]⟩ fun H2 ⟨y1,y2⟩=>?_))
 | (first | (have ht5:=ht4;skip) | (obtain ⟨t,p3,ht1,ht2,ht3,ht4⟩:∃ (t:Tree) (p3:Int),t = .mk tk tv ts ∧ p3 = p2 ∧ (q.2.2.1 ≤ p3 ∧ p3 ≤ q.2.2.1 + 6) ∧ tm t ≤ 4:=⟨_,_,rfl,rfl,by omega,z4⟩;refine Qw (fun H2=>H2 b = some [.list ys.length (cat cY ys),.int .i64 p3] ∧ H2 qb = some [.int .i64 t.k,.int .i64 t.v,li cX t.ks]) ⟨by rw [ht2];exact w1,by rw [ht1];exact w2⟩ fun H2 ⟨y1,y2⟩=>?_));refine Qc (id:=8) Zj [] (by kernel_rfl) ?_;simp [-zg,-zd,↓Qb,↓Qa,go_sem,y1,y2,hbq,zS hbq,(show q.1.length ≤ 9223372036854775806 by omega),(show 2 * (q.1.length + 1) * 40 ≤ 281474976710656 by omega),(show q.1.length + 1 ≤ 9223372036854775807 by omega)]
 | refine Qc (id:=4) Zj [] (by kernel_rfl) ?_;simp [-zg,-zd,↓Qb,↓Qa,go_sem,wrapS (k:=q.2.1) (by omega)]
 | ((obtain ⟨xs,nn,p4,H4⟩:=q);(dsimp only at *);(obtain ⟨t0,t1,t2,rfl⟩:=three (show xs.length = 3 by omega));(have hk1:tm t1 ≤ 4:=g4 t1 (by simp));(refine Jh 3 rfl fun u cu ju hu hcu hdu=>?_);(have ub:¬ u = b:=(by intro e;rw [e] at hu;dsimp only at hu;rw [g5] at hu;cases hu));(clear hu);(have hcu2:3 ≤ cu:=hcu);(have hdu2:cu * 3 ≤ 9 + ju:=hdu);(have hks:tms t1.ks ≤ 4:=(by rw [tm_eq,← tms_eq] at hk1;exact hk1));(clear hcu hdu);(refine Qw (fun H5=>H5 b = some [.list ys.length (cat cY ys),.int .i64 p4] ∧ H5 u = some ([.int .i64 t0.k,.int .i64 t0.v,li cX t0.ks,.int .i64 t1.k,.int .i64 t1.v,li cX t1.ks,.int .i64 t2.k,.int .i64 t2.v,li cX t2.ks] ++ zrP ju .any)) ⟨by simp [upd,ub,zS ub,g5],by simp [upd,ub,zS ub,cat3]⟩ fun H5 ⟨v1,v2⟩=>?_);(have hmm:∀ c,(0 ≤ (Za t1.k t1.v t1.ks (p4 + 1) c).2 ∧ p4 + 1 ≤ (Za t1.k t1.v t1.ks (p4 + 1) c).2) ∧ (Za t1.k t1.v t1.ks (p4 + 1) c).2 ≤ p4 + 3 ∧ tms (Za t1.k t1.v t1.ks (p4 + 1) c).1.ks ≤ 5:=(fun c=>by have z0:=zaoi t1.k t1.v t1.ks (by omega) (p4 + 1) c;generalize Za t1.k t1.v t1.ks (p4 + 1) c = z at *;obtain ⟨z1,z2,z3⟩:=z0;simp only [Ji] at z1;rw [tm_eq,← tms_eq] at z1;exact ⟨⟨by omega,by omega⟩,by omega,by omega⟩)));refine Qc (id:=9) Zj [] (by kernel_rfl) ?_;simp [-zg,-zd,↓Qb,↓Qa,go_sem,v1,v2,hl,ub,zS ub,(show 0 ≤ p4 by omega),(show p4 ≤ 1000000 by omega),(show 0 ≤ p4 + 1 by omega),(show p4 + 1 ≤ 1000000 by omega)]
 | refine Qc (id:=10) Zj [] (by kernel_rfl) ?_;simp [-zg,-zd,↓Qb,↓Qa,go_sem]
 | refine Qc (id:=11) Zj [] (by kernel_rfl) ?_;simp [-zg,-zd,↓Qb,↓Qa,go_sem,ub,zS ub,(show (2:Int) ≤ (cu:Int) by omega)];try (refine Jw 2 (b:=u) (all:=[.int .i64 t0.k,.int .i64 t0.v,li cX t0.ks,.int .i64 t1.k,.int .i64 t1.v,li cX t1.ks,.int .i64 t2.k,.int .i64 t2.v,li cX t2.ks] ++ zrP ju .any) rfl (by simp [upd,ub,v2]) (by omega) (by simp <;> omega) (by simp <;> omega) ?_)
 | refine Qc (id:=12) Zj [] (by kernel_rfl) ?_;simp [-zg,-zd,↓Qb,↓Qa,go_sem]
 | refine Qc (id:=13) Zj [] (by kernel_rfl) ?_;simp [-zg,-zd,↓Qb,↓Qa,go_sem,v1,v2,hl,ub,zS ub,(show 0 ≤ p4 by omega),(show p4 ≤ 1000000 by omega),(show 0 ≤ p4 + 1 by omega),(show p4 + 1 ≤ 1000000 by omega),(show 0 ≤ p4 + 1 + 1 by omega),(show p4 + 1 + 1 ≤ 1000000 by omega),(show 0 ≤ p4 + 1 + 1 + 1 by omega),(show p4 + 1 + 1 + 1 ≤ 1000000 by omega),(show 0 ≤ p4 + 1 + 1 + 1 + 1 by omega),(show p4 + 1 + 1 + 1 + 1 ≤ 1000000 by omega),(show 0 ≤ p4 + 1 + 1 + 1 + 1 + 1 by omega),(show p4 + 1 + 1 + 1 + 1 + 1 ≤ 1000000 by omega),(show p4 + 1 + 2 ≤ 1000000 by omega),(show tms t1.ks ≤ 100 by omega),(fun c=>(hmm c).1.1),(fun c=>(show (Za t1.k t1.v t1.ks (p4 + 1) c).2 + 2 ≤ 1000000 from by have:=(hmm c).2.1;omega)),(fun c=>(show tms (Za t1.k t1.v t1.ks (p4 + 1) c).1.ks ≤ 100 from by have:=(hmm c).2.2;omega))];try ((intro c13 c14);(have z0:=hmm c13);(generalize Za t1.k t1.v t1.ks (p4 + 1) c13 = z at *);(obtain ⟨zt,zp⟩:=z);(dsimp only at *);(have x0:=zaoi zt.k zt.v zt.ks (by have:=z0.2.2;omega) zp c14);(generalize Za zt.k zt.v zt.ks zp c14 = x at *);(obtain ⟨m1,p5⟩:=x);(dsimp only at *);(have hp5:p ≤ p5 ∧ p5 ≤ p + 23:=(by have:=x0.2.1;have:=x0.2.2;have:=z0.1.2;have:=z0.2.1;omega));(refine Qw (fun H6=>H6 b = some [.list ys.length (cat cY ys),.int .i64 p5] ∧ H6 u = some ([.int .i64 t0.k,.int .i64 t0.v,li cX t0.ks,.int .i64 m1.k,.int .i64 m1.v,li cX m1.ks,.int .i64 t2.k,.int .i64 t2.v,li cX t2.ks] ++ zrP ju .any)) ⟨by simp [upd,ub,zS ub],by simp [upd,ub,zS ub,li]⟩ fun H6 ⟨w6,w7⟩=>?_))
 | ((first | (have hp6:=hp5;skip) | ((obtain ⟨m1,hm1⟩:∃ m1,m1 = t1:=⟨_,rfl⟩);(obtain ⟨p5,hp5⟩:∃ p5,p5 = p4 + 1:=⟨_,rfl⟩);(refine Qw (fun H6=>H6 b = some [.list ys.length (cat cY ys),.int .i64 p5] ∧ H6 u = some ([.int .i64 t0.k,.int .i64 t0.v,li cX t0.ks,.int .i64 m1.k,.int .i64 m1.v,li cX m1.ks,.int .i64 t2.k,.int .i64 t2.v,li cX t2.ks] ++ zrP ju .any)) ⟨by simp [upd,ub,zS ub,hp5],by simp [upd,ub,zS ub,hm1,v2]⟩ fun H6 ⟨w6,w7⟩=>?_)));(refine Jw 3 (b:=u) (all:=[.int .i64 t0.k,.int .i64 t0.v,li cX t0.ks,.int .i64 m1.k,.int .i64 m1.v,li cX m1.ks,.int .i64 t2.k,.int .i64 t2.v,li cX t2.ks] ++ zrP ju .any) rfl w7 (by omega) (by simp <;> omega) (by simp <;> omega) ?_));refine Qc (id:=14) Zj [] (by kernel_rfl) ?_;simp [-zg,-zd,↓Qb,↓Qa,go_sem,w6,w7,ub,zS ub]
 | refine Qd (c:=.tmp 8) ?_;simp [-zg,-zd,↓Qb,↓Qa,go_sem];try first | (refine ⟨?_,?_⟩ <;> refine zA ?_) | (refine ⟨fun c8=>?_,fun c8=>?_⟩ <;> (try simp [B_iff,B_not] at c8))
 | refine Qd (c:=.tmp 15) ?_;simp [-zg,-zd,↓Qb,↓Qa,go_sem];try first | (refine ⟨?_,?_⟩ <;> refine zA ?_) | (refine ⟨fun c15=>?_,fun c15=>?_⟩ <;> (try simp [B_iff,B_not] at c15))
 | refine Qd (c:=.tmp 25) ?_;simp [-zg,-zd,↓Qb,↓Qa,go_sem];try first | (refine ⟨?_,?_⟩ <;> refine zA ?_) | (refine ⟨fun c25=>?_,fun c25=>?_⟩ <;> (try simp [B_iff,B_not] at c25))
 | refine Qd (c:=.tmp 29) ?_;simp [-zg,-zd,↓Qb,↓Qa,go_sem];try first | (refine ⟨?_,?_⟩ <;> refine zA ?_) | (refine ⟨fun c29=>?_,fun c29=>?_⟩ <;> (try simp [B_iff,B_not] at c29))
 | (refine Qg (id:=0) (Qx (ι:=List Tree × Nat × Int × Hp) (fun q:List Tree × Nat × Int × Hp=>⟨(upd (upd (upd (fun _=>.any) 0 (.ptr b 0)) 3 (.fr 3 q.1.length (cat cX q.1))) 4 (.int .i64 q.2.1)),q.2.2.2⟩) (fun q=>q.2.1 ≤ 3 ∧ q.1.length = q.2.1 ∧ (p ≤ q.2.2.1 ∧ q.2.2.1 ≤ p + 6 * q.2.1) ∧ (∀ t ∈ q.1,tm t ≤ 4) ∧ q.2.2.2 b = some [.list ys.length (cat cY ys),.int .i64 q.2.2.1]) (fun q=>3 - q.2.1) (([],0,p,upd (fun _=>none) b (some [.list ys.length (cat cY ys),.int .i64 p]))) ?_ ?_ ?_);exact ⟨by dsimp only;omega,rfl,by dsimp only;omega,by simp,by simp [upd]⟩;((repeat' (first | exact Qh (by assumption) | exact Qj | refine Qk ?_ ?_ | refine Qi ?_)) <;> simp [-zg,-zd,↓Qb,↓Qa,go_sem,Xl]);rintro q ⟨g1,g2,g3,g4,g5⟩)
 | (refine ⟨(q.1 ++ [t],q.2.1 + 1,p3,H2),⟨by dsimp only;omega,by simp;omega,by dsimp only;omega,snoc_tm g4 ht4,y1⟩,by first | omega | (simp;done) | (simp;omega),?_⟩;((repeat' (first | exact Qh (by assumption) | exact Qj | refine Qk ?_ ?_ | refine Qi ?_)) <;> simp [-zg,-zd,↓Qb,↓Qa,go_sem,Xk,Xi,cX_eq,li]))
 | (refine Qg ?_)
 | (refine Qs ?_;simp [-zg,-zd,↓Qb,↓Qa,go_sem])
 | (refine Qr ?_;simp [-zg,-zd,↓Qb,↓Qa,go_sem])
 | (refine Qq ?_;try simp [-zg,-zd,↓Qb,↓Qa,go_sem,Tryz.results37])
 | (intro hx;refine zA ?_)
 | (intro hx;change retR _ _ _ _ _)
 | (refine ⟨?_,?_⟩ <;> refine zA ?_)
 | (intro hx;constructor <;> intro hs)
 | (constructor <;> intro hs)
 | (refine ⟨?_,fun hs=>?_⟩;refine zA ?_)
 | (refine ⟨fun hs=>?_,?_⟩;rotate_left;refine zA ?_;rotate_left)))
  all_goals (first
 | (refine zale _ _ _ ([t0,t1]) (p4 + 1) ?_ ?_ ?_ ?_;(first | exact Or.inl rfl | exact Or.inr rfl);(focus (simp [-zg,-zd,↓Qb,↓Qa,go_sem,Tryz.results37,ub,zS ub,v1,Xg,cX_eq,li,dat,Xh,Xl];done));(focus ((simp [Ua]);done));(focus (refine ⟨?_,?_⟩ <;> omega)))
 | (refine zale _ _ _ ([t0,m1,t2]) (p5) ?_ ?_ ?_ ?_;(first | exact Or.inl rfl | exact Or.inr rfl);(focus (simp [-zg,-zd,↓Qb,↓Qa,go_sem,Tryz.results37,ub,zS ub,w6,Xg,cX_eq,li,dat,Xh,Xl];done));(focus ((simp [Ua]);done));(focus (refine ⟨?_,?_⟩ <;> omega)))
 | skip)
@[go_sem] def l8LabelsC:Con:=.rel fun args H=>match args with
  | [.ptr b 0]=>match H b with
    | some [.list m cs,.int .i64 p]=>((Is cY m cs) ∧ (m ≤ 2000) ∧ (0 ≤ p) ∧ (p + 23 ≤ 1000000),fun c=>(zabh (Vf p c).1,upd H b (some [.list m cs,.int .i64 (Vf p c).2])))
    | _=>(False,fun _=>(.any,H))
  | _=>(False,fun _=>(.any,H))
theorem l8LabelsC_ok:ConOk Tryz.prog 37 l8LabelsC:=by
  refine ⟨Qo Tryz.func37 (by decide) rfl,fun args H h=>?_⟩
  revert h
  dsimp only
  split
  · split
    · rename_i hH
      intro h
      obtain ⟨⟨ys,rfl,rfl⟩,hl,h0_,hp_⟩:=h
      try simp only [Qm] at *
      exact SpecR.enc ((l8Labels_spec ys _ _ hl h0_ hp_ ).frame hH) fun c=>Prod.ext (zalf  _ _).2.symm rfl
    · intro h;exact h.elim
  · intro h
    exact h.elim
@[go_sem] def Γl5:FuncId → Con:=ext Γl4 37 l8LabelsC
theorem Us:∀ g,ConOk Tryz.prog g (Γl5 g):=Qn Zj l8LabelsC_ok

theorem stSeg3 (l:List D) (i:Nat) (x y z:D):stSeg l i [x,y,z] = ((l.set i x).set (i + 1) y).set (i + 2) z:=rfl
theorem set_cat3 {xs:List Tree} {i:Nat} (h:i < xs.length) (t:Tree) (junk:List D):stSeg (cat cX xs ++ junk) (i * 3) [.int .i64 t.k,.int .i64 t.v,li cX t.ks] = cat cX (xs.set i t) ++ junk:=by
  have e0:(cat cX (xs.take i)).length = i * 3:=zakm (f:=cX) (sz:=3) h
  rw [stSeg3,zaml h,cat_setj h,List.set_append,if_neg (by omega),e0,Nat.sub_self,List.set_append,if_neg (by omega),e0,Nat.add_sub_cancel_left,List.set_append,if_neg (by omega),e0,Nat.add_sub_cancel_left,cX_eq,cX_eq]
  rfl
theorem get_nil3 {xs:List Tree} {i:Nat} (h:i < xs.length) (a b:D) (junk:List D):(stSeg (cat cX xs ++ junk) (i * 3) [a,b,.nil])[i * 3 + 2]? = some .nil:=by
  rw [stSeg3,List.getElem?_set_self];simp [Qu];omega
theorem set_nil3 {xs:List Tree} {i:Nat} (h:i < xs.length) (k v:Int) (junk:List D):(stSeg (cat cX xs ++ junk) (i * 3) [.int .i64 k,.int .i64 v,.nil]).set (i * 3 + 2) (.list 0 []) = cat cX (xs.set i (.mk k v [])) ++ junk:=by
  rw [stSeg3,List.set_set];exact set_cat3 h (.mk k v []) junk

@[go_sem] def Ub:List Tree → D:=fun x=>li cX x
theorem l10Labels_flat (x:List Tree):dat (Ub x) = Ub x:=by simp [go_sem]
def We  : List Tree → Prop:=fun x=>x.length ≤ 3
def zags  (x:(List Tree) × D):Prop:=We x.1 ∧ dat x.2 = Ub x.1
def zaak  (p:Int) (c:Any):((List Tree) × D) × Int:=dsel (zags) (([]:List Tree),Ub ([])) 26 p c
def Ve  (p:Int) (c:Any):(List Tree) × Int:=((zaak p c).1.1,(zaak p c).2)
theorem zajj   (p:Int) (c:Any):(We (Ve p c).1 ∧ p ≤ (Ve p c).2 ∧ (Ve p c).2 ≤ p + 26) ∧ dat (zaak p c).1.2 = Ub (Ve p c).1:=by
  have hx:We ([]):=by simp [We]
  have h:=Vc (good:=zags) (x0:=(([]:List Tree),Ub ([]))) ⟨hx,l10Labels_flat _⟩ (K:=26) (by omega) (p:=p) c
  exact ⟨⟨h.1.1,h.2.1,h.2.2⟩,h.1.2⟩
theorem l10Labels_ok   (p:Int) (c:Any):We (Ve p c).1 ∧ p ≤ (Ve p c).2 ∧ (Ve p c).2 ≤ p + 26:=(zajj  p c).1
theorem l10Labels_ret  (ys:List UInt8) (p:Int) (b:Nat) {e_:Exit} {S_:St} (x:List Tree) (p':Int) (he_:e_ = .ret ∨ e_ = .normal)
    (h1:(Qf Tryz.prog S_ Tryz.f17.results.toList).1 ∧ dat (resD (Qf Tryz.prog S_ Tryz.f17.results.toList).2.1) = Ub x ∧ (Qf Tryz.prog S_ Tryz.f17.results.toList).2.2.H b = some [li cY ys,.int .i64 p']) (hg:We x) (h2:p ≤ p' ∧ p' ≤ p + 26) :
    retR Tryz.prog Tryz.f17 (fun c=>((zaak p c).1.2,one b [li cY ys,.int .i64 (zaak p c).2])) e_ S_ :=
  Jv (good:=zags) (enc:=fun x:(List Tree) × D=>x.2) (cells:=fun q=>[li cY ys,.int .i64 q]) (x,resD (Qf Tryz.prog S_ Tryz.f17.results.toList).2.1) p' he_ ⟨h1.1,rfl,h1.2.2⟩ ⟨hg,h1.2.1⟩ h2
set_option maxHeartbeats 4000000 in
theorem l10Labels_spec (ys:List UInt8) (p:Int) (b:Nat)  (hl:ys.length ≤ 2000) (h0_:0 ≤ p) (hp_:p + 26 ≤ 1000000)  : SpecR Tryz.prog 17 [.ptr b 0] (one b [li cY ys,.int .i64 p]) (fun c=>((zaak p c).1.2,one b [li cY ys,.int .i64 (zaak p c).2])):=by
  refine SpecR.of_walk Tryz.func17 rfl (by simp [Tryz.f17]) fun B=>?_
  (repeat' (first
 | refine Qt ?_
 | refine Qc (id:=0) Us [] (by kernel_rfl) ?_;simp [-zg,-zd,↓Qb,↓Qa,go_sem]
 | refine Qc (id:=1) Us [] (by kernel_rfl) ?_;simp [-zg,-zd,↓Qb,↓Qa,go_sem,hl,(show 0 ≤ p by omega),(show p ≤ 1000000 by omega),(show 0 ≤ p + 1 by omega),(show p + 1 ≤ 1000000 by omega),(show p + 23 ≤ 1000000 by omega)];try ((intro c1);(have z0:=l8Labels_ok p c1);(generalize Vf p c1 = z at *);(obtain ⟨xs,p1⟩:=z);(simp only [Ua] at z0);(obtain ⟨z1,z2,z3⟩:=z0);(try dsimp only at z2 z3);(refine Jh 3 rfl fun u cu ju hu hcu hdu=>?_);(have ub:¬ u = b:=(by rintro rfl;simp [upd] at hu));(clear hu);(dsimp only at hcu hdu);(refine Qw (fun H5=>H5 b = some [.list ys.length (cat cY ys),.int .i64 p1] ∧ H5 u = some (cat cX xs ++ zrP ju .any)) ⟨by simp [upd,ub,zS ub],by simp [upd,ub,zS ub]⟩ fun H5 ⟨v1,v2⟩=>?_))
 | refine Qc (id:=2) Us [] (by kernel_rfl) ?_;simp [-zg,-zd,↓Qb,↓Qa,go_sem]
 | refine Qc (id:=3) Us [] (by kernel_rfl) ?_;simp [-zg,-zd,↓Qb,↓Qa,go_sem]
 | refine Qc (id:=5) Us [] (by kernel_rfl) ?_;simp [-zg,-zd,↓Qb,↓Qa,go_sem,g4,hl,ub,zS ub,(show 0 ≤ q.2.2.1 by omega),(show q.2.2.1 ≤ 1000000 by omega),(show 0 ≤ q.2.2.1 + 1 by omega),(show q.2.2.1 + 1 ≤ 1000000 by omega)]
 | ((have hiq:q.2.1 < q.1.length:=(by omega));(obtain ⟨ZZ,hZZ⟩:∃ ZZ,ZZ = stSeg (cat cX q.1 ++ zrP ju .any) (q.2.1 * 3) [.int .i64 1,.int .i64 1,.nil]:=⟨_,rfl⟩));refine Qc (id:=6) Us [] (by kernel_rfl) ?_;simp [-zg,-zd,↓Qb,↓Qa,go_sem,g5,ub,zS ub,← hZZ,(show q.2.1 < xs.length by omega),(show q.2.1 * 3 + 3 ≤ xs.length * 3 + ju by omega),(show q.2.1 * 3 < xs.length * 3 + ju by omega),g2];try ((refine zafw u (q.2.1 * 3 + 2) (all:=ZZ) (by simp [upd,ub,zS ub]) (by rw [hZZ];exact get_nil3 hiq _ _ _) rfl ?_);(obtain ⟨ts,hts,ht1⟩:∃ ts,ts = q.1.set q.2.1 (.mk 1 1 []) ∧ ts.length = xs.length:=⟨_,rfl,by simp [g2]⟩);(refine Qw (fun H6=>H6 b = some [.list ys.length (cat cY ys),.int .i64 (q.2.2.1 + 1)] ∧ H6 u = some (cat cX ts ++ zrP ju .any)) ⟨by simp [upd,ub,zS ub],by rw [hts,← set_nil3 hiq 1 1 (zrP ju .any),← hZZ];simp [upd,dat]⟩ fun H6 ⟨w6,w7⟩=>?_))
 | ((first | (have ht2:=ht1;skip) | ((obtain ⟨ts,hts,ht1⟩:∃ ts,ts = q.1 ∧ ts.length = xs.length:=⟨_,rfl,g2⟩);(refine Qw (fun H6=>H6 b = some [.list ys.length (cat cY ys),.int .i64 (q.2.2.1 + 1)] ∧ H6 u = some (cat cX ts ++ zrP ju .any)) ⟨by simp [upd,ub,zS ub],by rw [hts];simp [upd,ub,zS ub,g5]⟩ fun H6 ⟨w6,w7⟩=>?_))));refine Qc (id:=4) Us [] (by kernel_rfl) ?_;simp [-zg,-zd,↓Qb,↓Qa,go_sem,wrapS (k:=q.2.1) (by omega)]
 | ((have hTk:(cat cX q.1 ++ zrP ju D.any).take (xs.length * 3) = cat cX q.1:=(by rw [← g2];exact Uh q.1 _));(refine Jw 3 (b:=u) (all:=cat cX q.1 ++ zrP ju .any) rfl g5 (by omega) (by simp [Qu,g2]) (by simp [Qu,g2] <;> omega) ?_));refine Qc (id:=7) Us [] (by kernel_rfl) ?_;simp [-zg,-zd,↓Qb,↓Qa,go_sem,ub,zS ub,g4,hTk]
 | refine Qd (c:=.tmp 10) ?_;simp [-zg,-zd,↓Qb,↓Qa,go_sem];try first | (refine ⟨?_,?_⟩ <;> refine zA ?_) | (refine ⟨fun c10=>?_,fun c10=>?_⟩ <;> (try simp [B_iff,B_not] at c10))
 | refine Qd (c:=.tmp 15) ?_;simp [-zg,-zd,↓Qb,↓Qa,go_sem];try first | (refine ⟨?_,?_⟩ <;> refine zA ?_) | (refine ⟨fun c15=>?_,fun c15=>?_⟩ <;> (try simp [B_iff,B_not] at c15))
 | (refine Qg (id:=0) (Qx (ι:=List Tree × Nat × Int × Hp) (fun q:List Tree × Nat × Int × Hp=>⟨(upd (upd (upd (fun _=>.any) 0 (.ptr b 0)) 3 (.sl u 3 0 xs.length cu)) 4 (.int .i64 q.2.1)),q.2.2.2⟩) (fun q=>q.2.1 ≤ xs.length ∧ q.1.length = xs.length ∧ (p ≤ q.2.2.1 ∧ q.2.2.1 ≤ p + 23 + q.2.1) ∧ q.2.2.2 b = some [.list ys.length (cat cY ys),.int .i64 q.2.2.1] ∧ q.2.2.2 u = some (cat cX q.1 ++ zrP ju .any)) (fun q=>xs.length - q.2.1) ((xs,0,p1,H5)) ?_ ?_ ?_);exact ⟨Nat.zero_le _,rfl,by dsimp only;omega,v1,v2⟩;((repeat' (first | exact Qh (by assumption) | exact Qj | refine Qk ?_ ?_ | refine Qi ?_)) <;> simp [-zg,-zd,↓Qb,↓Qa,go_sem]);rintro q ⟨g1,g2,g3,g4,g5⟩)
 | (refine ⟨(ts,q.2.1 + 1,q.2.2.1 + 1,H6),⟨by dsimp only;omega,ht1,by dsimp only;omega,w6,w7⟩,by first | omega | (simp;done) | (simp;omega),?_⟩;((repeat' (first | exact Qh (by assumption) | exact Qj | refine Qk ?_ ?_ | refine Qi ?_)) <;> simp [-zg,-zd,↓Qb,↓Qa,go_sem]))
 | (refine Qg ?_)
 | (refine Qs ?_;simp [-zg,-zd,↓Qb,↓Qa,go_sem])
 | (refine Qr ?_;simp [-zg,-zd,↓Qb,↓Qa,go_sem])
 | (refine Qq ?_;try simp [-zg,-zd,↓Qb,↓Qa,go_sem,Tryz.results17])
 | (intro hx;refine zA ?_)
 | (intro hx;change retR _ _ _ _ _)
 | (refine ⟨?_,?_⟩ <;> refine zA ?_)
 | (intro hx;constructor <;> intro hs)
 | (constructor <;> intro hs)
 | (refine ⟨?_,fun hs=>?_⟩;refine zA ?_)
 | (refine ⟨fun hs=>?_,?_⟩;rotate_left;refine zA ?_;rotate_left)))
  all_goals (first
 | (refine l10Labels_ret _ _ _ (q.1) (q.2.2.1) ?_ ?_ ?_ ?_;(first | exact Or.inl rfl | exact Or.inr rfl);(focus (simp [-zg,-zd,↓Qb,↓Qa,go_sem,Tryz.results17,ub,zS ub,g4,li,dat,Xh,g2,hTk,Zr];done));(focus ((simp only [We];omega);done));(focus (refine ⟨?_,?_⟩ <;> omega)))
 | skip)
@[go_sem] def zalx:Con:=.rel fun args H=>match args with
  | [.ptr b 0]=>match H b with
    | some [.list m cs,.int .i64 p]=>((Is cY m cs) ∧ (m ≤ 2000) ∧ (0 ≤ p) ∧ (p + 26 ≤ 1000000),fun c=>(Ub (Ve p c).1,upd H b (some [.list m cs,.int .i64 (Ve p c).2])))
    | _=>(False,fun _=>(.any,H))
  | _=>(False,fun _=>(.any,H))
theorem l10LabelsC_ok:ConOk Tryz.prog 17 zalx:=by
  refine ⟨Qo Tryz.func17 (by decide) rfl,fun args H h=>?_⟩
  revert h
  dsimp only
  split
  · split
    · rename_i hH
      intro h
      obtain ⟨⟨ys,rfl,rfl⟩,hl,h0_,hp_⟩:=h
      try simp only [Qm] at *
      exact SpecR.enc ((l10Labels_spec ys _ _ hl h0_ hp_ ).frame hH).shut fun c=>Prod.ext (zajj  _ _).2.symm rfl
    · intro h;exact h.elim
  · intro h
    exact h.elim
@[go_sem] def Γl6:FuncId → Con:=ext Γl5 17 zalx
theorem Xx:∀ g,ConOk Tryz.prog g (Γl6 g):=Qn Us l10LabelsC_ok


theorem set_catI {xs:List Int} {i:Nat} (h:i < xs.length) (y:Int) (junk:List D):(cat cI xs ++ junk).set i (.int .i64 y) = cat cI (xs.set i y) ++ junk:=by
  have e0:(cat cI (xs.take i)).length = i:=by rw [zakm (f:=cI) (sz:=1) h];omega
  rw [zaml h,cat_setj h,List.set_append,if_neg (by omega),e0,Nat.sub_self]
  rfl
theorem set_catI2 {xs:List Int} {i:Nat} (h:i < xs.length) (y:Int):(cat cI xs).set i (.int .i64 y) = cat cI (xs.set i y):=by
  have:=set_catI h y [];rwa [List.append_nil,List.append_nil] at this

@[go_sem] def Uc:List Int → D:=fun x=>li cI x
theorem l10Blocks_flat (x:List Int):dat (Uc x) = Uc x:=by simp [go_sem]
def Vy (a:List Ints2) (bb:List (List Int)) (xs:List Tree):List Int → Prop:=fun x=>x.length ≤ 1001
def zagt (a:List Ints2) (bb:List (List Int)) (xs:List Tree) (x:(List Int) × D):Prop:=Vy a bb xs x.1 ∧ dat x.2 = Uc x.1
def zaal (a:List Ints2) (bb:List (List Int)) (xs:List Tree) (p:Int) (c:Any):((List Int) × D) × Int:=dsel (zagt a bb xs) (([]:List Int),Uc ([])) 1010 p c
def zaav (a:List Ints2) (bb:List (List Int)) (xs:List Tree) (p:Int) (c:Any):(List Int) × Int:=((zaal a bb xs p c).1.1,(zaal a bb xs p c).2)
theorem l10Blocks_okD (a:List Ints2) (bb:List (List Int)) (xs:List Tree) (ha:a.length ≤ 1000) (p:Int) (c:Any):(Vy a bb xs (zaav a bb xs p c).1 ∧ p ≤ (zaav a bb xs p c).2 ∧ (zaav a bb xs p c).2 ≤ p + 1010) ∧ dat (zaal a bb xs p c).1.2 = Uc (zaav a bb xs p c).1:=by
  have hx:Vy a bb xs ([]):=by simp [Vy]
  have h:=Vc (good:=zagt a bb xs) (x0:=(([]:List Int),Uc ([]))) ⟨hx,l10Blocks_flat _⟩ (K:=1010) (by omega) (p:=p) c
  exact ⟨⟨h.1.1,h.2.1,h.2.2⟩,h.1.2⟩
theorem zadl (a:List Ints2) (bb:List (List Int)) (xs:List Tree) (ys:List UInt8) (p:Int) (b:Nat) {e_:Exit} {S_:St} (x:List Int) (p':Int) (he_:e_ = .ret ∨ e_ = .normal)
    (h1:(Qf Tryz.prog S_ Tryz.f20.results.toList).1 ∧ dat (resD (Qf Tryz.prog S_ Tryz.f20.results.toList).2.1) = Uc x ∧ (Qf Tryz.prog S_ Tryz.f20.results.toList).2.2.H b = some [li cY ys,.int .i64 p']) (hg:Vy a bb xs x) (h2:p ≤ p' ∧ p' ≤ p + 1010) :
    retR Tryz.prog Tryz.f20 (fun c=>((zaal a bb xs p c).1.2,one b [li cY ys,.int .i64 (zaal a bb xs p c).2])) e_ S_ :=
  Jv (good:=zagt a bb xs) (enc:=fun x:(List Int) × D=>x.2) (cells:=fun q=>[li cY ys,.int .i64 q]) (x,resD (Qf Tryz.prog S_ Tryz.f20.results.toList).2.1) p' he_ ⟨h1.1,rfl,h1.2.2⟩ ⟨hg,h1.2.1⟩ h2
set_option maxHeartbeats 4000000 in
theorem l10Blocks_spec (ys:List UInt8) (p:Int) (b:Nat) (a:List Ints2) (bb:List (List Int)) (xs:List Tree) (hl:ys.length ≤ 2000) (h0_:0 ≤ p) (hp_:p + 1010 ≤ 1000000) (ha:a.length ≤ 1000):SpecR Tryz.prog 20 [.ptr b 0,.st [li cP a,li cL bb],li cX xs] (one b [li cY ys,.int .i64 p]) (fun c=>((zaal a bb xs p c).1.2,one b [li cY ys,.int .i64 (zaal a bb xs p c).2])):=by
  refine SpecR.of_walk Tryz.func20 rfl (by simp [Tryz.f20]) fun B=>?_
  (repeat' (first
 | refine Qt ?_
 | refine Qc (id:=0) Xx [] (by kernel_rfl) ?_;simp [-zg,-zd,↓Qb,↓Qa,go_sem];try (refine Xe 4 ?_;simp [go_sem])
 | refine Qc (id:=1) Xx [] (by kernel_rfl) ?_;simp [-zg,-zd,↓Qb,↓Qa,go_sem];try ((intro c1);(have z0:=zanv a bb xs c1);(generalize zadi a bb xs c1 = z at *);(obtain ⟨bl,ok⟩:=z);(simp only [Wa] at z0))
 | refine Qc (id:=2) Xx [19] (by kernel_rfl) ?_;simp [-zg,-zd,↓Qb,↓Qa,go_sem,hl,(show 0 ≤ p by omega),(show p ≤ 1000000 by omega),(show 0 ≤ p + 1 by omega),(show p + 1 ≤ 1000000 by omega)];try (refine ⟨fun s2a=>?_,fun s2a=>?_⟩ <;> (try simp [B_iff,B_not] at s2a) <;> try (refine ⟨fun s2b=>?_,fun s2b=>?_⟩ <;> (try simp [B_iff,B_not] at s2b)))
 | refine Qc (id:=3) Xx [] (by kernel_rfl) ?_;simp [-zg,-zd,↓Qb,↓Qa,go_sem];try ((refine Qw (fun H1=>∃ q0,p ≤ q0 ∧ q0 ≤ p + 1 ∧ H1 b = some [.list ys.length (cat cY ys),.int .i64 q0]) (by first | (refine ⟨p + 1,by omega,by omega,?_⟩;simp [upd];done) | (refine ⟨p,by omega,by omega,?_⟩;simp [upd];done)) fun H1 ⟨q0,h1,h2,w0⟩=>?_))
 | refine Qc (id:=4) Xx [] (by kernel_rfl) ?_;simp [-zg,-zd,↓Qb,↓Qa,go_sem]
 | refine Qc (id:=5) Xx [] (by kernel_rfl) ?_;simp [-zg,-zd,↓Qb,↓Qa,go_sem]
 | refine Qc (id:=7) Xx [] (by kernel_rfl) ?_;simp [-zg,-zd,↓Qb,↓Qa,go_sem,g4,hl,(show 0 ≤ q.2.2.1 by omega),(show q.2.2.1 ≤ 1000000 by omega),(show 0 ≤ q.2.2.1 + 1 by omega),(show q.2.2.1 + 1 ≤ 1000000 by omega),(show q.1.length ≤ 9223372036854775806 by omega),(show 2 * (q.1.length + 1) * 24 ≤ 281474976710656 by omega),(show q.1.length + 1 ≤ 9223372036854775807 by omega)]
 | refine Qc (id:=6) Xx [] (by kernel_rfl) ?_;simp [-zg,-zd,↓Qb,↓Qa,go_sem,wrapS (k:=q.2.1) (by omega)]
 | ((refine Xe 9 ?_);(have hkl:q.1.length ≤ 1048577:=(by omega)));refine Qc (id:=8) Xx [] (by kernel_rfl) ?_;simp [-zg,-zd,↓Qb,↓Qa,go_sem,hkl];try ((refine Xe 7 ?_);(simp [go_sem]);(obtain ⟨bk,hbk,hbl⟩:∃ bk,bk = numK q.1 ∧ bk.length ≤ 1000:=⟨_,rfl,by rw [Up];omega⟩);(rw [← hbk]))
 | ((first | (have hb9:=hbl;skip) | (obtain ⟨bk,hbk,hbl⟩:∃ bk,bk = bl ∧ bk.length ≤ 1000:=⟨_,rfl,by omega⟩;rw [← hbk]));(refine Qw (fun H1=>∃ q1,p ≤ q1 ∧ q1 ≤ p + 1 + a.length ∧ H1 b = some [.list ys.length (cat cY ys),.int .i64 q1]) (by first | exact ⟨q.2.2.1,by omega,by omega,g4⟩ | (refine ⟨p + 1,by omega,by omega,?_⟩;simp [upd];done)) fun H2 ⟨q1,f1,f2,w1⟩=>?_));refine Qc (id:=9) Xx [] (by kernel_rfl) ?_;simp [-zg,-zd,↓Qb,↓Qa,go_sem,w1,hl,(show 0 ≤ q1 by omega),(show q1 ≤ 1000000 by omega),(show 0 ≤ q1 + 1 by omega),(show q1 + 1 ≤ 1000000 by omega)]
 | refine Qc (id:=10) Xx [] (by kernel_rfl) ?_;simp [-zg,-zd,↓Qb,↓Qa,go_sem]
 | refine Qc (id:=11) Xx [] (by kernel_rfl) ?_;simp [-zg,-zd,↓Qb,↓Qa,go_sem,(show bk.length ≤ 9223372036854775807 by omega),(show 2 * bk.length * 8 ≤ 281474976710656 by omega),(show bk.length ≤ 9223372036854775806 by omega),(show 2 * (bk.length + 1) * 8 ≤ 281474976710656 by omega),(show bk.length + 1 ≤ 9223372036854775807 by omega)]
 | refine Qc (id:=12) Xx [] (by kernel_rfl) ?_;simp [-zg,-zd,↓Qb,↓Qa,go_sem]
 | refine Qc (id:=13) Xx [] (by kernel_rfl) ?_;simp [-zg,-zd,↓Qb,↓Qa,go_sem]
 | refine Qc (id:=14) Xx [] (by kernel_rfl) ?_;simp [-zg,-zd,↓Qb,↓Qa,go_sem,(show bk.length ≤ 9223372036854775807 by omega),(show 2 * bk.length * 8 ≤ 281474976710656 by omega)];try ((refine Jh 7 rfl fun v cv jv hv hcv hdv=>?_);(have vb:¬ v = b:=(by rintro rfl;simp [upd] at hv));(clear hv);(refine Qw (fun H3=>H3 b = some [.list ys.length (cat cY ys),.int .i64 (q1 + 1)] ∧ H3 v = some (cat cI bk ++ zrP jv .any)) ⟨by simp [upd,vb,zS vb],by simp [upd,vb,zS vb]⟩ fun H3 ⟨u1,u2⟩=>?_))
 | ((obtain ⟨hk1,hk2⟩:=zajx ys (p:=q1 + 1) (by omega) (n:=(bk.length:Int)) (by omega));(have hkz:(pkI ys (q1 + 1) bk.length).toNat < bk.length:=(by omega)));refine Qc (id:=15) Xx [] (by kernel_rfl) ?_;simp [-zg,-zd,↓Qb,↓Qa,go_sem,u1,u2,hl,vb,zS vb,(show 0 ≤ q1 + 1 by omega),(show q1 + 1 ≤ 1000000 by omega),(show 0 ≤ q1 + 1 + 1 by omega),(show q1 + 1 + 1 ≤ 1000000 by omega),(show 0 ≤ q1 + 1 + 1 + 1 by omega),(show q1 + 1 + 1 + 1 ≤ 1000000 by omega),hk1,hk2,hkz,(show (pkI ys (q1 + 1) bk.length).toNat < bk.length + jv by omega),(show (pkI ys (q1 + 1) bk.length).toNat + 1 ≤ bk.length + jv by omega),(show (1:Int) ≤ (bk.length:Int) by omega),(show (0:Int) < (bk.length:Int) by omega),(show (bk.length:Int) ≤ 1000000 by omega)];try ((obtain ⟨bm,hbm,hbn⟩:∃ bm,bm = bk.set (pkI ys (q1 + 1) bk.length).toNat (numI ys (q1 + 1 + 1) [-1,0,60,1]) ∧ bm.length = bk.length:=⟨_,rfl,by simp⟩);(refine Qw (fun H4=>H4 b = some [.list ys.length (cat cY ys),.int .i64 (q1 + 1 + 1 + 1)] ∧ H4 v = some (cat cI bm ++ zrP jv .any)) ⟨by simp [upd,vb,zS vb],by rw [hbm];simp [upd,vb,zS vb,set_catI hkz,set_catI2 hkz]⟩ fun H4 ⟨u3,u4⟩=>?_);(refine Jw 7 (b:=v) (all:=cat cI bm ++ zrP jv .any) rfl u4 (by omega) (by simp [Qu,hbn]) (by simp [Qu,hbn] <;> omega) ?_);(have hTm:(cat cI bm ++ zrP jv D.any).take bk.length = cat cI bm:=(by rw [← hbn];exact Jo bm _)))
 | refine Qc (id:=16) Xx [] (by kernel_rfl) ?_;simp [-zg,-zd,↓Qb,↓Qa,go_sem]
 | refine Qc (id:=17) Xx [] (by kernel_rfl) ?_;simp [-zg,-zd,↓Qb,↓Qa,go_sem,(show (0:Int) ≤ (a.length:Int) by omega),(show (a.length:Int) ≤ 1000000 by omega),Jj]
 | refine Qc (id:=18) Xx [] (by kernel_rfl) ?_;simp [-zg,-zd,↓Qb,↓Qa,go_sem]
 | refine Qd (c:=.tmp 23) ?_;simp [-zg,-zd,↓Qb,↓Qa,go_sem];try first | (refine ⟨?_,?_⟩ <;> refine zA ?_) | (refine ⟨fun c23=>?_,fun c23=>?_⟩ <;> (try simp [B_iff,B_not] at c23))
 | refine Qd (c:=.tmp 29) ?_;simp [-zg,-zd,↓Qb,↓Qa,go_sem];try first | (refine ⟨?_,?_⟩ <;> refine zA ?_) | (refine ⟨fun c29=>?_,fun c29=>?_⟩ <;> (try simp [B_iff,B_not] at c29))
 | refine Qd (c:=.tmp 42) ?_;simp [-zg,-zd,↓Qb,↓Qa,go_sem];try first | (refine ⟨?_,?_⟩ <;> refine zA ?_) | (refine ⟨fun c42=>?_,fun c42=>?_⟩ <;> (try simp [B_iff,B_not] at c42))
 | refine Qd (c:=.tmp 49) ?_;simp [-zg,-zd,↓Qb,↓Qa,go_sem];try first | (refine ⟨?_,?_⟩ <;> refine zA ?_) | (refine ⟨fun c49=>?_,fun c49=>?_⟩ <;> (try simp [B_iff,B_not] at c49))
 | refine Qd (c:=.tmp 53) ?_;simp [-zg,-zd,↓Qb,↓Qa,go_sem];try first | (refine ⟨?_,?_⟩ <;> refine zA ?_) | (refine ⟨fun c53=>?_,fun c53=>?_⟩ <;> (try simp [B_iff,B_not] at c53))
 | refine Qd (c:=.tmp 66) ?_;simp [-zg,-zd,↓Qb,↓Qa,go_sem];try first | (refine ⟨?_,?_⟩ <;> refine zA ?_) | (refine ⟨fun c66=>?_,fun c66=>?_⟩ <;> (try simp [B_iff,B_not] at c66))
 | (refine Qg (id:=0) (Qx (ι:=List (List Int) × Nat × Int × Hp) (fun q:List (List Int) × Nat × Int × Hp=>⟨(upd (upd (upd (upd (fun _=>.any) 0 (.ptr b 0)) 4 (.pd [li cP a,li cL bb])) 9 (.fr 1 q.1.length (cat oL q.1))) 10 (.int .i64 q.2.1)),q.2.2.2⟩) (fun q=>q.2.1 ≤ a.length ∧ q.1.length = q.2.1 ∧ (p ≤ q.2.2.1 ∧ q.2.2.1 ≤ p + 1 + q.2.1) ∧ q.2.2.2 b = some [.list ys.length (cat cY ys),.int .i64 q.2.2.1]) (fun q=>a.length - q.2.1) (([],0,q0,H1)) ?_ ?_ ?_);exact ⟨Nat.zero_le _,rfl,by dsimp only;omega,w0⟩;((repeat' (first | exact Qh (by assumption) | exact Qj | refine Qk ?_ ?_ | refine Qi ?_)) <;> simp [-zg,-zd,↓Qb,↓Qa,go_sem,Xl]);rintro q ⟨g1,g2,g3,g4⟩)
 | (refine ⟨(q.1 ++ [[pkI ys q.2.2.1 3]],q.2.1 + 1,q.2.2.1 + 1,upd q.2.2.2 b (some [.list ys.length (cat cY ys),.int .i64 (q.2.2.1 + 1)])),⟨by dsimp only;omega,by simp;omega,by dsimp only;omega,by simp [upd]⟩,by first | omega | (simp;done) | (simp;omega),?_⟩;((repeat' (first | exact Qh (by assumption) | exact Qj | refine Qk ?_ ?_ | refine Qi ?_)) <;> simp [-zg,-zd,↓Qb,↓Qa,go_sem,Xk,Xi,oL,fr,cI]))
 | (refine Qg ?_)
 | (refine Qs ?_;simp [-zg,-zd,↓Qb,↓Qa,go_sem])
 | (refine Qr ?_;simp [-zg,-zd,↓Qb,↓Qa,go_sem])
 | (refine Qq ?_;try simp [-zg,-zd,↓Qb,↓Qa,go_sem,Tryz.results20])
 | (intro hx;refine zA ?_)
 | (intro hx;change retR _ _ _ _ _)
 | (refine ⟨?_,?_⟩ <;> refine zA ?_)
 | (intro hx;constructor <;> intro hs)
 | (constructor <;> intro hs)
 | (refine ⟨?_,fun hs=>?_⟩;refine zA ?_)
 | (refine ⟨fun hs=>?_,?_⟩;rotate_left;refine zA ?_;rotate_left)))
  all_goals (first
 | (refine zadl _ _ _ _ _ _ (bk ++ [0]) (q1 + 1) ?_ ?_ ?_ ?_;(first | exact Or.inl rfl | exact Or.inr rfl);(focus (simp [-zg,-zd,↓Qb,↓Qa,go_sem,Tryz.results20,li,dat,Xh,Xk,Xi,cI,Zr,w1];done));(focus ((simp [Vy];omega);done));(focus (refine ⟨?_,?_⟩ <;> omega)))
 | (refine zadl _ _ _ _ _ _ (bm) (q1 + 1 + 1 + 1) ?_ ?_ ?_ ?_;(first | exact Or.inl rfl | exact Or.inr rfl);(focus (simp [-zg,-zd,↓Qb,↓Qa,go_sem,Tryz.results20,li,dat,Xh,Zr,hTm,hbn,u3,vb,zS vb];done));(focus ((simp only [Vy];omega);done));(focus (refine ⟨?_,?_⟩ <;> omega)))
 | (refine zadl _ _ _ _ _ _ (upto a.length) (q1 + 1) ?_ ?_ ?_ ?_;(first | exact Or.inl rfl | exact Or.inr rfl);(focus (simp [-zg,-zd,↓Qb,↓Qa,go_sem,Tryz.results20,li,dat,Xh,Zr,Jj];done));(focus ((simp [Vy,Jj];omega);done));(focus (refine ⟨?_,?_⟩ <;> omega)))
 | (refine zadl _ _ _ _ _ _ (bk) (q1 + 1) ?_ ?_ ?_ ?_;(first | exact Or.inl rfl | exact Or.inr rfl);(focus (simp [-zg,-zd,↓Qb,↓Qa,go_sem,Tryz.results20,li,dat,Xh,Zr];done));(focus ((simp only [Vy];omega);done));(focus (refine ⟨?_,?_⟩ <;> omega)))
 | skip)
@[go_sem] def zaly:Con:=.rel fun args H=>match args with
  | [.ptr b 0,.st [.list n_a c_a,.list n_bb c_bb],.list n_xs c_xs]=>match H b with
    | some [.list m cs,.int .i64 p]=>((Is cY m cs) ∧ (m ≤ 2000) ∧ (0 ≤ p) ∧ (p + 1010 ≤ 1000000) ∧ (Is cP n_a c_a) ∧ (Is cL n_bb c_bb) ∧ (Is cX n_xs c_xs) ∧ ((de cP c_a).length ≤ 1000),fun c=>(Uc (zaav (de cP c_a) (de cL c_bb) (de cX c_xs) p c).1,upd H b (some [.list m cs,.int .i64 (zaav (de cP c_a) (de cL c_bb) (de cX c_xs) p c).2])))
    | _=>(False,fun _=>(.any,H))
  | _=>(False,fun _=>(.any,H))
theorem l10BlocksC_ok:ConOk Tryz.prog 20 zaly:=by
  refine ⟨Qo Tryz.func20 (by decide) rfl,fun args H h=>?_⟩
  revert h
  dsimp only
  split
  · split
    · rename_i hH
      intro h
      obtain ⟨⟨ys,rfl,rfl⟩,hl,h0_,hp_,⟨a,rfl,rfl⟩,⟨bb,rfl,rfl⟩,⟨xs,rfl,rfl⟩,ha⟩:=h
      try simp only [Qm] at *
      exact SpecR.enc ((l10Blocks_spec ys _ _ a bb xs hl h0_ hp_ ha).frame hH).shut fun c=>Prod.ext (l10Blocks_okD _ _ _ ha _ _).2.symm rfl
    · intro h;exact h.elim
  · intro h
    exact h.elim
@[go_sem] def Γl7:FuncId → Con:=ext Γl6 20 zaly
theorem zanw:∀ g,ConOk Tryz.prog g (Γl7 g):=Qn Xx l10BlocksC_ok

end
end Go.Proofs.YtmiimodggpjkmaaGreat.Vm

