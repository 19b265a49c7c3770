import Derived.Test.YtiilmjojffjhlaaGreatDoorZE
/-
  Draws: systems. No conditions.
-/
namespace Go.Proofs.YtiilmjojffjhlaaGreatDoor.Vm
open Go
open List renaming getD_eq_getElem?_getD → zg,drop_one → zd
open Ne renaming symm → zS
noncomputable section
set_option linter.unusedVariables false
set_option linter.unusedSimpArgs false
set_option maxRecDepth 200000

@[go_sem] def sS (x:List Int × List Pr):D:=.st [li cI x.1,li cR x.2]
@[go_sem] def Ul:List Int × List Pr → D:=sS
theorem l2System_flat (x:List Int × List Pr):dat (Ul x) = Ul x:=by simp [go_sem]
def zaef  : List Int × List Pr → Prop:=fun _=>True
def zamy  (x:(List Int × List Pr) × D):Prop:=zaef x.1 ∧ dat x.2 = Ul x.1
def zabp  (p:Int) (c:Any):((List Int × List Pr) × D) × Int:=dsel (zamy) ((([],[]):List Int × List Pr),Ul (([],[]))) 2000 p c
def Vl  (p:Int) (c:Any):(List Int × List Pr) × Int:=((zabp p c).1.1,(zabp p c).2)
theorem zarh   (p:Int) (c:Any):(zaef (Vl p c).1 ∧ p ≤ (Vl p c).2 ∧ (Vl p c).2 ≤ p + 2000) ∧ dat (zabp p c).1.2 = Ul (Vl p c).1:=by
  have hx:zaef (([],[])):=trivial
  have h:=Zy (good:=zamy) (x0:=((([],[]):List Int × List Pr),Ul (([],[])))) ⟨hx,l2System_flat _⟩ (K:=2000) (by omega) (p:=p) c
  exact ⟨⟨h.1.1,h.2.1,h.2.2⟩,h.1.2⟩
theorem l2System_ok   (p:Int) (c:Any):zaef (Vl p c).1 ∧ p ≤ (Vl p c).2 ∧ (Vl p c).2 ≤ p + 2000:=(zarh  p c).1
theorem l2System_ret  (ys:List UInt8) (p:Int) (b:Nat) {e_:Exit} {S_:St} (x:List Int × List Pr) (p':Int) (he_:e_ = .ret ∨ e_ = .normal)
    (h1:(Qd Tryz.prog S_ Tryz.f130.results.toList).1 ∧ dat (resD (Qd Tryz.prog S_ Tryz.f130.results.toList).2.1) = Ul x ∧ (Qd Tryz.prog S_ Tryz.f130.results.toList).2.2.H b = some [li cY ys,.int .i64 p']) (hg:zaef x) (h2:p ≤ p' ∧ p' ≤ p + 2000) :
    retR Tryz.prog Tryz.f130 (fun c=>((zabp p c).1.2,one b [li cY ys,.int .i64 (zabp p c).2])) e_ S_ :=
  Zw (good:=zamy) (enc:=fun x:(List Int × List Pr) × D=>x.2) (cells:=fun q=>[li cY ys,.int .i64 q]) (x,resD (Qd Tryz.prog S_ Tryz.f130.results.toList).2.1) p' he_ ⟨h1.1,rfl,h1.2.2⟩ ⟨hg,h1.2.1⟩ h2
set_option maxHeartbeats 4000000 in
theorem l2System_spec (ys:List UInt8) (p:Int) (b:Nat)  (hl:ys.length ≤ 2000) (h0_:0 ≤ p) (hp_:p + 2000 ≤ 1000000)  : SpecR Tryz.prog 130 [.ptr b 0] (one b [li cY ys,.int .i64 p]) (fun c=>((zabp p c).1.2,one b [li cY ys,.int .i64 (zabp p c).2])):=by
  refine SpecR.of_walk Tryz.func130 rfl (by simp [Tryz.f130]) fun B=>?_
  (repeat' (first
 | refine Qt ?_
 | refine Qc (id:=1) Va [] (by kernel_rfl) ?_;simp [-zg,-zd,↓Qb,↓Qa,go_sem,hl,(show 0 ≤ p by omega),(show p ≤ 1000000 by omega),(show 0 ≤ p + 1 by omega),(show p + 1 ≤ 1000000 by omega),(show 0 ≤ p + 1 + 1 by omega),(show p + 1 + 1 ≤ 1000000 by omega)];try ((generalize pkI ys p 2 = x1 at *);(generalize numI ys (p + 1) [0,0,1,3] = x2 at *);(refine zagw 3 2 rfl ?_);(refine Xs 3 rfl fun sb hsb=>?_);(have hbs:¬ b = sb:=(by rintro rfl;simp [go_sem] at hsb));(clear hsb);(refine Qp (fun H1=>H1 b = some [.list ys.length (cat cY ys),.int .i64 (p + 1 + 1)] ∧ H1 sb = some [.fr 1 3 [.int .i64 x1,.int .i64 x2,.int .i64 0],.fr 2 0 []]) ⟨by simp [go_sem,hbs],by simp [go_sem,hbs]⟩ fun H1 ⟨w1,w2⟩=>?_))
 | refine Qc (id:=2) Va [] (by kernel_rfl) ?_;simp [-zg,-zd,↓Qb,↓Qa,go_sem,w1,hl,(show 0 ≤ p + 1 + 1 by omega),(show p + 1 + 1 ≤ 1000000 by omega),(show 0 ≤ p + 1 + 1 + 1 by omega),(show p + 1 + 1 + 1 ≤ 1000000 by omega)];try ((have hr:=Jx ys (p:=p + 1 + 1) (by omega) (xs:=[2,1,2,3]) (lo:=1) (hi:=3) (by simp) (by simp));(generalize numI ys (p + 1 + 1) [2,1,2,3] = kk at *))
 | refine Qc (id:=5) Va [] (by kernel_rfl) ?_;simp [-zg,-zd,↓Qb,↓Qa,go_sem,g5,hl,(show 0 ≤ q.2.2.1 by omega),(show q.2.2.1 ≤ 1000000 by omega),(show 0 ≤ q.2.2.1 + 1 by omega),(show q.2.2.1 + 1 ≤ 1000000 by omega)];try ((have hr5:=Jx ys (p:=q.2.2.1) (by omega) (xs:=[2,3,1,2]) (lo:=1) (hi:=3) (by simp) (by simp));(generalize numI ys q.2.2.1 [2,3,1,2] = lc at *);(refine zagw 5 10 rfl ?_);(refine Xs 5 rfl fun pb hpb=>?_);(have hbp:¬ b = pb:=(by rintro rfl;simp [upd] at hpb));(have hsp:¬ sb = pb:=(by rintro rfl;simp [upd,zS hbs,g6] at hpb));(clear hpb);(refine Qp (fun H2=>H2 b = some [.list ys.length (cat cY ys),.int .i64 (q.2.2.1 + 1)] ∧ H2 sb = some [.fr 1 3 [.int .i64 x1,.int .i64 x2,.int .i64 0],.fr 2 q.1.length (cat cR q.1)] ∧ H2 pb = some [.int .i64 lc,.fr 10 0 []]) ⟨by simp [upd,hbp],by simp [upd,hsp,zS hbs,g6],by simp [upd]⟩ fun H2 ⟨v1,v2,v3⟩=>?_))
 | refine Qc (id:=6) Va [] (by kernel_rfl) ?_;simp [-zg,-zd,↓Qb,↓Qa,go_sem,v1,hl,(show 0 ≤ q.2.2.1 + 1 by omega),(show q.2.2.1 + 1 ≤ 1000000 by omega),(show 0 ≤ q.2.2.1 + 1 + 1 by omega),(show q.2.2.1 + 1 + 1 ≤ 1000000 by omega)];try ((have hr6:=Jx ys (p:=q.2.2.1 + 1) (by omega) (xs:=[3,4,2,5,1]) (lo:=1) (hi:=5) (by simp) (by simp));(generalize numI ys (q.2.2.1 + 1) [3,4,2,5,1] = mm at *))
 | ((refine Xw pb 1 (all:=[.int .i64 lc,.fr 10 r.1.length (cat cE r.1)]) f7 rfl fun u cu ju hu hcu hdu=>?_);(have ub:¬ u = b:=(by intro e;rw [e] at hu;dsimp only at hu;rw [f5] at hu;cases hu));(have us:¬ u = sb:=(by intro e;rw [e] at hu;dsimp only at hu;rw [f6] at hu;cases hu));(have up:¬ u = pb:=(by intro e;rw [e] at hu;dsimp only at hu;rw [f7] at hu;cases hu));(clear hu));refine Xr (id:=9) Va mixed [(pb,[.int .i64 lc,.sl u 10 0 r.1.length cu])] [] [5] (by kernel_rfl) (by kernel_rfl) ?_ ?_ ?_ <;> simp [-zg,-zd,↓Qb,↓Qa,go_sem,f5,f6,hl,hbp,hbs,hsp,zS hbp,zS hbs,zS hsp,ub,us,up,zS ub,zS us,zS up,(show 0 ≤ r.2.2.1 by omega),(show lc ≤ 1000000 by omega),(show r.2.2.1 + 115 ≤ 1000000 by omega),hdu,(show r.1.length ≤ 9223372036854775806 by omega),(show 2 * (r.1.length + 1) * 112 ≤ 281474976710656 by omega)];try (intro c9;have z0:=l2DrawEdge_ok lc (by omega) r.2.2.1 c9;generalize Vg lc r.2.2.1 c9 = z at *;obtain ⟨-,z1,z2⟩:=z0;obtain ⟨t,p2⟩:=z;dsimp only at z1 z2;refine Qp (fun H3=>H3 b = some [.list ys.length (cat cY ys),.int .i64 p2] ∧ H3 sb = some [.fr 1 3 [.int .i64 x1,.int .i64 x2,.int .i64 0],.fr 2 q.1.length (cat cR q.1)] ∧ H3 pb = some [.int .i64 lc,.fr 10 (r.1 ++ [t]).length (cat cE (r.1 ++ [t]))]) ⟨by simp [upd,hbp,hbs,hsp,zS hbp,zS hbs,zS hsp,ub,us,up,zS ub,zS us,zS up],by simp [upd,hbp,hbs,hsp,zS hbp,zS hbs,zS hsp,ub,us,up,zS ub,zS us,zS up,f6],by simp [upd,hbp,hbs,hsp,zS hbp,zS hbs,zS hsp,ub,us,up,zS ub,zS us,zS up,Xk,Xg,cE,li]⟩ fun H3 ⟨u1,u2,u3⟩=>?_)
 | refine Qc (id:=8) Va [] (by kernel_rfl) ?_;simp [-zg,-zd,↓Qb,↓Qa,go_sem,Xa (x:=r.2.1 - 1) (by omega) (by omega)]
 | ((refine Yd pb 1 (all:=[.int .i64 lc,.fr 10 r.1.length (cat cE r.1)]) f7 rfl rfl ?_));refine Qc (id:=10) Va [] (by kernel_rfl) ?_;simp [-zg,-zd,↓Qb,↓Qa,go_sem,f6,hbp,hbs,hsp,zS hbp,zS hbs,zS hsp,dat,Qz,(show q.1.length ≤ 9223372036854775806 by omega),(show 2 * (q.1.length + 1) * 32 ≤ 281474976710656 by omega)];try (refine Qp (fun H5=>H5 b = some [.list ys.length (cat cY ys),.int .i64 r.2.2.1] ∧ H5 sb = some [.fr 1 3 [.int .i64 x1,.int .i64 x2,.int .i64 0],.fr 2 (q.1 ++ [Pr.mk lc r.1]).length (cat cR (q.1 ++ [Pr.mk lc r.1]))]) ⟨by simp [upd,hbp,hbs,hsp,zS hbp,zS hbs,zS hsp,f5],by simp [upd,hbp,hbs,hsp,zS hbp,zS hbs,zS hsp,Xk,Xg,cR,li]⟩ fun H5 ⟨y1,y2⟩=>?_)
 | refine Qc (id:=4) Va [] (by kernel_rfl) ?_;simp [-zg,-zd,↓Qb,↓Qa,go_sem,Xa (x:=q.2.1 - 1) (by omega) (by omega)]
 | refine Qc (id:=11) Va [] (by kernel_rfl) ?_;simp [-zg,-zd,↓Qb,↓Qa,go_sem,g6]
 | (refine Qe (id:=0) (Qw (ι:=List Pr × Int × Int × Hp) (fun q:List Pr × Int × Int × Hp=>⟨(upd (upd (upd (upd (fun _=>.any) 0 (.ptr b 0)) 2 (.box [.nil,.nil])) 3 (.ptr sb 0)) 4 (.int .i64 q.2.1)),q.2.2.2⟩) (fun q=>0 ≤ q.2.1 ∧ q.2.1 ≤ 3 ∧ (q.1.length:Int) + q.2.1 ≤ 3 ∧ p ≤ q.2.2.1 ∧ q.2.2.1 ≤ p + 3 + (3 - q.2.1) * 600 ∧ q.2.2.2 b = some [.list ys.length (cat cY ys),.int .i64 q.2.2.1] ∧ q.2.2.2 sb = some [.fr 1 3 [.int .i64 x1,.int .i64 x2,.int .i64 0],.fr 2 q.1.length (cat cR q.1)]) (fun q=>q.2.1.toNat) (([],kk,p + 1 + 1 + 1,upd H1 b (some [.list ys.length (cat cY ys),.int .i64 (p + 1 + 1 + 1)]))) ?_ ?_ ?_);exact ⟨by dsimp only;omega,by dsimp only;omega,by simp;omega,by dsimp only;omega,by dsimp only;omega,by simp [upd],by simp [upd,zS hbs,w2,Xb]⟩;((repeat' (first | exact Qg (by assumption) | exact Qi | refine Qf ?_ ?_ | refine Qh ?_)) <;> simp [-zg,-zd,↓Qb,↓Qa,go_sem]);rintro q ⟨g0,g1,g2,g3,g4,g5,g6⟩)
 | (refine ⟨(q.1 ++ [Pr.mk lc r.1],q.2.1 - 1,r.2.2.1,H5),⟨by dsimp only;omega,by dsimp only;omega,by simp;omega,by dsimp only;omega,by dsimp only;omega,y1,y2⟩,by first | omega | (simp;done) | (simp;omega),?_⟩;((repeat' (first | exact Qg (by assumption) | exact Qi | refine Qf ?_ ?_ | refine Qh ?_)) <;> simp [-zg,-zd,↓Qb,↓Qa,go_sem,]))
 | (refine Qe (id:=2) (Qw (ι:=List Ed × Int × Int × Hp) (fun r:List Ed × Int × Int × Hp=>⟨(upd (upd (upd (upd (upd (upd (fun _=>.any) 0 (.ptr b 0)) 2 (.box [.nil,.nil])) 3 (.ptr sb 0)) 4 (.int .i64 q.2.1)) 5 (.ptr pb 0)) 6 (.int .i64 r.2.1)),r.2.2.2⟩) (fun r=>r.2.1 ≤ 5 ∧ 0 ≤ r.2.1 ∧ (r.1.length:Int) + r.2.1 ≤ 5 ∧ q.2.2.1 ≤ r.2.2.1 ∧ r.2.2.1 ≤ q.2.2.1 + 2 + (5 - r.2.1) * 115 ∧ r.2.2.2 b = some [.list ys.length (cat cY ys),.int .i64 r.2.2.1] ∧ r.2.2.2 sb = some [.fr 1 3 [.int .i64 x1,.int .i64 x2,.int .i64 0],.fr 2 q.1.length (cat cR q.1)] ∧ r.2.2.2 pb = some [.int .i64 lc,.fr 10 r.1.length (cat cE r.1)]) (fun r=>r.2.1.toNat) (([],mm,q.2.2.1 + 1 + 1,upd H2 b (some [.list ys.length (cat cY ys),.int .i64 (q.2.2.1 + 1 + 1)]))) ?_ ?_ ?_);exact ⟨by dsimp only;omega,by dsimp only;omega,by simp;omega,by dsimp only;omega,by dsimp only;omega,by simp [upd],by simp [upd,zS hbs,v2],by simp [upd,zS hbp,v3,Xb]⟩;((repeat' (first | exact Qg (by assumption) | exact Qi | refine Qf ?_ ?_ | refine Qh ?_)) <;> simp [-zg,-zd,↓Qb,↓Qa,go_sem]);rintro r ⟨f1,f0,f2,f3,f4,f5,f6,f7⟩)
 | (refine ⟨(r.1 ++ [t],r.2.1 - 1,p2,H3),⟨by dsimp only;omega,by dsimp only;omega,by simp;omega,by dsimp only;omega,by dsimp only;omega,u1,u2,u3⟩,by first | omega | (simp;done) | (simp;omega),?_⟩;((repeat' (first | exact Qg (by assumption) | exact Qi | refine Qf ?_ ?_ | refine Qh ?_)) <;> simp [-zg,-zd,↓Qb,↓Qa,go_sem,]))
 | (refine Qe ?_)
 | (refine Qs ?_;simp [-zg,-zd,↓Qb,↓Qa,go_sem])
 | (refine Qr ?_;simp [-zg,-zd,↓Qb,↓Qa,go_sem])
 | (refine Qq ?_;try simp [-zg,-zd,↓Qb,↓Qa,go_sem,Tryz.results130])
 | (intro hx;refine zA ?_)
 | (intro hx;change retR _ _ _ _ _)
 | (refine ⟨?_,?_⟩ <;> refine zA ?_)
 | (intro hx;constructor <;> intro hs)
 | (constructor <;> intro hs)
 | (refine ⟨?_,fun hs=>?_⟩;refine zA ?_)
 | (refine ⟨fun hs=>?_,?_⟩;rotate_left;refine zA ?_;rotate_left)
 | ((fail_if_success change retR _ _ _ _ _);(exfalso;omega))
 | (refine Qj ?_;simp [-zg,-zd,↓Qb,↓Qa,go_sem];try first | (refine ⟨?_,?_⟩ <;> refine zA ?_) | (refine ⟨fun cz=>?_,fun cz=>?_⟩ <;> (try simp [B_iff,B_not] at cz)))
 | (refine Qc Va [] (by kernel_rfl) ?_;simp [-zg,-zd,↓Qb,↓Qa,go_sem])
 | fail))
  all_goals (first
 | (refine l2System_ret _ _ _ (([x1,x2,0],q.1)) (q.2.2.1) ?_ ?_ ?_ ?_;(first | exact Or.inl rfl | exact Or.inr rfl);(focus (simp [-zg,-zd,↓Qb,↓Qa,go_sem,Tryz.results130,li,dat,Qz,hbs,g5,Xe,cI,Xb];done));(focus ((trivial);done));(focus (refine ⟨?_,?_⟩ <;> omega)))
 | skip)
@[go_sem] def l2SystemC:Con:=.rel fun args H=>match args with
  | [.ptr b 0]=>match H b with
    | some [.list m cs,.int .i64 p]=>((Is cY m cs) ∧ (m ≤ 2000) ∧ (0 ≤ p) ∧ (p + 2000 ≤ 1000000),fun c=>(Ul (Vl p c).1,upd H b (some [.list m cs,.int .i64 (Vl p c).2])))
    | _=>(False,fun _=>(.any,H))
  | _=>(False,fun _=>(.any,H))
theorem l2SystemC_ok:ConOk Tryz.prog 130 l2SystemC:=by
  refine ⟨Qo Tryz.func130 (by decide) rfl,fun args H h=>?_⟩
  revert h
  dsimp only
  split
  · split
    · rename_i hH
      intro h
      obtain ⟨⟨ys,rfl,rfl⟩,hl,h0_,hp_⟩:=h
      try simp only [Qm] at *
      exact SpecR.enc ((l2System_spec ys _ _ hl h0_ hp_ ).frame hH).shut fun c=>Prod.ext (zarh  _ _).2.symm rfl
    · intro h;exact h.elim
  · intro h
    exact h.elim
@[go_sem] def Γe25:FuncId → Con:=ext Γe24 130 l2SystemC
theorem Γe25_ok:∀ g,ConOk Tryz.prog g (Γe25 g):=Qn Va l2SystemC_ok


@[go_sem] def Γe26:FuncId → Con:=Γe25
theorem Γe26_ok:∀ g,ConOk Tryz.prog g (Γe26 g):=Γe25_ok

@[go_sem] def Γe27:FuncId → Con:=Γe26
theorem Γe27_ok:∀ g,ConOk Tryz.prog g (Γe27 g):=Γe26_ok

@[go_sem] def Γe28:FuncId → Con:=Γe27
theorem Zd:∀ g,ConOk Tryz.prog g (Γe28 g):=Γe27_ok
end
end Go.Proofs.YtiilmjojffjhlaaGreatDoor.Vm

