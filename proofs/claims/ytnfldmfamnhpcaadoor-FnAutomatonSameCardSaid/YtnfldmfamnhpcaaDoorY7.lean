/-
  Draws: formulas. No conditions.
-/
import Derived.Test.YtnfldmfamnhpcaaDoorY6
namespace Go.Proofs.YtnfldmfamnhpcaaDoor.Vm
open Go
open List renaming getD_eq_getElem?_getD → zg,drop_one → zd
open Ne renaming symm → zS
noncomputable section
set_option linter.unusedVariables false
set_option linter.unusedSimpArgs false
set_option maxRecDepth 200000

set_option maxHeartbeats 4000000 in

@[go_sem] def Jc:Tree → D:=sX
theorem l5Random_flat (x:Tree):dat (Jc x) = Jc x:=by simp [go_sem]
def zabr (d:Int):Tree → Prop:=fun _=>True
def zagi (d:Int) (x:(Tree) × D):Prop:=zabr d x.1 ∧ dat x.2 = Jc x.1
def Zp (d:Int) (p:Int) (c:Any):((Tree) × D) × Int:=dsel (zagi d) ((.mk 1 0 []:Tree),Jc (.mk 1 0 [])) (kR d.toNat) p c
def Ze (d:Int) (p:Int) (c:Any):(Tree) × Int:=((Zp d p c).1.1,(Zp d p c).2)
theorem zafb (d:Int) (hd:d ≤ 4) (p:Int) (c:Any):(zabr d (Ze d p c).1 ∧ p ≤ (Ze d p c).2 ∧ (Ze d p c).2 ≤ p + (kR d.toNat)) ∧ dat (Zp d p c).1.2 = Jc (Ze d p c).1:=by
  have hx:zabr d (.mk 1 0 []):=trivial
  have h:=dsel_ok (good:=zagi d) (x0:=((.mk 1 0 []:Tree),Jc (.mk 1 0 []))) ⟨hx,l5Random_flat _⟩ (K:=(kR d.toNat)) (kR_nn _) (p:=p) c
  exact ⟨⟨h.1.1,h.2.1,h.2.2⟩,h.1.2⟩
theorem zakk (d:Int) (hd:d ≤ 4) (p:Int) (c:Any):zabr d (Ze d p c).1 ∧ p ≤ (Ze d p c).2 ∧ (Ze d p c).2 ≤ p + (kR d.toNat):=(zafb d hd p c).1
theorem zabj (d:Int) (ys:List UInt8) (p:Int) (b:Nat) {e_:Exit} {S_:St} (x:Tree) (p':Int) (he_:e_ = .ret ∨ e_ = .normal)
    (h1:(Qe Tryd.prog S_ Tryd.f69.results.toList).1 ∧ dat (resD (Qe Tryd.prog S_ Tryd.f69.results.toList).2.1) = Jc x ∧ (Qe Tryd.prog S_ Tryd.f69.results.toList).2.2.H b = some [li cY ys,.int .i64 p']) (hg:zabr d x) (h2:p ≤ p' ∧ p' ≤ p + (kR d.toNat)) :
    retR Tryd.prog Tryd.f69 (fun c=>((Zp d p c).1.2,one b [li cY ys,.int .i64 (Zp d p c).2])) e_ S_ :=
  zaif (good:=zagi d) (enc:=fun x:(Tree) × D=>x.2) (cells:=fun q=>[li cY ys,.int .i64 q]) (x,resD (Qe Tryd.prog S_ Tryd.f69.results.toList).2.1) p' he_ ⟨h1.1,rfl,h1.2.2⟩ ⟨hg,h1.2.1⟩ h2
@[go_sem] def l5RandomCn (n_:Nat):Con:=.rel fun args H=>match args with
  | [.ptr b 0,.int .i64 d]=>match H b with
    | some [.list m cs,.int .i64 p]=>((Is cY m cs) ∧ (m ≤ 2000) ∧ (0 ≤ p) ∧ (p + (kR d.toNat) ≤ 1000000) ∧ (d ≤ 4) ∧ (d.toNat < n_),fun c=>(Jc (Ze d p c).1,upd H b (some [.list m cs,.int .i64 (Ze d p c).2])))
    | _=>(False,fun _=>(.any,H))
  | _=>(False,fun _=>(.any,H))
theorem l5RandomCn_ok {n_:Nat} (ih:∀ (ys:List UInt8) (p:Int) (b:Nat) (d:Int) (hl:ys.length ≤ 2000) (h0_:0 ≤ p) (hp_:p + (kR d.toNat) ≤ 1000000) (hd:d ≤ 4) (hm_:d.toNat < n_),SpecR Tryd.prog 69 [.ptr b 0,.int .i64 d] (one b [li cY ys,.int .i64 p]) (fun c=>((Zp d p c).1.2,one b [li cY ys,.int .i64 (Zp d p c).2]))):ConOk Tryd.prog 69 (l5RandomCn n_):=by
  refine ⟨Qq Tryd.func69 (by decide) rfl,fun args H h=>?_⟩
  revert h
  dsimp only
  split
  · split
    · rename_i hH
      intro h
      obtain ⟨⟨ys,rfl,rfl⟩,hl,h0_,hp_,hd,hm_⟩:=h
      try simp only [Qj] at *
      exact SpecR.enc ((ih ys _ _ _ hl h0_ hp_ hd hm_).frame hH).shut fun c=>Prod.ext (zafb _ hd _ _).2.symm rfl
    · intro h;exact h.elim
  · intro h
    exact h.elim
theorem l5Random_rec:∀ (n_:Nat),∀ (ys:List UInt8) (p:Int) (b:Nat) (d:Int) (hl:ys.length ≤ 2000) (h0_:0 ≤ p) (hp_:p + (kR d.toNat) ≤ 1000000) (hd:d ≤ 4) (hm_:d.toNat < n_),SpecR Tryd.prog 69 [.ptr b 0,.int .i64 d] (one b [li cY ys,.int .i64 p]) (fun c=>((Zp d p c).1.2,one b [li cY ys,.int .i64 (Zp d p c).2])):=by
  intro n_
  induction n_ with
  | zero=>intros;omega
  | succ n_ ih =>
  intro ys p b d hl h0_ hp_ hd hm_
  have Γr_ok:=Qp Γy24_ok (l5RandomCn_ok ih)
  refine SpecR.of_walk Tryd.func69 rfl (by simp [Tryd.f69]) fun B=>?_
  have hk3:=kR_ge d.toNat;by_cases hd2:d < 2
  all_goals (repeat' (first
 | refine Qu ?_
 | refine Qc (id:=0) Γr_ok [] (by kernel_rfl) ?_;simp [-zg,-zd,↓Qb,↓Qa,go_sem]
 | refine Qc (id:=1) Γr_ok [9] (by kernel_rfl) ?_;simp [-zg,-zd,↓Qb,↓Qa,go_sem,hd2,hl,(show 0 ≤ p by omega),(show p ≤ 1000000 by omega),(show 0 ≤ p + 1 by omega),(show p + 1 ≤ 1000000 by omega)];try (refine ⟨fun s1a=>?_,fun s1a=>?_⟩ <;> (try simp [B_iff,B_not] at s1a) <;> try (refine ⟨fun s1b=>?_,fun s1b=>?_⟩ <;> (try simp [B_iff,B_not] at s1b)))
 | refine Qc (id:=2) Γr_ok [] (by kernel_rfl) ?_;simp [-zg,-zd,↓Qb,↓Qa,go_sem,hl,(show 0 ≤ p by omega),(show p ≤ 1000000 by omega),(show 0 ≤ p + 1 by omega),(show p + 1 ≤ 1000000 by omega),(show 0 ≤ p + 1 + 1 by omega),(show p + 1 + 1 ≤ 1000000 by omega)]
 | refine Qc (id:=3) Γr_ok [] (by kernel_rfl) ?_;simp [-zg,-zd,↓Qb,↓Qa,go_sem];try (intro c3;generalize zafs c3 = z3 at *)
 | refine Qc (id:=4) Γr_ok [] (by kernel_rfl) ?_;simp [-zg,-zd,↓Qb,↓Qa,go_sem,hl,(show 0 ≤ p by omega),(show p ≤ 1000000 by omega),(show 0 ≤ p + 1 by omega),(show p + 1 ≤ 1000000 by omega),(show 0 ≤ p + 1 + 1 by omega),(show p + 1 + 1 ≤ 1000000 by omega),(show 0 ≤ p + 1 + 1 + 1 by omega),(show p + 1 + 1 + 1 ≤ 1000000 by omega)]
 | refine Qc (id:=5) Γr_ok [] (by kernel_rfl) ?_;simp [-zg,-zd,↓Qb,↓Qa,go_sem,hl,(show 0 ≤ p by omega),(show p ≤ 1000000 by omega),(show 0 ≤ p + 1 by omega),(show p + 1 ≤ 1000000 by omega),(show 0 ≤ p + 1 + 1 by omega),(show p + 1 + 1 ≤ 1000000 by omega),(show 0 ≤ p + 1 + 1 + 1 by omega),(show p + 1 + 1 + 1 ≤ 1000000 by omega)];try ((generalize numI ys (p + 1) [7,9,10,3,4,5,6,8] = kk at *);(have hks:=kR_step (d:=d) (by omega));(have hM:=kR_ge (d - 1).toNat);(have hd1:(d - 1).toNat = d.toNat - 1:=(by omega));(rw [hd1] at hks hM);(refine AW_boxNil2 5 3 rfl ?_);(refine zado 5 rfl fun qb hqb=>?_);(have hbq:¬ b = qb:=(by rintro rfl;simp [go_sem] at hqb));(clear hqb);(refine Xb (fun H1=>H1 b = some [.list ys.length (cat cY ys),.int .i64 (p + 1 + 1)] ∧ H1 qb = some [.int .i64 kk,.int .i64 0,.fr 3 0 []]) ⟨by simp [go_sem,hbq],by simp [go_sem,hbq]⟩ fun H1 ⟨w1,w2⟩=>?_))
 | refine Qc (id:=6) Γr_ok [] (by kernel_rfl) ?_;simp [-zg,-zd,↓Qb,↓Qa,go_sem,w2];try (have hal:=arF_le kk;generalize arF kk = aa at *)
 | refine Qc (id:=7) Γr_ok [] (by kernel_rfl) ?_;simp [-zg,-zd,↓Qb,↓Qa,go_sem]
 | ((refine Vo qb 2 (all:=[.int .i64 kk,.int .i64 0,.fr 3 q.1.length (cat cX q.1)]) g6 rfl fun u cu ju hu hcu hdu=>?_);(have ub:¬ u = b:=(by intro e;rw [e] at hu;dsimp only at hu;rw [g5] at hu;cases hu));(have uq:¬ u = qb:=(by intro e;rw [e] at hu;dsimp only at hu;rw [g6] at hu;cases hu));(clear hu));refine Xr (id:=9) Γr_ok mixed [(qb,[.int .i64 kk,.int .i64 0,.sl u 3 0 q.1.length cu])] [] [] (by kernel_rfl) (by kernel_rfl) (by simp [-zg,-zd,↓Qb,↓Qa,go_sem,g5,hl,wrap_in (x:=d - 1) (by omega) (by omega),hbq,zS hbq,ub,uq,zS ub,zS uq,(show 0 ≤ q.2.2.1 by omega),(show d - 1 ≤ 4 by omega),(show d.toNat - 1 < n_ by omega),(show q.1.length ≤ 9223372036854775806 by omega),(show 2 * (q.1.length + 1) * 40 ≤ 281474976710656 by omega),(show q.2.2.1 + kR (d.toNat - 1) ≤ 1000000 by omega),hdu]) (by simp [-zg,-zd,↓Qb,↓Qa,go_sem,g5,hl,wrap_in (x:=d - 1) (by omega) (by omega),hbq,zS hbq,ub,uq,zS ub,zS uq,(show 0 ≤ q.2.2.1 by omega),(show d - 1 ≤ 4 by omega),(show d.toNat - 1 < n_ by omega),(show q.1.length ≤ 9223372036854775806 by omega),(show 2 * (q.1.length + 1) * 40 ≤ 281474976710656 by omega),(show q.2.2.1 + kR (d.toNat - 1) ≤ 1000000 by omega),hdu]) ?_;simp [-zg,-zd,↓Qb,↓Qa,go_sem,g5,hl,wrap_in (x:=d - 1) (by omega) (by omega),hbq,zS hbq,ub,uq,zS ub,zS uq,(show 0 ≤ q.2.2.1 by omega),(show d - 1 ≤ 4 by omega),(show d.toNat - 1 < n_ by omega),(show q.1.length ≤ 9223372036854775806 by omega),(show 2 * (q.1.length + 1) * 40 ≤ 281474976710656 by omega),(show q.2.2.1 + kR (d.toNat - 1) ≤ 1000000 by omega),hdu];try (intro c10;have z0:=zakk (d - 1) (by omega) q.2.2.1 c10;generalize Ze (d - 1) q.2.2.1 c10 = z at *;obtain ⟨-,z1,z2⟩:=z0;rw [hd1] at z2;obtain ⟨t,p2⟩:=z;dsimp only at z1 z2;refine Xb (fun H2=>H2 b = some [.list ys.length (cat cY ys),.int .i64 p2] ∧ H2 qb = some [.int .i64 kk,.int .i64 0,.fr 3 (q.1 ++ [t]).length (cat cX (q.1 ++ [t]))]) ⟨by simp [upd,hbq,zS hbq,ub,uq,zS ub,zS uq],by simp [upd,hbq,zS hbq,ub,uq,zS ub,zS uq,Zr,Za,cX_eq,li]⟩ fun H2 ⟨y1,y2⟩=>?_)
 | refine Qc (id:=8) Γr_ok [] (by kernel_rfl) ?_;simp [-zg,-zd,↓Qb,↓Qa,go_sem,wrap_in (x:=q.2.1 - 1) (by omega) (by omega)]
 | refine Qc (id:=10) Γr_ok [] (by kernel_rfl) ?_;simp [-zg,-zd,↓Qb,↓Qa,go_sem,g6]
 | refine Qd (c:=.tmp 13) ?_;simp [-zg,-zd,↓Qb,↓Qa,go_sem];try first | (refine ⟨?_,?_⟩ <;> refine zA ?_) | (refine ⟨fun c13=>?_,fun c13=>?_⟩ <;> (try simp [B_iff,B_not] at c13))
 | refine Qd (c:=.tmp 16) ?_;simp [-zg,-zd,↓Qb,↓Qa,go_sem];try first | (refine ⟨?_,?_⟩ <;> refine zA ?_) | (refine ⟨fun c16=>?_,fun c16=>?_⟩ <;> (try simp [B_iff,B_not] at c16))
 | refine Qd (c:=.tmp 30) ?_;simp [-zg,-zd,↓Qb,↓Qa,go_sem];try first | (refine ⟨?_,?_⟩ <;> refine zA ?_) | (refine ⟨fun c30=>?_,fun c30=>?_⟩ <;> (try simp [B_iff,B_not] at c30))
 | (refine Qh (id:=0) (Xd (ι:=List Tree × Int × Int × Hp) (fun q:List Tree × Int × Int × Hp=>⟨(upd (upd (upd (upd (upd (fun _=>.any) 0 (.ptr b 0)) 1 (.int .i64 d)) 4 (.box [.int .i64 0,.int .i64 0,.nil])) 5 (.ptr qb 0)) 6 (.int .i64 q.2.1)),q.2.2.2⟩) (fun q=>q.2.1 ≤ 2 ∧ (q.1.length:Int) + q.2.1 ≤ 2 ∧ p ≤ q.2.2.1 ∧ (q.2.1 ≤ 2 ∧ q.2.2.1 ≤ p + 3 ∨ q.2.1 ≤ 1 ∧ q.2.2.1 ≤ p + 3 + kR (d.toNat - 1) ∨ q.2.1 ≤ 0 ∧ q.2.2.1 ≤ p + 3 + 2 * kR (d.toNat - 1)) ∧ q.2.2.2 b = some [.list ys.length (cat cY ys),.int .i64 q.2.2.1] ∧ q.2.2.2 qb = some [.int .i64 kk,.int .i64 0,.fr 3 q.1.length (cat cX q.1)]) (fun q=>q.2.1.toNat) (([],aa,p + 1 + 1,H1)) ?_ ?_ ?_);exact ⟨by dsimp only;omega,by simpa using hal,by dsimp only;omega,by dsimp only;omega,by dsimp only;exact w1,by dsimp only;exact w2⟩;((repeat' (first | exact Ql (by assumption) | exact Qo | refine Qk ?_ ?_ | refine Qn ?_)) <;> simp [-zg,-zd,↓Qb,↓Qa,go_sem]);rintro q ⟨g1,g2,g3,g4,g5,g6⟩)
 | (refine ⟨(q.1 ++ [t],q.2.1 - 1,p2,H2),⟨by dsimp only;omega,by simp;omega,by dsimp only;omega,by dsimp only;omega,y1,y2⟩,by first | omega | (simp;done) | (simp;omega),?_⟩;((repeat' (first | exact Ql (by assumption) | exact Qo | refine Qk ?_ ?_ | refine Qn ?_)) <;> simp [-zg,-zd,↓Qb,↓Qa,go_sem,]))
 | (refine Qh ?_)
 | (refine Qt ?_;simp [-zg,-zd,↓Qb,↓Qa,go_sem])
 | (refine Qs ?_;simp [-zg,-zd,↓Qb,↓Qa,go_sem])
 | (refine Qv ?_;try simp [-zg,-zd,↓Qb,↓Qa,go_sem,Tryd.results69])
 | (intro hx;refine zA ?_)
 | (intro hx;change retR _ _ _ _ _)
 | (refine ⟨?_,?_⟩ <;> refine zA ?_)
 | (intro hx;constructor <;> intro hs)
 | (constructor <;> intro hs)
 | (refine ⟨?_,fun hs=>?_⟩;refine zA ?_)
 | (refine ⟨fun hs=>?_,?_⟩;rotate_left;refine zA ?_;rotate_left)
 | ((fail_if_success change retR _ _ _ _ _);(exfalso;omega))))
  all_goals (first
 | (refine zabj _ _ _ _ (z3) (p + 1) ?_ ?_ ?_ ?_;(first | exact Or.inl rfl | exact Or.inr rfl);(focus (simp [-zg,-zd,↓Qb,↓Qa,go_sem,Tryd.results69];done));(focus ((trivial);done));(focus (refine ⟨?_,?_⟩ <;> omega)))
 | (refine zabj _ _ _ _ (z3) (p + 1 + 1) ?_ ?_ ?_ ?_;(first | exact Or.inl rfl | exact Or.inr rfl);(focus (simp [-zg,-zd,↓Qb,↓Qa,go_sem,Tryd.results69];done));(focus ((trivial);done));(focus (refine ⟨?_,?_⟩ <;> omega)))
 | (refine zabj _ _ _ _ (.mk 2 (numI ys (p + 1) [0,1,0,2]) []) (p + 1 + 1) ?_ ?_ ?_ ?_;(first | exact Or.inl rfl | exact Or.inr rfl);(focus (simp [-zg,-zd,↓Qb,↓Qa,go_sem,Tryd.results69];done));(focus ((trivial);done));(focus (refine ⟨?_,?_⟩ <;> omega)))
 | (refine zabj _ _ _ _ (.mk 2 (numI ys (p + 1 + 1) [0,1,0,2]) []) (p + 1 + 1 + 1) ?_ ?_ ?_ ?_;(first | exact Or.inl rfl | exact Or.inr rfl);(focus (simp [-zg,-zd,↓Qb,↓Qa,go_sem,Tryd.results69];done));(focus ((trivial);done));(focus (refine ⟨?_,?_⟩ <;> omega)))
 | (refine zabj _ _ _ _ (.mk 2 (numI ys p [0,1,0,2]) []) (p + 1) ?_ ?_ ?_ ?_;(first | exact Or.inl rfl | exact Or.inr rfl);(focus (simp [-zg,-zd,↓Qb,↓Qa,go_sem,Tryd.results69];done));(focus ((trivial);done));(focus (refine ⟨?_,?_⟩ <;> omega)))
 | (refine zabj _ _ _ _ (.mk kk 0 q.1) (q.2.2.1) ?_ ?_ ?_ ?_;(first | exact Or.inl rfl | exact Or.inr rfl);(focus (simp [-zg,-zd,↓Qb,↓Qa,go_sem,Tryd.results69,li,dat,datL_map,hbq,g5];done));(focus ((trivial);done));(focus (refine ⟨?_,?_⟩ <;> omega)))
 | skip)
theorem l5Random_spec (ys:List UInt8) (p:Int) (b:Nat) (d:Int) (hl:ys.length ≤ 2000) (h0_:0 ≤ p) (hp_:p + (kR d.toNat) ≤ 1000000) (hd:d ≤ 4):SpecR Tryd.prog 69 [.ptr b 0,.int .i64 d] (one b [li cY ys,.int .i64 p]) (fun c=>((Zp d p c).1.2,one b [li cY ys,.int .i64 (Zp d p c).2])):=l5Random_rec (d.toNat + 1) ys p b d hl h0_ hp_ hd (by omega)
@[go_sem] def l5RandomC:Con:=.rel fun args H=>match args with
  | [.ptr b 0,.int .i64 d]=>match H b with
    | some [.list m cs,.int .i64 p]=>((Is cY m cs) ∧ (m ≤ 2000) ∧ (0 ≤ p) ∧ (p + (kR d.toNat) ≤ 1000000) ∧ (d ≤ 4),fun c=>(Jc (Ze d p c).1,upd H b (some [.list m cs,.int .i64 (Ze d p c).2])))
    | _=>(False,fun _=>(.any,H))
  | _=>(False,fun _=>(.any,H))
theorem l5RandomC_ok:ConOk Tryd.prog 69 l5RandomC:=by
  refine ⟨Qq Tryd.func69 (by decide) rfl,fun args H h=>?_⟩
  revert h
  dsimp only
  split
  · split
    · rename_i hH
      intro h
      obtain ⟨⟨ys,rfl,rfl⟩,hl,h0_,hp_,hd⟩:=h
      try simp only [Qj] at *
      exact SpecR.enc ((l5Random_spec ys _ _ _ hl h0_ hp_ hd).frame hH).shut fun c=>Prod.ext (zafb _ hd _ _).2.symm rfl
    · intro h;exact h.elim
  · intro h
    exact h.elim
@[go_sem] def Γy25:FuncId → Con:=ext Γy24 69 l5RandomC
theorem zagc:∀ g,ConOk Tryd.prog g (Γy25 g):=Qp Γy24_ok l5RandomC_ok

theorem forOk_atom:ForOk (.mk 2 0 []):=by
  refine ⟨⟨by simp [Tree.ks,Tree.k,arF],by simp [Tree.v],by simp [Tree.v],.inl rfl,fun i hi=>by simp [Tree.ks] at hi⟩,?_⟩
  simp [cntT,csum,Tree.ks]
theorem forOk_always:ForOk (.mk 10 0 [.mk 2 0 []]):=by
  refine ⟨⟨by simp [Tree.ks,Tree.k,arF],by simp [Tree.v],by simp [Tree.v],.inr rfl,fun i hi=>?_⟩,?_⟩
  · have:i = 0:=by simp only [Tree.ks,List.length_singleton] at hi;omega
    subst this
    exact ⟨by simp [Tree.ks,Tree.k,arF,nth],by simp [Tree.v,nth,Tree.ks],by simp [Tree.v,nth,Tree.ks],.inl rfl,fun i hi=>by simp [Tree.ks,nth] at hi⟩
  · simp [cntT,csum,Tree.ks]

@[go_sem] def Jq:Tree → D:=sX
theorem l5Formula_flat (x:Tree):dat (Jq x) = Jq x:=by simp [go_sem]
def zabb  : Tree → Prop:=fun x=>ForOk x
def zafc  (x:(Tree) × D):Prop:=zabb x.1 ∧ dat x.2 = Jq x.1
def zaai  (p:Int) (c:Any):((Tree) × D) × Int:=dsel (zafc) ((.mk 2 0 []:Tree),Jq (.mk 2 0 [])) 100 p c
def Jb  (p:Int) (c:Any):(Tree) × Int:=((zaai p c).1.1,(zaai p c).2)
theorem zagz   (p:Int) (c:Any):(zabb (Jb p c).1 ∧ p ≤ (Jb p c).2 ∧ (Jb p c).2 ≤ p + 100) ∧ dat (zaai p c).1.2 = Jq (Jb p c).1:=by
  have hx:zabb (.mk 2 0 []):=forOk_atom
  have h:=dsel_ok (good:=zafc) (x0:=((.mk 2 0 []:Tree),Jq (.mk 2 0 []))) ⟨hx,l5Formula_flat _⟩ (K:=100) (by omega) (p:=p) c
  exact ⟨⟨h.1.1,h.2.1,h.2.2⟩,h.1.2⟩
theorem l5Formula_ok   (p:Int) (c:Any):zabb (Jb p c).1 ∧ p ≤ (Jb p c).2 ∧ (Jb p c).2 ≤ p + 100:=(zagz  p c).1
theorem zagy  (ys:List UInt8) (p:Int) (b:Nat) {e_:Exit} {S_:St} (x:Tree) (p':Int) (he_:e_ = .ret ∨ e_ = .normal)
    (h1:(Qe Tryd.prog S_ Tryd.f55.results.toList).1 ∧ dat (resD (Qe Tryd.prog S_ Tryd.f55.results.toList).2.1) = Jq x ∧ (Qe Tryd.prog S_ Tryd.f55.results.toList).2.2.H b = some [li cY ys,.int .i64 p']) (hg:zabb x) (h2:p ≤ p' ∧ p' ≤ p + 100) :
    retR Tryd.prog Tryd.f55 (fun c=>((zaai p c).1.2,one b [li cY ys,.int .i64 (zaai p c).2])) e_ S_ :=
  zaif (good:=zafc) (enc:=fun x:(Tree) × D=>x.2) (cells:=fun q=>[li cY ys,.int .i64 q]) (x,resD (Qe Tryd.prog S_ Tryd.f55.results.toList).2.1) p' he_ ⟨h1.1,rfl,h1.2.2⟩ ⟨hg,h1.2.1⟩ h2
set_option maxHeartbeats 4000000 in
theorem l5Formula_spec (ys:List UInt8) (p:Int) (b:Nat)  (hl:ys.length ≤ 2000) (h0_:0 ≤ p) (hp_:p + 100 ≤ 1000000)  : SpecR Tryd.prog 55 [.ptr b 0] (one b [li cY ys,.int .i64 p]) (fun c=>((zaai p c).1.2,one b [li cY ys,.int .i64 (zaai p c).2])):=by
  refine SpecR.of_walk Tryd.func55 rfl (by simp [Tryd.f55]) fun B=>?_
  have hr:=Jv ys (p:=p) (by omega) (xs:=[3,2,4,3]) (lo:=2) (hi:=4) (by simp) (by simp);have hk:=kR_le (d:=numI ys p [3,2,4,3]) (by omega);have hk0:=kR_nn (numI ys p [3,2,4,3]).toNat
  all_goals (repeat' (first
 | refine Qu ?_
 | refine Qc (id:=0) zagc [] (by kernel_rfl) ?_;simp [-zg,-zd,↓Qb,↓Qa,go_sem]
 | refine Qc (id:=1) zagc [] (by kernel_rfl) ?_;simp [-zg,-zd,↓Qb,↓Qa,go_sem,hl,(show 0 ≤ p by omega),(show p ≤ 1000000 by omega),(show 0 ≤ p + 1 by omega),(show p + 1 ≤ 1000000 by omega),(show 0 ≤ p + 1 + 1 by omega),(show p + 1 + 1 ≤ 1000000 by omega),hr,(show p + 1 + kR (numI ys p [3,2,4,3]).toNat ≤ 1000000 by omega)];try (intro c1;have z0:=zakk (numI ys p [3,2,4,3]) (by omega) (p + 1) c1;generalize Ze (numI ys p [3,2,4,3]) (p + 1) c1 = z at *;obtain ⟨-,z1,z2⟩:=z0;obtain ⟨⟨tk,tv,ts⟩,p2⟩:=z;dsimp only at z1 z2;refine Xk 3 ?_;simp [go_sem])
 | refine Qc (id:=2) zagc [] (by kernel_rfl) ?_;simp [-zg,-zd,↓Qb,↓Qa,go_sem]
 | refine Qc (id:=3) zagc [] (by kernel_rfl) ?_;simp [-zg,-zd,↓Qb,↓Qa,go_sem]
 | refine Qc (id:=4) zagc [] (by kernel_rfl) ?_;simp [-zg,-zd,↓Qb,↓Qa,go_sem]
 | refine Qd (c:=.tmp 10) ?_;simp [-zg,-zd,↓Qb,↓Qa,go_sem];try first | (refine ⟨?_,?_⟩ <;> refine zA ?_) | (refine ⟨fun c10=>?_,fun c10=>?_⟩ <;> (try simp [B_iff,B_not] at c10))
 | (refine Qh ?_)
 | (refine Qt ?_;simp [-zg,-zd,↓Qb,↓Qa,go_sem])
 | (refine Qs ?_;simp [-zg,-zd,↓Qb,↓Qa,go_sem])
 | (refine Qv ?_;try simp [-zg,-zd,↓Qb,↓Qa,go_sem,Tryd.results55])
 | (intro hx;refine zA ?_)
 | (intro hx;change retR _ _ _ _ _)
 | (refine ⟨?_,?_⟩ <;> refine zA ?_)
 | (intro hx;constructor <;> intro hs)
 | (constructor <;> intro hs)
 | (refine ⟨?_,fun hs=>?_⟩;refine zA ?_)
 | (refine ⟨fun hs=>?_,?_⟩;rotate_left;refine zA ?_;rotate_left)))
  all_goals (first
 | (refine zagy _ _ _ (.mk tk tv ts) (p2) ?_ ?_ ?_ ?_;(first | exact Or.inl rfl | exact Or.inr rfl);(focus (simp [-zg,-zd,↓Qb,↓Qa,go_sem,Tryd.results55,li,dat,datL_map];done));(focus ((assumption);done));(focus (refine ⟨?_,?_⟩ <;> omega)))
 | (refine zagy _ _ _ (.mk 10 0 [.mk 2 0 []]) (p2) ?_ ?_ ?_ ?_;(first | exact Or.inl rfl | exact Or.inr rfl);(focus (simp [-zg,-zd,↓Qb,↓Qa,go_sem,Tryd.results55,li,Xj,cX_mk,dat,datL,datL_map,Xe];done));(focus ((exact forOk_always);done));(focus (refine ⟨?_,?_⟩ <;> omega)))
 | skip)
@[go_sem] def zajb:Con:=.rel fun args H=>match args with
  | [.ptr b 0]=>match H b with
    | some [.list m cs,.int .i64 p]=>((Is cY m cs) ∧ (m ≤ 2000) ∧ (0 ≤ p) ∧ (p + 100 ≤ 1000000),fun c=>(Jq (Jb p c).1,upd H b (some [.list m cs,.int .i64 (Jb p c).2])))
    | _=>(False,fun _=>(.any,H))
  | _=>(False,fun _=>(.any,H))
theorem l5FormulaC_ok:ConOk Tryd.prog 55 zajb:=by
  refine ⟨Qq Tryd.func55 (by decide) rfl,fun args H h=>?_⟩
  revert h
  dsimp only
  split
  · split
    · rename_i hH
      intro h
      obtain ⟨⟨ys,rfl,rfl⟩,hl,h0_,hp_⟩:=h
      try simp only [Qj] at *
      exact SpecR.enc ((l5Formula_spec ys _ _ hl h0_ hp_ ).frame hH).shut fun c=>Prod.ext (zagz  _ _).2.symm rfl
    · intro h;exact h.elim
  · intro h
    exact h.elim
@[go_sem] def Γy26:FuncId → Con:=ext Γy25 55 zajb
theorem Xl:∀ g,ConOk Tryd.prog g (Γy26 g):=Qp zagc l5FormulaC_ok

end
end Go.Proofs.YtnfldmfamnhpcaaDoor.Vm

