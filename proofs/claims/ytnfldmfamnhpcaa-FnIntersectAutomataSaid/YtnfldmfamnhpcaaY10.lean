/-
  Draws: lassos; arguments. No conditions.
-/
import Derived.Test.YtnfldmfamnhpcaaY9
namespace Go.Proofs.Ytnfldmfamnhpcaa.Vm
open Go
open List renaming getD_eq_getElem?_getD → zg,drop_one → zd,replicate → zrP
open Ne renaming symm → zS
noncomputable section
set_option linter.unusedVariables false
set_option linter.unusedSimpArgs false
set_option maxRecDepth 200000

@[go_sem] theorem makeD_9z (x:D):makeD [x] 9 = [x,x,x,x,x,x,x,x,x]:=by rw [Jp];rfl

@[go_sem] def Uo:List Int → D:=fun x=>li cI x
theorem l6Word_flat (x:List Int):dat (Uo x) = Uo x:=by simp [go_sem]
def Wh (n:Int):List Int → Prop:=fun x=>(x.length:Int) = n
def l6Word_gd (n:Int) (x:(List Int) × D):Prop:=Wh n x.1 ∧ dat x.2 = Uo x.1
def zabm (n:Int) (p:Int) (c:Any):((List Int) × D) × Int:=dsel (l6Word_gd n) ((zrP n.toNat 0:List Int),Uo (zrP n.toNat 0)) 100 p c
def Zs (n:Int) (p:Int) (c:Any):(List Int) × Int:=((zabm n p c).1.1,(zabm n p c).2)
theorem l6Word_okD (n:Int) (h0:0 ≤ n) (hn:n ≤ 100) (p:Int) (c:Any):(Wh n (Zs n p c).1 ∧ p ≤ (Zs n p c).2 ∧ (Zs n p c).2 ≤ p + 100) ∧ dat (zabm n p c).1.2 = Uo (Zs n p c).1:=by
  have hx:Wh n (zrP n.toNat 0):=by simp [Wh];omega
  have h:=zamg (good:=l6Word_gd n) (x0:=((zrP n.toNat 0:List Int),Uo (zrP n.toNat 0))) ⟨hx,l6Word_flat _⟩ (K:=100) (by omega) (p:=p) c
  exact ⟨⟨h.1.1,h.2.1,h.2.2⟩,h.1.2⟩
theorem l6Word_ok (n:Int) (h0:0 ≤ n) (hn:n ≤ 100) (p:Int) (c:Any):Wh n (Zs n p c).1 ∧ p ≤ (Zs n p c).2 ∧ (Zs n p c).2 ≤ p + 100:=(l6Word_okD n h0 hn p c).1
theorem l6Word_ret (n:Int) (ys:List UInt8) (p:Int) (b:Nat) {e_:Exit} {S_:St} (x:List Int) (p':Int) (he_:e_ = .ret ∨ e_ = .normal)
    (h1:(Ql Try.prog S_ Try.f61.results.toList).1 ∧ dat (resD (Ql Try.prog S_ Try.f61.results.toList).2.1) = Uo x ∧ (Ql Try.prog S_ Try.f61.results.toList).2.2.H b = some [li cY ys,.int .i64 p']) (hg:Wh n x) (h2:p ≤ p' ∧ p' ≤ p + 100) :
    retR Try.prog Try.f61 (fun c=>((zabm n p c).1.2,one b [li cY ys,.int .i64 (zabm n p c).2])) e_ S_ :=
  zafw (good:=l6Word_gd n) (enc:=fun x:(List Int) × D=>x.2) (cells:=fun q=>[li cY ys,.int .i64 q]) (x,resD (Ql Try.prog S_ Try.f61.results.toList).2.1) p' he_ ⟨h1.1,rfl,h1.2.2⟩ ⟨hg,h1.2.1⟩ h2
set_option maxHeartbeats 8000000 in
theorem l6Word_spec (ys:List UInt8) (p:Int) (b:Nat) (n:Int) (hl:ys.length ≤ 2000) (h0_:0 ≤ p) (hp_:p + 100 ≤ 1000000) (h0:0 ≤ n) (hn:n ≤ 100):SpecR Try.prog 61 [.ptr b 0,.int .i64 n] (one b [li cY ys,.int .i64 p]) (fun c=>((zabm n p c).1.2,one b [li cY ys,.int .i64 (zabm n p c).2])):=by
  refine SpecR.of_walk Try.func61 rfl (by simp [Try.f61]) fun B=>?_
  (repeat' (first
 | refine Qu ?_
 | refine Qc (id:=0) Wo [] (by kernel_rfl) ?_;simp [-zg,-zd,↓Qb,↓Qa,go_sem]
 | refine Qc (id:=1) Wo [] (by kernel_rfl) ?_;simp [-zg,-zd,↓Qb,↓Qa,go_sem]
 | refine Qc (id:=2) Wo [] (by kernel_rfl) ?_;simp [-zg,-zd,↓Qb,↓Qa,go_sem]
 | refine Qc (id:=3) Wo [] (by kernel_rfl) ?_;simp [-zg,-zd,↓Qb,↓Qa,go_sem]
 | refine Qc (id:=5) Wo [] (by kernel_rfl) ?_;simp [-zg,-zd,↓Qb,↓Qa,go_sem,g3,hl,(show 0 ≤ q.2.1 by omega),(show q.2.1 ≤ 1000000 by omega),(show 0 ≤ q.2.1 + 1 by omega),(show q.2.1 + 1 ≤ 1000000 by omega),(show q.1.length ≤ 9223372036854775806 by omega),(show 2 * (q.1.length + 1) * 8 ≤ 281474976710656 by omega),Ja];try ((generalize numI ys q.2.1 [0,1,2,3,1,0,5,4,7] = vv at *);(refine Qq (fun H2=>H2 b = some [.list ys.length (cat cY ys),.int .i64 (q.2.1 + 1)]) (by simp [upd]) fun H2 t3=>?_))
 | refine Qc (id:=4) Wo [] (by kernel_rfl) ?_;simp [-zg,-zd,↓Qb,↓Qa,go_sem,wrapS (k:=q.1.length) (by omega)]
 | refine Qc (id:=6) Wo [] (by kernel_rfl) ?_;simp [-zg,-zd,↓Qb,↓Qa,go_sem]
 | refine Qd (c:=.tmp 10) ?_;simp [-zg,-zd,↓Qb,↓Qa,go_sem];try first | (refine ⟨?_,?_⟩ <;> refine zA ?_) | (refine ⟨fun c10=>?_,fun c10=>?_⟩ <;> (try simp [B_iff,B_not] at c10))
 | (refine Qe (id:=0) (Qz (ι:=List Int × Int × Hp) (fun q:List Int × Int × Hp=>⟨(upd (upd (upd (upd (fun _=>.any) 0 (.ptr b 0)) 1 (.int .i64 n)) 5 (.fr 1 q.1.length (cat cI q.1))) 6 (.int .i64 (q.1.length:Int))),q.2.2⟩) (fun q=>(q.1.length:Int) ≤ n ∧ q.2.1 = p + q.1.length ∧ q.2.2 b = some [.list ys.length (cat cY ys),.int .i64 (q.2.1)]) (fun q=>(n - q.1.length).toNat) (([],p,one b [li cY ys,.int .i64 p])) ?_ ?_ ?_);exact ⟨by simpa using h0,by simp,by simp [one,upd,li]⟩;((repeat' (first | exact Qg (by assumption) | exact Qi | refine Qf ?_ ?_ | refine Qh ?_)) <;> simp [-zg,-zd,↓Qb,↓Qa,go_sem,List.length_nil,Xg]);rintro q ⟨g1,g2,g3⟩)
 | (refine ⟨(q.1 ++ [vv],q.2.1 + 1,H2),⟨by simp;omega,by simp;omega,t3⟩,by first | omega | (simp;done) | (simp;omega),?_⟩;((repeat' (first | exact Qg (by assumption) | exact Qi | refine Qf ?_ ?_ | refine Qh ?_)) <;> simp [-zg,-zd,↓Qb,↓Qa,go_sem,List.length_nil,Xg]))
 | (refine Qe ?_)
 | (refine Qt ?_;simp [-zg,-zd,↓Qb,↓Qa,go_sem])
 | (refine Qs ?_;simp [-zg,-zd,↓Qb,↓Qa,go_sem])
 | (refine Qv ?_;try simp [-zg,-zd,↓Qb,↓Qa,go_sem,Try.results61])
 | (intro hx;refine zA ?_)
 | (intro hx;change retR _ _ _ _ _)
 | (refine ⟨?_,?_⟩ <;> refine zA ?_)
 | (intro hx;constructor <;> intro hs)
 | (constructor <;> intro hs)
 | (refine ⟨?_,fun hs=>?_⟩;refine zA ?_)
 | (refine ⟨fun hs=>?_,?_⟩;rotate_left;refine zA ?_;rotate_left)))
  all_goals (first
 | (refine l6Word_ret _ _ _ _ (q.1) (q.2.1) ?_ ?_ ?_ ?_;(first | exact Or.inl rfl | exact Or.inr rfl);(focus (simp [-zg,-zd,↓Qb,↓Qa,go_sem,Try.results61,li,dat,Xd,Zj,g3];done));(focus ((((show (q.1.length:Int) = n);omega));done));(focus (refine ⟨?_,?_⟩ <;> omega)))
 | skip)
@[go_sem] def l6WordC:Con:=.rel fun args H=>match args with
  | [.ptr b 0,.int .i64 n]=>match H b with
    | some [.list m cs,.int .i64 p]=>((Is cY m cs) ∧ (m ≤ 2000) ∧ (0 ≤ p) ∧ (p + 100 ≤ 1000000) ∧ (0 ≤ n) ∧ (n ≤ 100),fun c=>(Uo (Zs n p c).1,upd H b (some [.list m cs,.int .i64 (Zs n p c).2])))
    | _=>(False,fun _=>(.any,H))
  | _=>(False,fun _=>(.any,H))
theorem l6WordC_ok:ConOk Try.prog 61 l6WordC:=by
  refine ⟨Qp Try.func61 (by decide) rfl,fun args H h=>?_⟩
  revert h
  dsimp only
  split
  · split
    · rename_i hH
      intro h
      obtain ⟨⟨ys,rfl,rfl⟩,hl,h0_,hp_,h0,hn⟩:=h
      try simp only [Qr] at *
      exact SpecR.enc ((l6Word_spec ys _ _ _ hl h0_ hp_ h0 hn).frame hH).shut fun c=>Prod.ext (l6Word_okD _ h0 hn _ _).2.symm rfl
    · intro h;exact h.elim
  · intro h
    exact h.elim
@[go_sem] def Γy31:FuncId → Con:=ext Γy30 61 l6WordC
theorem zahn:∀ g,ConOk Try.prog g (Γy31 g):=Qo Wo l6WordC_ok

@[go_sem] def sPz (x:Ints2):D:=.st [li cI x.1,li cI x.2]
@[go_sem] def Ul:Ints2 → D:=sPz
theorem l6Lasso_flat (x:Ints2):dat (Ul x) = Ul x:=by simp [go_sem]
def zabn  : Ints2 → Prop:=fun x=>x.1.length ≤ 5 ∧ 1 ≤ x.2.length ∧ x.2.length ≤ 8
def zaln  (x:(Ints2) × D):Prop:=zabn x.1 ∧ dat x.2 = Ul x.1
def zaat  (p:Int) (c:Any):((Ints2) × D) × Int:=dsel (zaln) ((([],[0]):Ints2),Ul (([],[0]))) 210 p c
def Zm  (p:Int) (c:Any):(Ints2) × Int:=((zaat p c).1.1,(zaat p c).2)
theorem zaof   (p:Int) (c:Any):(zabn (Zm p c).1 ∧ p ≤ (Zm p c).2 ∧ (Zm p c).2 ≤ p + 210) ∧ dat (zaat p c).1.2 = Ul (Zm p c).1:=by
  have hx:zabn (([],[0])):=by simp [zabn]
  have h:=zamg (good:=zaln) (x0:=((([],[0]):Ints2),Ul (([],[0])))) ⟨hx,l6Lasso_flat _⟩ (K:=210) (by omega) (p:=p) c
  exact ⟨⟨h.1.1,h.2.1,h.2.2⟩,h.1.2⟩
theorem l6Lasso_ok   (p:Int) (c:Any):zabn (Zm p c).1 ∧ p ≤ (Zm p c).2 ∧ (Zm p c).2 ≤ p + 210:=(zaof  p c).1
theorem zaoe  (ys:List UInt8) (p:Int) (b:Nat) {e_:Exit} {S_:St} (x:Ints2) (p':Int) (he_:e_ = .ret ∨ e_ = .normal)
    (h1:(Ql Try.prog S_ Try.f42.results.toList).1 ∧ dat (resD (Ql Try.prog S_ Try.f42.results.toList).2.1) = Ul x ∧ (Ql Try.prog S_ Try.f42.results.toList).2.2.H b = some [li cY ys,.int .i64 p']) (hg:zabn x) (h2:p ≤ p' ∧ p' ≤ p + 210) :
    retR Try.prog Try.f42 (fun c=>((zaat p c).1.2,one b [li cY ys,.int .i64 (zaat p c).2])) e_ S_ :=
  zafw (good:=zaln) (enc:=fun x:(Ints2) × D=>x.2) (cells:=fun q=>[li cY ys,.int .i64 q]) (x,resD (Ql Try.prog S_ Try.f42.results.toList).2.1) p' he_ ⟨h1.1,rfl,h1.2.2⟩ ⟨hg,h1.2.1⟩ h2
set_option maxHeartbeats 8000000 in
theorem l6Lasso_spec (ys:List UInt8) (p:Int) (b:Nat)  (hl:ys.length ≤ 2000) (h0_:0 ≤ p) (hp_:p + 210 ≤ 1000000)  : SpecR Try.prog 42 [.ptr b 0] (one b [li cY ys,.int .i64 p]) (fun c=>((zaat p c).1.2,one b [li cY ys,.int .i64 (zaat p c).2])):=by
  refine SpecR.of_walk Try.func42 rfl (by simp [Try.f42]) fun B=>?_
  have hr1:=Un ys (p:=p) (by omega) (xs:=[2,0,3,1,5]) (lo:=0) (hi:=5) (by simp) (by simp);obtain ⟨n1,hn1⟩:∃ n1,numI ys p [2,0,3,1,5] = n1:=⟨_,rfl⟩;rw [hn1] at hr1;have u1:∀ c,0 ≤ (Zs n1 (p + 1) c).2 ∧ (Zs n1 (p + 1) c).2 ≤ 1000000 ∧ 0 ≤ (Zs n1 (p + 1) c).2 + 1 ∧ (Zs n1 (p + 1) c).2 + 1 + 100 ≤ 1000000 ∧ 0 ≤ numI ys (Zs n1 (p + 1) c).2 [2,1,3,4] ∧ numI ys (Zs n1 (p + 1) c).2 [2,1,3,4] ≤ 100:=(fun c=>by (have h:=l6Word_ok n1 (by omega) (by omega) (p + 1) c);(have r:=Un ys (p:=(Zs n1 (p + 1) c).2) (by omega) (xs:=[2,1,3,4]) (lo:=1) (hi:=4) (by simp) (by simp));omega)
  all_goals (repeat' (first
 | refine Qu ?_
 | refine Qc (id:=0) zahn [] (by kernel_rfl) ?_;simp [-zg,-zd,↓Qb,↓Qa,go_sem]
 | refine Qc (id:=1) zahn [] (by kernel_rfl) ?_;simp [-zg,-zd,↓Qb,↓Qa,go_sem,hl,(show 0 ≤ p by omega),(show p ≤ 1000000 by omega),(show 0 ≤ p + 1 by omega),(show p + 1 ≤ 1000000 by omega),hn1,hr1,(show n1 ≤ 100 by omega),(show p + 1 + 100 ≤ 1000000 by omega),u1];try ((intro c1 c1');(have z0:=l6Word_ok n1 (by omega) (by omega) (p + 1) c1);(have u2:=u1 c1);(generalize Zs n1 (p + 1) c1 = z at *);(obtain ⟨st,p2⟩:=z);(dsimp only at z0 u2 ⊢);(simp only [Wh] at z0);(have r:=Un ys (p:=p2) (by omega) (xs:=[2,1,3,4]) (lo:=1) (hi:=4) (by simp) (by simp));(generalize numI ys p2 [2,1,3,4] = n2 at *);(have y0:=l6Word_ok n2 (by omega) (by omega) (p2 + 1) c1');(generalize Zs n2 (p2 + 1) c1' = y at *);(obtain ⟨lo,p3⟩:=y);(dsimp only at y0 ⊢);(simp only [Wh] at y0);(clear u1))
 | refine Qc (id:=2) zahn [] (by kernel_rfl) ?_;simp [-zg,-zd,↓Qb,↓Qa,go_sem,hl,(show 0 ≤ p3 by omega),(show p3 ≤ 1000000 by omega),(show 0 ≤ p3 + 1 by omega),(show p3 + 1 ≤ 1000000 by omega)]
 | ((refine Xu 3 rfl fun lb hlb=>?_);(have nbl:¬ b = lb:=(by rintro rfl;simp [upd] at hlb));(clear hlb);(refine Qq (fun H1=>H1 b = some [.list ys.length (cat cY ys),.int .i64 (p3 + 1)] ∧ H1 lb = some [li cI st,li cI lo]) ⟨by simp [upd,nbl],by simp [upd,li]⟩ fun H1 ⟨w1,w2⟩=>?_));refine Xr (id:=3) zahn mixed [] [3] (by kernel_rfl) (by kernel_rfl) (by simp [-zg,-zd,↓Qb,↓Qa,go_sem,w1,w2,nbl,zS nbl,(show lo.length ≤ 9223372036854775807 by omega),(show 2 * lo.length * 8 ≤ 281474976710656 by omega),(show lo.length + lo.length ≤ 9223372036854775807 by omega),(show 2 * (lo.length + lo.length) * 8 ≤ 281474976710656 by omega)]) ?_;simp [-zg,-zd,↓Qb,↓Qa,go_sem,w1,w2,nbl,zS nbl,(show lo.length ≤ 9223372036854775807 by omega),(show 2 * lo.length * 8 ≤ 281474976710656 by omega),(show lo.length + lo.length ≤ 9223372036854775807 by omega),(show 2 * (lo.length + lo.length) * 8 ≤ 281474976710656 by omega)]
 | (first | (have z_:=nbl) | (refine Xv 3 ?_;simp [go_sem,dat]));refine Qc (id:=4) zahn [] (by kernel_rfl) ?_;simp [-zg,-zd,↓Qb,↓Qa,go_sem]
 | refine Qd (c:=.tmp 17) ?_;simp [-zg,-zd,↓Qb,↓Qa,go_sem];try first | (refine ⟨?_,?_⟩ <;> refine zA ?_) | (refine ⟨fun c17=>?_,fun c17=>?_⟩ <;> (try simp [B_iff,B_not] at c17))
 | (refine Qe ?_)
 | (refine Qt ?_;simp [-zg,-zd,↓Qb,↓Qa,go_sem])
 | (refine Qs ?_;simp [-zg,-zd,↓Qb,↓Qa,go_sem])
 | (refine Qv ?_;try simp [-zg,-zd,↓Qb,↓Qa,go_sem,Try.results42])
 | (intro hx;refine zA ?_)
 | (intro hx;change retR _ _ _ _ _)
 | (refine ⟨?_,?_⟩ <;> refine zA ?_)
 | (intro hx;constructor <;> intro hs)
 | (constructor <;> intro hs)
 | (refine ⟨?_,fun hs=>?_⟩;refine zA ?_)
 | (refine ⟨fun hs=>?_,?_⟩;rotate_left;refine zA ?_;rotate_left)))
  all_goals (first
 | (refine zaoe _ _ _ ((st,lo)) (p3 + 1) ?_ ?_ ?_ ?_;(first | exact Or.inl rfl | exact Or.inr rfl);(focus (simp [-zg,-zd,↓Qb,↓Qa,go_sem,Try.results42,dat,Xd,li,Zj];done));(focus ((exact ⟨by dsimp only;omega,by dsimp only;omega,by dsimp only;omega⟩);done));(focus (refine ⟨?_,?_⟩ <;> omega)))
 | (refine zaoe _ _ _ ((st,lo ++ lo)) (p3 + 1) ?_ ?_ ?_ ?_;(first | exact Or.inl rfl | exact Or.inr rfl);(focus (simp [-zg,-zd,↓Qb,↓Qa,go_sem,Try.results42,dat,Xd,li,Zj,Zi,w1,nbl,zS nbl];done));(focus ((exact ⟨by dsimp only;omega,by simp;omega,by simp;omega⟩);done));(focus (refine ⟨?_,?_⟩ <;> omega)))
 | skip)
@[go_sem] def l6LassoC:Con:=.rel fun args H=>match args with
  | [.ptr b 0]=>match H b with
    | some [.list m cs,.int .i64 p]=>((Is cY m cs) ∧ (m ≤ 2000) ∧ (0 ≤ p) ∧ (p + 210 ≤ 1000000),fun c=>(Ul (Zm p c).1,upd H b (some [.list m cs,.int .i64 (Zm p c).2])))
    | _=>(False,fun _=>(.any,H))
  | _=>(False,fun _=>(.any,H))
theorem l6LassoC_ok:ConOk Try.prog 42 l6LassoC:=by
  refine ⟨Qp Try.func42 (by decide) rfl,fun args H h=>?_⟩
  revert h
  dsimp only
  split
  · split
    · rename_i hH
      intro h
      obtain ⟨⟨ys,rfl,rfl⟩,hl,h0_,hp_⟩:=h
      try simp only [Qr] at *
      exact SpecR.enc ((l6Lasso_spec ys _ _ hl h0_ hp_ ).frame hH).shut fun c=>Prod.ext (zaof  _ _).2.symm rfl
    · intro h;exact h.elim
  · intro h
    exact h.elim
@[go_sem] def Γy32:FuncId → Con:=ext Γy31 42 l6LassoC
theorem Jq:∀ g,ConOk Try.prog g (Γy32 g):=Qo zahn l6LassoC_ok

structure LZ where
  s:List Int
  q:Int
  H:Hp
def LZi (b qb y:Nat) (ys:List UInt8) (e:List Int) (c2 j2:Nat) (p0:Int) (m0:Nat) (r:LZ):Prop:=r.s.length ≤ 200 ∧ m0 ≤ r.s.length ∧ p0 ≤ r.q ∧ r.q ≤ p0 + (r.s.length - m0:Int) ∧ r.H b = some [.list ys.length (cat cY ys),.int .i64 (r.q)] ∧ r.H qb = some [.fr 1 r.s.length (cat cI r.s),.sl y 1 0 e.length c2] ∧ r.H y = some (cat cI e ++ zrP j2 .any)

@[go_sem] def Uj:Ints2 → D:=sPz
theorem l6Mutate_flat (x:Ints2):dat (Uj x) = Uj x:=by simp [go_sem]
def zaay (a:List Int) (e:List Int):Ints2 → Prop:=fun x=>x.1.length ≤ 300 ∧ x.2.length ≤ 300
def zaib (a:List Int) (e:List Int) (x:(Ints2) × D):Prop:=zaay a e x.1 ∧ dat x.2 = Uj x.1
def zaap (a:List Int) (e:List Int) (p:Int) (c:Any):((Ints2) × D) × Int:=dsel (zaib a e) ((([],[]):Ints2),Uj (([],[]))) 210 p c
def Vv (a:List Int) (e:List Int) (p:Int) (c:Any):(Ints2) × Int:=((zaap a e p c).1.1,(zaap a e p c).2)
theorem zalm (a:List Int) (e:List Int) (hS:a.length ≤ 100 ∧ 1 ≤ e.length ∧ e.length ≤ 100) (p:Int) (c:Any):(zaay a e (Vv a e p c).1 ∧ p ≤ (Vv a e p c).2 ∧ (Vv a e p c).2 ≤ p + 210) ∧ dat (zaap a e p c).1.2 = Uj (Vv a e p c).1:=by
  have hx:zaay a e (([],[])):=by simp [zaay]
  have h:=zamg (good:=zaib a e) (x0:=((([],[]):Ints2),Uj (([],[])))) ⟨hx,l6Mutate_flat _⟩ (K:=210) (by omega) (p:=p) c
  exact ⟨⟨h.1.1,h.2.1,h.2.2⟩,h.1.2⟩
theorem l6Mutate_ok (a:List Int) (e:List Int) (hS:a.length ≤ 100 ∧ 1 ≤ e.length ∧ e.length ≤ 100) (p:Int) (c:Any):zaay a e (Vv a e p c).1 ∧ p ≤ (Vv a e p c).2 ∧ (Vv a e p c).2 ≤ p + 210:=(zalm a e hS p c).1
theorem zacs (a:List Int) (e:List Int) (ys:List UInt8) (p:Int) (b:Nat) {e_:Exit} {S_:St} (x:Ints2) (p':Int) (he_:e_ = .ret ∨ e_ = .normal)
    (h1:(Ql Try.prog S_ Try.f41.results.toList).1 ∧ dat (resD (Ql Try.prog S_ Try.f41.results.toList).2.1) = Uj x ∧ (Ql Try.prog S_ Try.f41.results.toList).2.2.H b = some [li cY ys,.int .i64 p']) (hg:zaay a e x) (h2:p ≤ p' ∧ p' ≤ p + 210) :
    retR Try.prog Try.f41 (fun c=>((zaap a e p c).1.2,one b [li cY ys,.int .i64 (zaap a e p c).2])) e_ S_ :=
  zafw (good:=zaib a e) (enc:=fun x:(Ints2) × D=>x.2) (cells:=fun q=>[li cY ys,.int .i64 q]) (x,resD (Ql Try.prog S_ Try.f41.results.toList).2.1) p' he_ ⟨h1.1,rfl,h1.2.2⟩ ⟨hg,h1.2.1⟩ h2
set_option maxHeartbeats 16000000 in
theorem l6Mutate_spec (ys:List UInt8) (p:Int) (b:Nat) (a:List Int) (e:List Int) (hl:ys.length ≤ 2000) (h0_:0 ≤ p) (hp_:p + 210 ≤ 1000000) (hS:a.length ≤ 100 ∧ 1 ≤ e.length ∧ e.length ≤ 100):SpecR Try.prog 41 [.ptr b 0,.st [li cI a,li cI e]] (one b [li cY ys,.int .i64 p]) (fun c=>((zaap a e p c).1.2,one b [li cY ys,.int .i64 (zaap a e p c).2])):=by
  refine SpecR.of_walk Try.func41 rfl (by simp [Try.f41]) fun B=>?_
  obtain ⟨s1,s2,s3⟩:=hS
  all_goals (repeat' (first
 | refine Qu ?_
 | refine Qc (id:=0) Jq [] (by kernel_rfl) ?_;simp [-zg,-zd,↓Qb,↓Qa,go_sem];try (refine Xv 3 ?_;simp [go_sem])
 | refine Xr (id:=1) Jq mixed [] [3] (by kernel_rfl) (by kernel_rfl) (by simp [-zg,-zd,↓Qb,↓Qa,go_sem,(show a.length ≤ 9223372036854775807 by omega),(show 2 * a.length * 8 ≤ 281474976710656 by omega),(show e.length ≤ 9223372036854775807 by omega),(show 2 * e.length * 8 ≤ 281474976710656 by omega)]) ?_;simp [-zg,-zd,↓Qb,↓Qa,go_sem,(show a.length ≤ 9223372036854775807 by omega),(show 2 * a.length * 8 ≤ 281474976710656 by omega),(show e.length ≤ 9223372036854775807 by omega),(show 2 * e.length * 8 ≤ 281474976710656 by omega)];try ((refine AW_box2z 5 rfl fun qb x y j1 j2 c1 c2 hqb hx hy n1 n2 n3 hc1 hd1 hc2 hd2=>?_);(have nbq:¬ b = qb:=(by rintro rfl;simp [upd] at hqb));(have nbx:¬ b = x:=(by rintro rfl;simp [upd] at hx));(have nby:¬ b = y:=(by rintro rfl;simp [upd] at hy));(clear hqb hx hy);(refine Qq (fun H1=>H1 b = some [.list ys.length (cat cY ys),.int .i64 (p)] ∧ H1 qb = some [.sl x 1 0 a.length c1,.sl y 1 0 e.length c2] ∧ H1 x = some (cat cI a ++ zrP j1 .any) ∧ H1 y = some (cat cI e ++ zrP j2 .any)) ⟨by simp [upd,nbq,zS nbq,nbx,zS nbx,nby,zS nby,n1,zS n1,n2,zS n2,n3,zS n3],by simp [upd,nbq,zS nbq,nbx,zS nbx,nby,zS nby,n1,zS n1,n2,zS n2,n3,zS n3],by simp [upd,nbq,zS nbq,nbx,zS nbx,nby,zS nby,n1,zS n1,n2,zS n2,n3,zS n3],by simp [upd,nbq,zS nbq,nbx,zS nbx,nby,zS nby,n1,zS n1,n2,zS n2,n3,zS n3]⟩ fun H1 ⟨w1,w2,w3,w4⟩=>?_))
 | refine Qc (id:=2) Jq [] (by kernel_rfl) ?_;simp [-zg,-zd,↓Qb,↓Qa,go_sem,w1,hl,(show 0 ≤ p by omega),(show p ≤ 1000000 by omega),(show 0 ≤ p + 1 by omega),(show p + 1 ≤ 1000000 by omega)];try ((generalize pkI ys p 40 = kk at *);(refine Qq (fun H2=>H2 b = some [.list ys.length (cat cY ys),.int .i64 (p + 1)] ∧ H2 qb = some [.sl x 1 0 a.length c1,.sl y 1 0 e.length c2] ∧ H2 x = some (cat cI a ++ zrP j1 .any) ∧ H2 y = some (cat cI e ++ zrP j2 .any)) ⟨by simp [upd,nbq,zS nbq,nbx,zS nbx,nby,zS nby,n1,zS n1,n2,zS n2,n3,zS n3],by simp [upd,nbq,zS nbq,nbx,zS nbx,nby,zS nby,n1,zS n1,n2,zS n2,n3,zS n3,w2],by simp [upd,nbq,zS nbq,nbx,zS nbx,nby,zS nby,n1,zS n1,n2,zS n2,n3,zS n3,w3],by simp [upd,nbq,zS nbq,nbx,zS nbx,nby,zS nby,n1,zS n1,n2,zS n2,n3,zS n3,w4]⟩ fun H2 ⟨w1,w2,w3,w4⟩=>?_))
 | refine Qc (id:=3) Jq [] (by kernel_rfl) ?_;simp [-zg,-zd,↓Qb,↓Qa,go_sem]
 | refine Qc (id:=4) Jq [] (by kernel_rfl) ?_;simp [-zg,-zd,↓Qb,↓Qa,go_sem,w1,w2,nbq,zS nbq,nbx,zS nbx,nby,zS nby,n1,zS n1,n2,zS n2,n3,zS n3];try ((have hz0:True:=trivial);(refine Qq (fun H3=>H3 b = some [.list ys.length (cat cY ys),.int .i64 (p + 1)] ∧ H3 qb = some [.sl x 1 0 a.length c1,.fr 1 0 []] ∧ H3 x = some (cat cI a ++ zrP j1 .any)) ⟨by simp [upd,nbq,zS nbq,nbx,zS nbx,nby,zS nby,n1,zS n1,n2,zS n2,n3,zS n3,w1],by simp [upd,nbq,zS nbq,nbx,zS nbx,nby,zS nby,n1,zS n1,n2,zS n2,n3,zS n3],by simp [upd,nbq,zS nbq,nbx,zS nbx,nby,zS nby,n1,zS n1,n2,zS n2,n3,zS n3,w3]⟩ fun H3 ⟨t1,t2,t3⟩=>?_))
 | refine Qc (id:=5) Jq [] (by kernel_rfl) ?_;simp [-zg,-zd,↓Qb,↓Qa,go_sem]
 | ((have he0:0 < e.length:=(by omega)));refine Xq (id:=6) Jq mixed [(qb,[.sl x 1 0 a.length c1,.sl y 1 0 e.length c2])] [] [] (by kernel_rfl) (by kernel_rfl) (by simp [-zg,-zd,↓Qb,↓Qa,go_sem,w1,w2,w3,w4,hl,nbq,zS nbq,nbx,zS nbx,nby,zS nby,n1,zS n1,n2,zS n2,n3,zS n3,(show 0 ≤ p + 1 by omega),(show p + 1 ≤ 1000000 by omega),(show 0 ≤ p + 1 + 1 by omega),(show p + 1 + 1 ≤ 1000000 by omega),he0,(show 0 < e.length + j2 by omega),(show 1 ≤ e.length + j2 by omega)]) (by simp [-zg,-zd,↓Qb,↓Qa,go_sem,w1,w2,w3,w4,hl,nbq,zS nbq,nbx,zS nbx,nby,zS nby,n1,zS n1,n2,zS n2,n3,zS n3,(show 0 ≤ p + 1 by omega),(show p + 1 ≤ 1000000 by omega),(show 0 ≤ p + 1 + 1 by omega),(show p + 1 + 1 ≤ 1000000 by omega),he0,(show 0 < e.length + j2 by omega),(show 1 ≤ e.length + j2 by omega)]) ?_;simp [-zg,-zd,↓Qb,↓Qa,go_sem,w1,w2,w3,w4,hl,nbq,zS nbq,nbx,zS nbx,nby,zS nby,n1,zS n1,n2,zS n2,n3,zS n3,(show 0 ≤ p + 1 by omega),(show p + 1 ≤ 1000000 by omega),(show 0 ≤ p + 1 + 1 by omega),(show p + 1 + 1 ≤ 1000000 by omega),he0,(show 0 < e.length + j2 by omega),(show 1 ≤ e.length + j2 by omega)];try ((generalize numI ys (p + 1) [8,-1,7,9223372036854775807] = vv at *);(have hel:(e.set 0 vv).length = e.length:=(by simp));(refine Qq (fun H3=>H3 b = some [.list ys.length (cat cY ys),.int .i64 (p + 1 + 1)] ∧ H3 qb = some [.sl x 1 0 a.length c1,.sl y 1 0 (e.set 0 vv).length c2] ∧ H3 x = some (cat cI a ++ zrP j1 .any) ∧ H3 y = some (cat cI (e.set 0 vv) ++ zrP j2 .any)) ⟨by simp [upd,nbq,zS nbq,nbx,zS nbx,nby,zS nby,n1,zS n1,n2,zS n2,n3,zS n3],by simp [upd,nbq,zS nbq,nbx,zS nbx,nby,zS nby,n1,zS n1,n2,zS n2,n3,zS n3,w2],by simp [upd,nbq,zS nbq,nbx,zS nbx,nby,zS nby,n1,zS n1,n2,zS n2,n3,zS n3,w3],by simp [upd,nbq,zS nbq,nbx,zS nbx,nby,zS nby,n1,zS n1,n2,zS n2,n3,zS n3]⟩ fun H3 ⟨t1,t2,t3,t4⟩=>?_);(generalize e.set 0 vv = e8 at *))
 | refine Qc (id:=7) Jq [] (by kernel_rfl) ?_;simp [-zg,-zd,↓Qb,↓Qa,go_sem]
 | refine Xq (id:=8) Jq mixed [(qb,[.sl x 1 0 a.length c1,.sl y 1 0 e.length c2])] [] [] (by kernel_rfl) (by kernel_rfl) (by simp [-zg,-zd,↓Qb,↓Qa,go_sem,w1,w2,w3,w4,hl,nbq,zS nbq,nbx,zS nbx,nby,zS nby,n1,zS n1,n2,zS n2,n3,zS n3,(show 0 ≤ p + 1 by omega),(show p + 1 ≤ 1000000 by omega),(show 0 ≤ p + 1 + 1 by omega),(show p + 1 + 1 ≤ 1000000 by omega),(show a.length ≤ 9223372036854775806 by omega),(show 2 * (a.length + 1) * 8 ≤ 281474976710656 by omega),(show c1 ≤ a.length + j1 by omega),(show a.length ≤ a.length + j1 by omega)]) (by simp [-zg,-zd,↓Qb,↓Qa,go_sem,w1,w2,w3,w4,hl,nbq,zS nbq,nbx,zS nbx,nby,zS nby,n1,zS n1,n2,zS n2,n3,zS n3,(show 0 ≤ p + 1 by omega),(show p + 1 ≤ 1000000 by omega),(show 0 ≤ p + 1 + 1 by omega),(show p + 1 + 1 ≤ 1000000 by omega),(show a.length ≤ 9223372036854775806 by omega),(show 2 * (a.length + 1) * 8 ≤ 281474976710656 by omega),(show c1 ≤ a.length + j1 by omega),(show a.length ≤ a.length + j1 by omega)]) ?_;simp [-zg,-zd,↓Qb,↓Qa,go_sem,w1,w2,w3,w4,hl,nbq,zS nbq,nbx,zS nbx,nby,zS nby,n1,zS n1,n2,zS n2,n3,zS n3,(show 0 ≤ p + 1 by omega),(show p + 1 ≤ 1000000 by omega),(show 0 ≤ p + 1 + 1 by omega),(show p + 1 + 1 ≤ 1000000 by omega),(show a.length ≤ 9223372036854775806 by omega),(show 2 * (a.length + 1) * 8 ≤ 281474976710656 by omega),(show c1 ≤ a.length + j1 by omega),(show a.length ≤ a.length + j1 by omega)];try ((generalize numI ys (p + 1) [8,0,-9223372036854775808] = vv at *);(have hal:(a ++ [vv]).length = a.length + 1:=(by simp));(refine Qq (fun H3=>H3 b = some [.list ys.length (cat cY ys),.int .i64 (p + 1 + 1)] ∧ H3 qb = some [.fr 1 (a ++ [vv]).length (cat cI (a ++ [vv])),.sl y 1 0 e.length c2] ∧ H3 y = some (cat cI e ++ zrP j2 .any)) ⟨by simp [upd,nbq,zS nbq,nbx,zS nbx,nby,zS nby,n1,zS n1,n2,zS n2,n3,zS n3],by simp [upd,nbq,zS nbq,nbx,zS nbx,nby,zS nby,n1,zS n1,n2,zS n2,n3,zS n3,Ja],by simp [upd,nbq,zS nbq,nbx,zS nbx,nby,zS nby,n1,zS n1,n2,zS n2,n3,zS n3,w4]⟩ fun H3 ⟨t1,t2,t4⟩=>?_);(generalize a ++ [vv] = a8 at *))
 | refine Qc (id:=9) Jq [] (by kernel_rfl) ?_;simp [-zg,-zd,↓Qb,↓Qa,go_sem]
 | ((obtain ⟨s,qq,HH⟩:=r);(obtain ⟨f1,f2,f3,f4,t1,t2,t4⟩:=hr);(dsimp only at f1 f2 f3 f4 t1 t2 t4);(have hk2:=pkI_range ys (p:=qq) (by omega) (n:=2) (by omega));(refine Xs qb 0 (all:=[.fr 1 s.length (cat cI s),.sl y 1 0 e.length c2]) t2 rfl fun xb cp jj hx2 f5 f6=>?_);(have m1:¬ xb = b:=(by rintro rfl;simp [upd,nbq,zS nbq,t1] at hx2));(have m2:¬ xb = qb:=(by rintro rfl;simp [upd,t2] at hx2));(have m3:¬ xb = y:=(by rintro rfl;simp [upd,n2,zS n2,t4] at hx2));(clear hx2);(refine Qq (fun H3=>H3 b = some [.list ys.length (cat cY ys),.int .i64 (qq)] ∧ H3 qb = some [.sl xb 1 0 s.length cp,.sl y 1 0 e.length c2] ∧ H3 y = some (cat cI e ++ zrP j2 .any) ∧ H3 xb = some (cat cI s ++ zrP jj .any)) ⟨by simp [upd,m1,zS m1,nbq,zS nbq,t1],by simp [upd,m2,zS m2],by simp [upd,m3,zS m3,n2,zS n2,t4],by simp [upd]⟩ fun H4 ⟨r1,r2,r4,r3⟩=>?_));refine Xq (id:=10) Jq mixed [(qb,[.sl xb 1 0 s.length cp,.sl y 1 0 e.length c2])] [] [] (by kernel_rfl) (by kernel_rfl) (by simp [-zg,-zd,↓Qb,↓Qa,go_sem,r1,r2,hl,nbq,zS nbq,nbx,zS nbx,nby,zS nby,n1,zS n1,n2,zS n2,n3,zS n3,(show 0 ≤ qq by omega),(show qq ≤ 1000000 by omega),(show 0 ≤ qq + 1 by omega),(show qq + 1 ≤ 1000000 by omega),Qw (x:=80 + pkI ys qq 2) (by omega) (by omega)]) (by simp [-zg,-zd,↓Qb,↓Qa,go_sem,r1,r2,hl,nbq,zS nbq,nbx,zS nbx,nby,zS nby,n1,zS n1,n2,zS n2,n3,zS n3,(show 0 ≤ qq by omega),(show qq ≤ 1000000 by omega),(show 0 ≤ qq + 1 by omega),(show qq + 1 ≤ 1000000 by omega),Qw (x:=80 + pkI ys qq 2) (by omega) (by omega)]) ?_;simp [-zg,-zd,↓Qb,↓Qa,go_sem,r1,r2,hl,nbq,zS nbq,nbx,zS nbx,nby,zS nby,n1,zS n1,n2,zS n2,n3,zS n3,(show 0 ≤ qq by omega),(show qq ≤ 1000000 by omega),(show 0 ≤ qq + 1 by omega),(show qq + 1 ≤ 1000000 by omega),Qw (x:=80 + pkI ys qq 2) (by omega) (by omega)];try ((generalize pkI ys qq 2 = k2 at *);(refine Qq (fun H3=>H3 b = some [.list ys.length (cat cY ys),.int .i64 (qq + 1)] ∧ H3 qb = some [.sl xb 1 0 s.length cp,.sl y 1 0 e.length c2] ∧ H3 y = some (cat cI e ++ zrP j2 .any) ∧ H3 xb = some (cat cI s ++ zrP jj .any)) ⟨by simp [upd],by simp [upd,zS nbq,r2],by simp [upd,zS nby,r4],by simp [upd,m1,r3]⟩ fun H5 ⟨u1,u2,u4,u3⟩=>?_))
 | refine Qc (id:=11) Jq [] (by kernel_rfl) ?_;simp [-zg,-zd,↓Qb,↓Qa,go_sem,u1,u2,u3,m2,zS m2,(show s.length ≤ 9223372036854775806 by omega),(show 2 * (s.length + 1) * 8 ≤ 281474976710656 by omega),(show cp ≤ s.length + jj by omega),(show s.length ≤ s.length + jj by omega),Ja]
 | (first | (have z_:=hz0;(refine Zh qb 0 (b':=x) (sz:=1) (m:=a.length) (cp:=c1) (all:=[.sl x 1 0 a.length c1,.fr 1 0 []]) (cs:=cat cI a ++ zrP j1 D.any) (by simp [upd,nbq,zS nbq,nbx,zS nbx,nby,zS nby,n1,zS n1,n2,zS n2,n3,zS n3,t2]) rfl n1 (by simp [upd,nbq,zS nbq,nbx,zS nbx,nby,zS nby,n1,zS n1,n2,zS n2,n3,zS n3,t3]) (by omega) (by simp [Qx]) (by simp [Qx];omega) ?_);(simp only [Nat.mul_one,Xy])) | ((refine Zh qb 0 (b':=x) (sz:=1) (m:=a.length) (cp:=c1) (all:=[.sl x 1 0 a.length c1,.sl y 1 0 e8.length c2]) (cs:=cat cI a ++ zrP j1 D.any) (by simp [upd,nbq,zS nbq,nbx,zS nbx,nby,zS nby,n1,zS n1,n2,zS n2,n3,zS n3,t2]) rfl n1 (by simp [upd,nbq,zS nbq,nbx,zS nbx,nby,zS nby,n1,zS n1,n2,zS n2,n3,zS n3,t3]) (by omega) (by simp [Qx]) (by simp [Qx];omega) ?_);(simp only [Nat.mul_one,Xy]);(refine Zh qb 1 (b':=y) (sz:=1) (m:=e8.length) (cp:=c2) (all:=[.fr 1 a.length (cat cI a),.sl y 1 0 e8.length c2]) (cs:=cat cI e8 ++ zrP j2 D.any) (by simp [upd,nbq,zS nbq,nbx,zS nbx,nby,zS nby,n1,zS n1,n2,zS n2,n3,zS n3,t2]) rfl n2 (by simp [upd,nbq,zS nbq,nbx,zS nbx,nby,zS nby,n1,zS n1,n2,zS n2,n3,zS n3,t4]) (by omega) (by simp [Qx]) (by simp [Qx];omega) ?_);(simp only [Nat.mul_one,Xy])) | ((refine Zh qb 1 (b':=y) (sz:=1) (m:=e.length) (cp:=c2) (all:=[.fr 1 a8.length (cat cI a8),.sl y 1 0 e.length c2]) (cs:=cat cI e ++ zrP j2 D.any) (by simp [upd,nbq,zS nbq,nbx,zS nbx,nby,zS nby,n1,zS n1,n2,zS n2,n3,zS n3,t2]) rfl n2 (by simp [upd,nbq,zS nbq,nbx,zS nbx,nby,zS nby,n1,zS n1,n2,zS n2,n3,zS n3,t4]) (by omega) (by simp [Qx]) (by simp [Qx];omega) ?_);(simp only [Nat.mul_one,Xy])) | ((refine Zh qb 0 (b':=xb) (sz:=1) (m:=s.length) (cp:=cp) (all:=[.sl xb 1 0 s.length cp,.sl y 1 0 e.length c2]) (cs:=cat cI s ++ zrP jj D.any) (by simp [upd,nbq,zS nbq,nbx,zS nbx,nby,zS nby,n1,zS n1,n2,zS n2,n3,zS n3,m1,zS m1,m2,zS m2,m3,zS m3,u2]) rfl (zS m2) (by simp [upd,nbq,zS nbq,nbx,zS nbx,nby,zS nby,n1,zS n1,n2,zS n2,n3,zS n3,m1,zS m1,m2,zS m2,m3,zS m3,u3]) (by omega) (by simp [Qx]) (by simp [Qx];omega) ?_);(simp only [Nat.mul_one,Xy]);(refine Zh qb 1 (b':=y) (sz:=1) (m:=e.length) (cp:=c2) (all:=[.fr 1 s.length (cat cI s),.sl y 1 0 e.length c2]) (cs:=cat cI e ++ zrP j2 D.any) (by simp [upd,nbq,zS nbq,nbx,zS nbx,nby,zS nby,n1,zS n1,n2,zS n2,n3,zS n3,m1,zS m1,m2,zS m2,m3,zS m3,u2]) rfl n2 (by simp [upd,nbq,zS nbq,nbx,zS nbx,nby,zS nby,n1,zS n1,n2,zS n2,n3,zS n3,m1,zS m1,m2,zS m2,m3,zS m3,u4]) (by omega) (by simp [Qx]) (by simp [Qx];omega) ?_);(simp only [Nat.mul_one,Xy])) | ((refine Zh qb 0 (b':=x) (sz:=1) (m:=a.length) (cp:=c1) (all:=[.sl x 1 0 a.length c1,.sl y 1 0 e.length c2]) (cs:=cat cI a ++ zrP j1 D.any) (by simp [upd,nbq,zS nbq,nbx,zS nbx,nby,zS nby,n1,zS n1,n2,zS n2,n3,zS n3,w2]) rfl n1 (by simp [upd,nbq,zS nbq,nbx,zS nbx,nby,zS nby,n1,zS n1,n2,zS n2,n3,zS n3,w3]) (by omega) (by simp [Qx]) (by simp [Qx];omega) ?_);(simp only [Nat.mul_one,Xy]);(refine Zh qb 1 (b':=y) (sz:=1) (m:=e.length) (cp:=c2) (all:=[.fr 1 a.length (cat cI a),.sl y 1 0 e.length c2]) (cs:=cat cI e ++ zrP j2 D.any) (by simp [upd,nbq,zS nbq,nbx,zS nbx,nby,zS nby,n1,zS n1,n2,zS n2,n3,zS n3,w2]) rfl n2 (by simp [upd,nbq,zS nbq,nbx,zS nbx,nby,zS nby,n1,zS n1,n2,zS n2,n3,zS n3,w4]) (by omega) (by simp [Qx]) (by simp [Qx];omega) ?_);(simp only [Nat.mul_one,Xy])));refine Qc (id:=12) Jq [] (by kernel_rfl) ?_;simp [-zg,-zd,↓Qb,↓Qa,go_sem,nbq,zS nbq,nbx,zS nbx,nby,zS nby,n1,zS n1,n2,zS n2,n3,zS n3]
 | refine Qd (c:=.tmp 17) ?_;simp [-zg,-zd,↓Qb,↓Qa,go_sem];try first | (refine ⟨?_,?_⟩ <;> refine zA ?_) | (refine ⟨fun c17=>?_,fun c17=>?_⟩ <;> (try simp [B_iff,B_not] at c17))
 | refine Qd (c:=.tmp 21) ?_;simp [-zg,-zd,↓Qb,↓Qa,go_sem];try first | (refine ⟨?_,?_⟩ <;> refine zA ?_) | (refine ⟨fun c21=>?_,fun c21=>?_⟩ <;> (try simp [B_iff,B_not] at c21))
 | refine Qd (c:=.tmp 29) ?_;simp [-zg,-zd,↓Qb,↓Qa,go_sem];try first | (refine ⟨?_,?_⟩ <;> refine zA ?_) | (refine ⟨fun c29=>?_,fun c29=>?_⟩ <;> (try simp [B_iff,B_not] at c29))
 | refine Qd (c:=.tmp 39) ?_;simp [-zg,-zd,↓Qb,↓Qa,go_sem];try first | (refine ⟨?_,?_⟩ <;> refine zA ?_) | (refine ⟨fun c39=>?_,fun c39=>?_⟩ <;> (try simp [B_iff,B_not] at c39);(first | (have h39:kk = 3:=c39;(refine Zh qb 0 (b':=x) (sz:=1) (m:=a.length) (cp:=c1) (all:=[.sl x 1 0 a.length c1,.sl y 1 0 e.length c2]) (cs:=cat cI a ++ zrP j1 D.any) (by simp [upd,nbq,zS nbq,nbx,zS nbx,nby,zS nby,n1,zS n1,n2,zS n2,n3,zS n3,w2]) rfl n1 (by simp [upd,nbq,zS nbq,nbx,zS nbx,nby,zS nby,n1,zS n1,n2,zS n2,n3,zS n3,w3]) (by omega) (by simp [Qx]) (by simp [Qx];omega) ?_);(simp only [Nat.mul_one,Xy]);(refine Qq (fun H3=>H3 b = some [.list ys.length (cat cY ys),.int .i64 (p + 1)] ∧ H3 qb = some [.fr 1 a.length (cat cI a),.sl y 1 0 e.length c2] ∧ H3 y = some (cat cI e ++ zrP j2 .any)) ⟨by simp [upd,nbq,zS nbq,nbx,zS nbx,nby,zS nby,n1,zS n1,n2,zS n2,n3,zS n3,w1],by simp [upd,nbq,zS nbq,nbx,zS nbx,nby,zS nby,n1,zS n1,n2,zS n2,n3,zS n3],by simp [upd,nbq,zS nbq,nbx,zS nbx,nby,zS nby,n1,zS n1,n2,zS n2,n3,zS n3,w4]⟩ fun H3 ⟨v1,v2,v4⟩=>?_)) | skip))
 | refine Qd (c:=.tmp 47) ?_;simp [-zg,-zd,↓Qb,↓Qa,go_sem];try first | (refine ⟨?_,?_⟩ <;> refine zA ?_) | (refine ⟨fun c47=>?_,fun c47=>?_⟩ <;> (try simp [B_iff,B_not] at c47))
 | (refine Qe (id:=1) (Qz (ι:=LZ) (fun r:LZ=>⟨(upd (upd (upd (fun _=>.any) 0 (.ptr b 0)) 4 (.box [.nil,.nil])) 5 (.ptr qb 0)),r.H⟩) (fun r=>LZi b qb y ys e c2 j2 (p + 1) a.length r) (fun r=>300 - r.s.length) (⟨a,p + 1,H3⟩) ?_ ?_ ?_);exact ⟨by dsimp only;omega,Nat.le_refl _,by dsimp only;omega,by dsimp only;omega,v1,v2,v4⟩;((repeat' (first | exact Qg (by assumption) | exact Qi | refine Qf ?_ ?_ | refine Qh ?_)) <;> simp [-zg,-zd,↓Qb,↓Qa,go_sem]);rintro r hr)
 | (refine ⟨⟨s ++ [1],qq + 1,upd (upd H5 xb none) qb (some [.fr 1 (s.length + 1) (cat cI (s ++ [1])),.sl y 1 0 e.length c2])⟩,⟨by simp;omega,by simp;omega,by dsimp only;omega,by simp;omega,by simp [upd,nbq,zS nbq,m1,zS m1,u1],by simp [upd],by simp [upd,n2,zS n2,m3,zS m3,u4]⟩,by first | omega | (simp;done) | (simp;omega),?_⟩;((repeat' (first | exact Qg (by assumption) | exact Qi | refine Qf ?_ ?_ | refine Qh ?_)) <;> simp [-zg,-zd,↓Qb,↓Qa,go_sem]))
 | (refine Qe ?_)
 | (refine Qt ?_;simp [-zg,-zd,↓Qb,↓Qa,go_sem])
 | (refine Qs ?_;simp [-zg,-zd,↓Qb,↓Qa,go_sem])
 | (refine Qv ?_;try simp [-zg,-zd,↓Qb,↓Qa,go_sem,Try.results41])
 | (intro hx;refine zA ?_)
 | (intro hx;change retR _ _ _ _ _)
 | (refine ⟨?_,?_⟩ <;> refine zA ?_)
 | (intro hx;constructor <;> intro hs)
 | (constructor <;> intro hs)
 | (refine ⟨?_,fun hs=>?_⟩;refine zA ?_)
 | (refine ⟨fun hs=>?_,?_⟩;rotate_left;refine zA ?_;rotate_left)))
  all_goals (first
 | (refine zacs _ _ _ _ _ ((a,[])) (p + 1) ?_ ?_ ?_ ?_;(first | exact Or.inl rfl | exact Or.inr rfl);(focus (simp [-zg,-zd,↓Qb,↓Qa,go_sem,Try.results41,dat,Xd,li,Zj,Xg,t1,nbq,zS nbq,nbx,zS nbx,nby,zS nby,n1,zS n1,n2,zS n2,n3,zS n3];done));(focus ((exact ⟨by dsimp only;omega,by simp⟩);done));(focus (refine ⟨?_,?_⟩ <;> omega)))
 | (refine zacs _ _ _ _ _ ((a,e8)) (p + 1 + 1) ?_ ?_ ?_ ?_;(first | exact Or.inl rfl | exact Or.inr rfl);(focus (simp [-zg,-zd,↓Qb,↓Qa,go_sem,Try.results41,dat,Xd,li,Zj,t1,nbq,zS nbq,nbx,zS nbx,nby,zS nby,n1,zS n1,n2,zS n2,n3,zS n3];done));(focus ((exact ⟨by dsimp only;omega,by dsimp only;omega⟩);done));(focus (refine ⟨?_,?_⟩ <;> omega)))
 | (refine zacs _ _ _ _ _ ((a8,e)) (p + 1 + 1) ?_ ?_ ?_ ?_;(first | exact Or.inl rfl | exact Or.inr rfl);(focus (simp [-zg,-zd,↓Qb,↓Qa,go_sem,Try.results41,dat,Xd,li,Zj,t1,nbq,zS nbq,nbx,zS nbx,nby,zS nby,n1,zS n1,n2,zS n2,n3,zS n3];done));(focus ((exact ⟨by dsimp only;omega,by dsimp only;omega⟩);done));(focus (refine ⟨?_,?_⟩ <;> omega)))
 | (refine zacs _ _ _ _ _ ((s,e)) (qq + 1) ?_ ?_ ?_ ?_;(first | exact Or.inl rfl | exact Or.inr rfl);(focus (simp [-zg,-zd,↓Qb,↓Qa,go_sem,Try.results41,dat,Xd,li,Zj,u1,nbq,zS nbq,nbx,zS nbx,nby,zS nby,n1,zS n1,n2,zS n2,n3,zS n3,m1,zS m1];done));(focus ((exact ⟨by dsimp only;omega,by dsimp only;omega⟩);done));(focus (refine ⟨?_,?_⟩ <;> omega)))
 | (refine zacs _ _ _ _ _ ((a,e)) (p + 1) ?_ ?_ ?_ ?_;(first | exact Or.inl rfl | exact Or.inr rfl);(focus (simp [-zg,-zd,↓Qb,↓Qa,go_sem,Try.results41,dat,Xd,li,Zj,w1,nbq,zS nbq,nbx,zS nbx,nby,zS nby,n1,zS n1,n2,zS n2,n3,zS n3];done));(focus ((exact ⟨by dsimp only;omega,by dsimp only;omega⟩);done));(focus (refine ⟨?_,?_⟩ <;> omega)))
 | skip)
@[go_sem] def l6MutateC:Con:=.rel fun args H=>match args with
  | [.ptr b 0,.st [.list n_a c_a,.list n_e c_e]]=>match H b with
    | some [.list m cs,.int .i64 p]=>((Is cY m cs) ∧ (m ≤ 2000) ∧ (0 ≤ p) ∧ (p + 210 ≤ 1000000) ∧ (Is cI n_a c_a) ∧ (Is cI n_e c_e) ∧ ((de cI c_a).length ≤ 100 ∧ 1 ≤ (de cI c_e).length ∧ (de cI c_e).length ≤ 100),fun c=>(Uj (Vv (de cI c_a) (de cI c_e) p c).1,upd H b (some [.list m cs,.int .i64 (Vv (de cI c_a) (de cI c_e) p c).2])))
    | _=>(False,fun _=>(.any,H))
  | _=>(False,fun _=>(.any,H))
theorem l6MutateC_ok:ConOk Try.prog 41 l6MutateC:=by
  refine ⟨Qp Try.func41 (by decide) rfl,fun args H h=>?_⟩
  revert h
  dsimp only
  split
  · split
    · rename_i hH
      intro h
      obtain ⟨⟨ys,rfl,rfl⟩,hl,h0_,hp_,⟨a,rfl,rfl⟩,⟨e,rfl,rfl⟩,hS⟩:=h
      try simp only [Qr] at *
      exact SpecR.enc ((l6Mutate_spec ys _ _ a e hl h0_ hp_ hS).frame hH).shut fun c=>Prod.ext (zalm _ _ hS _ _).2.symm rfl
    · intro h;exact h.elim
  · intro h
    exact h.elim
@[go_sem] def Γy33:FuncId → Con:=ext Γy32 41 l6MutateC
theorem zaka:∀ g,ConOk Try.prog g (Γy33 g):=Qo Jq l6MutateC_ok

end
end Go.Proofs.Ytnfldmfamnhpcaa.Vm

