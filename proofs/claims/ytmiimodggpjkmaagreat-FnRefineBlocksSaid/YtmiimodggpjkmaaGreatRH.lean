/-
  Draws of graphs and blocks. No conditions.
-/
import Derived.Test.YtmiimodggpjkmaaGreatRG
namespace Go.Proofs.YtmiimodggpjkmaaGreat.Vm
open Go
open List renaming getD_eq_getElem?_getD → zg,drop_one → zd
noncomputable section
set_option linter.unusedVariables false
set_option linter.unusedSimpArgs false
set_option maxRecDepth 200000

theorem SmallG.copyR {x:List Ints2 × List (List Int)} (h:SmallG x):Vu x.1 x.2:=⟨by have:=h.1;omega,by have:=h.2.1;omega,fun s hs=>by have:=h.2.2.1 s hs;omega,fun l hl=>by have:=h.2.2.2 l hl;omega⟩
theorem drawnR (p:Int) (c:Any):SmallG (Xr p c).1 ∧ 1 ≤ (Xr p c).1.1.length ∧ (Xr p c).1.1.length ≤ (Xr p c).1.2.length ∧ p ≤ (Xr p c).2 ∧ (Xr p c).2 ≤ p + 2100:=by
  have h:=l4Graph_ok p c
  simp only [zabj] at h
  obtain ⟨⟨h1,h2,h3⟩,h4,h5⟩:=h
  exact ⟨h1,h2,by omega,h4,h5⟩
theorem drawnRp {p:Int} (h0:0 ≤ p) (h1:p ≤ 100) (c:Any):0 ≤ (Xr p c).2 ∧ (Xr p c).2 + 4 ≤ 1000000:=by
  obtain ⟨_,_,_,h4,h5⟩:=drawnR p c
  omega
def SmS (a:List Ints2):Prop:=a.length ≤ 100 ∧ LenS 1010 a
theorem SmS.of {ga:List Ints2} {gb:List (List Int)} {x:List Ints2 × List (List Int)} (h:SmallG (ga,gb)) (hm:Mut ga gb x):SmS x.1 :=
  ⟨by have:=h.1;have:=hm.2.1;dsimp only at *;omega,hm.2.2.2.1 1010 (by omega) fun s hs=>h.2.2.1 s hs⟩

@[go_sem] def Uz:(List Ints2 × List (List Int)) × List Int → D:=fun x=>.tup [sG x.1,li cI x.2]
theorem zahf (x:(List Ints2 × List (List Int)) × List Int):dat (Uz x) = Uz x:=by simp [go_sem]
def zaac (xs:List UInt8):(List Ints2 × List (List Int)) × List Int → Prop:=fun x=>SmS x.1.1
def zaba (xs:List UInt8) (x:((List Ints2 × List (List Int)) × List Int) × D):Prop:=zaac xs x.1 ∧ dat x.2 = Uz x.1
def zaam (xs:List UInt8) (c:Any):((List Ints2 × List (List Int)) × List Int) × D:=sel (zaba xs) (((([],[]),[]):(List Ints2 × List (List Int)) × List Int),Uz ((([],[]),[]))) c
def zabx (xs:List UInt8) (c:Any):(List Ints2 × List (List Int)) × List Int:=(zaam xs c).1
theorem zadm (xs:List UInt8)  (c:Any):zaba xs (zaam xs c):=by
  have hx:zaac xs ((([],[]),[])):=⟨by simp,fun _ h=>by cases h⟩
  exact Xz (p:=zaba xs) (x0:=(((([],[]),[]):(List Ints2 × List (List Int)) × List Int),Uz ((([],[]),[])))) ⟨hx,zahf _⟩ c
theorem zajd (xs:List UInt8)  (c:Any):zaac xs (zabx xs c):=(zadm xs  c).1
theorem zaia (xs:List UInt8) {e_:Exit} {S_:St} (x:(List Ints2 × List (List Int)) × List Int) (he_:e_ = .ret ∨ e_ = .normal)
    (h1:(Qf Tryz.prog S_ Tryz.f10.results.toList).1 ∧ dat (resD (Qf Tryz.prog S_ Tryz.f10.results.toList).2.1) = Uz x) (hg:zaac xs x) :
    retR Tryz.prog Tryz.f10 (fun c=>((zaam xs c).2,fun _=>none)) e_ S_ :=
  Xy (good:=zaba xs) (enc:=fun x:((List Ints2 × List (List Int)) × List Int) × D=>x.2) (x,resD (Qf Tryz.prog S_ Tryz.f10.results.toList).2.1) he_ ⟨h1.1,rfl⟩ ⟨hg,h1.2⟩
set_option maxHeartbeats 4000000 in
theorem zahe (xs:List UInt8)  : SpecR Tryz.prog 10 [li cY xs] (fun _=>none) (fun c=>((zaam xs c).2,fun _=>none)):=by
  refine SpecR.of_walk Tryz.func10 rfl (by simp [Tryz.f10]) fun B=>?_
  have hl:=cut_len xs
  all_goals (repeat' (first
 | refine Qt ?_
 | refine Qc (id:=0) zanw [] (by kernel_rfl) ?_;simp [-zg,-zd,↓Qb,↓Qa,go_sem]
 | refine Qc (id:=1) zanw [] (by kernel_rfl) ?_;simp [-zg,-zd,↓Qb,↓Qa,go_sem];try (refine Zn 4 rfl fun b hb=>?_;clear hb)
 | refine Qc (id:=2) zanw [] (by kernel_rfl) ?_;simp [-zg,-zd,↓Qb,↓Qa,go_sem,hl];try ((intro c2);(have z0:=l10Labels_ok 0 c2);(generalize Ve 0 c2 = z at *);(obtain ⟨lb,p1⟩:=z);(simp only [We] at z0);(obtain ⟨z1,z2,z3⟩:=z0);(try dsimp only at z1 z2 z3))
 | ((have u1:=drawnR p1);(have u2:=fun c=>drawnRp z2 (show p1 ≤ 100 by omega) c);(have u3:∀ c,Vu (Xr p1 c).1.1 (Xr p1 c).1.2:=fun c=>(u1 c).1.copyR);(have u4:∀ c,1 ≤ (Xr p1 c).1.1.length:=fun c=>(u1 c).2.1);(have u5:∀ c,(Xr p1 c).1.1.length ≤ (Xr p1 c).1.2.length:=fun c=>(u1 c).2.2.1));refine Qc (id:=3) zanw [] (by kernel_rfl) ?_;simp [-zg,-zd,↓Qb,↓Qa,go_sem,hl,(show 0 ≤ p1 by omega),(show p1 ≤ 1000000 by omega),(show 0 ≤ p1 + 1 by omega),(show p1 + 1 ≤ 1000000 by omega),(show p1 + 2100 ≤ 1000000 by omega),u2,u3,u4,u5];try ((intro c3 c3');(have y0:=u1 c3);(generalize Xr p1 c3 = z at *);(obtain ⟨⟨ga,gb⟩,p2⟩:=z);(obtain ⟨y1,y2,y3,y4,y5⟩:=y0);(try dsimp only at y1 y2 y3 y4 y5);(have x0:=l4Mutate_ok ga gb y1.copyR y2 y3 p2 c3');(generalize Vg ga gb p2 c3' = y at *);(obtain ⟨⟨ma,mb⟩,p3⟩:=y);(simp only [zabo] at x0);(obtain ⟨x1,x2,x3⟩:=x0);(try dsimp only at x2 x3);(have hS:SmS ma:=SmS.of y1 x1);(have hma:ma.length ≤ 1000:=(by have:=hS.1;omega));(refine Xe 6 ?_);(simp [go_sem]))
 | refine Zu (id:=4) zanw mixed [] [] [6] (by kernel_rfl) (by kernel_rfl) (by simp [-zg,-zd,↓Qb,↓Qa,go_sem,hl,(show 0 ≤ p3 by omega),(show p3 ≤ 1000000 by omega),(show 0 ≤ p3 + 1 by omega),(show p3 + 1 ≤ 1000000 by omega),(show p3 + 1010 ≤ 1000000 by omega),hma]) (by simp [-zg,-zd,↓Qb,↓Qa,go_sem,hl,(show 0 ≤ p3 by omega),(show p3 ≤ 1000000 by omega),(show 0 ≤ p3 + 1 by omega),(show p3 + 1 ≤ 1000000 by omega),(show p3 + 1010 ≤ 1000000 by omega),hma]) ?_;simp [-zg,-zd,↓Qb,↓Qa,go_sem,hl,(show 0 ≤ p3 by omega),(show p3 ≤ 1000000 by omega),(show 0 ≤ p3 + 1 by omega),(show p3 + 1 ≤ 1000000 by omega),(show p3 + 1010 ≤ 1000000 by omega),hma];try ((intro c4);(generalize zaav ma mb lb p3 c4 = x at *);(obtain ⟨bk,p4⟩:=x))
 | (refine Qg ?_)
 | (refine Qs ?_;simp [-zg,-zd,↓Qb,↓Qa,go_sem])
 | (refine Qr ?_;simp [-zg,-zd,↓Qb,↓Qa,go_sem])
 | (refine Qq ?_;try simp [-zg,-zd,↓Qb,↓Qa,go_sem,Tryz.results10])
 | (intro hx;refine zA ?_)
 | (intro hx;change retR _ _ _ _ _)
 | (refine ⟨?_,?_⟩ <;> refine zA ?_)
 | (intro hx;constructor <;> intro hs)
 | (constructor <;> intro hs)
 | (refine ⟨?_,fun hs=>?_⟩;refine zA ?_)
 | (refine ⟨fun hs=>?_,?_⟩;rotate_left;refine zA ?_;rotate_left)))
  all_goals (first
 | (refine zaia _ (((ma,mb),bk)) ?_ ?_ ?_;(first | exact Or.inl rfl | exact Or.inr rfl);(focus (simp [-zg,-zd,↓Qb,↓Qa,go_sem,Tryz.results10,dat,Xh,li,Zr];done));(focus ((exact hS);done)))
 | skip)
@[go_sem] def zadh:Con:=.rel fun args H=>match args with
  | [.list n_xs c_xs]=>((Is cY n_xs c_xs),fun c=>(Uz (zabx (de cY c_xs) c),H))
  | _=>(False,fun _=>(.any,H))
theorem zaib:ConOk Tryz.prog 10 zadh:=by
  refine ⟨Qo Tryz.func10 (by decide) rfl,fun args H h=>?_⟩
  revert h
  dsimp only
  split
  · intro h
    obtain ⟨xs,rfl,rfl⟩:=h
    try simp only [Qm] at *
    exact SpecR.enc ((SpecR.frame0 (zahe xs ) (H:=H)).shut) fun c=>Prod.ext (zadm _  c).2.symm rfl
  · intro h
    exact h.elim
@[go_sem] def Γl8:FuncId → Con:=ext Γl7 10 zadh
theorem Γl8_ok:∀ g,ConOk Tryz.prog g (Γl8 g):=Qn zanw zaib

@[go_sem] def Γl9:FuncId → Con:=Γl8
theorem Γl9_ok:∀ g,ConOk Tryz.prog g (Γl9 g):=Γl8_ok

end
end Go.Proofs.YtmiimodggpjkmaaGreat.Vm

