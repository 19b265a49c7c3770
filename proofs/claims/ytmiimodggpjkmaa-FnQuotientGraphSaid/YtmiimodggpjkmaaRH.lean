/-
  Draws of graphs and blocks. No conditions.
-/
import Derived.Test.YtmiimodggpjkmaaRG
namespace Go.Proofs.Ytmiimodggpjkmaa.Vm
open Go
open List renaming getD_eq_getElem?_getD → zg,drop_one → zd
noncomputable section
set_option linter.unusedVariables false
set_option linter.unusedSimpArgs false
set_option maxRecDepth 200000

theorem SmallG.copyR {x:List Ints2 × List (List Int)} (h:SmallG x):Vx x.1 x.2:=⟨by have:=h.1;omega,by have:=h.2.1;omega,fun s hs=>by have:=h.2.2.1 s hs;omega,fun l hl=>by have:=h.2.2.2 l hl;omega⟩
theorem drawnR (p:Int) (c:Any):SmallG (Xr p c).1 ∧ 1 ≤ (Xr p c).1.1.length ∧ (Xr p c).1.1.length ≤ (Xr p c).1.2.length ∧ p ≤ (Xr p c).2 ∧ (Xr p c).2 ≤ p + 2100:=by
  have h:=l4Graph_ok p c
  simp only [zabk] at h
  obtain ⟨⟨h1,h2,h3⟩,h4,h5⟩:=h
  exact ⟨h1,h2,by omega,h4,h5⟩
theorem drawnRp {p:Int} (h0:0 ≤ p) (h1:p ≤ 100) (c:Any):0 ≤ (Xr p c).2 ∧ (Xr p c).2 + 4 ≤ 1000000:=by
  obtain ⟨_,_,_,h4,h5⟩:=drawnR p c
  omega
def SmS (a:List Ints2):Prop:=a.length ≤ 100 ∧ LenS 1010 a
theorem SmS.of {ga:List Ints2} {gb:List (List Int)} {x:List Ints2 × List (List Int)} (h:SmallG (ga,gb)) (hm:Mut ga gb x):SmS x.1 :=
  ⟨by have:=h.1;have:=hm.2.1;dsimp only at *;omega,hm.2.2.2.1 1010 (by omega) fun s hs=>h.2.2.1 s hs⟩

@[go_sem] def Wf:(List Ints2 × List (List Int)) × List Int → D:=fun x=>.tup [sG x.1,li cI x.2]
theorem zahq (x:(List Ints2 × List (List Int)) × List Int):dat (Wf x) = Wf x:=by simp [go_sem]
def zaad (xs:List UInt8):(List Ints2 × List (List Int)) × List Int → Prop:=fun x=>SmS x.1.1
def zaaz (xs:List UInt8) (x:((List Ints2 × List (List Int)) × List Int) × D):Prop:=zaad xs x.1 ∧ dat x.2 = Wf x.1
def zaam (xs:List UInt8) (c:Any):((List Ints2 × List (List Int)) × List Int) × D:=sel (zaaz xs) (((([],[]),[]):(List Ints2 × List (List Int)) × List Int),Wf ((([],[]),[]))) c
def zaby (xs:List UInt8) (c:Any):(List Ints2 × List (List Int)) × List Int:=(zaam xs c).1
theorem zadp (xs:List UInt8)  (c:Any):zaaz xs (zaam xs c):=by
  have hx:zaad xs ((([],[]),[])):=⟨by simp,fun _ h=>by cases h⟩
  exact Zd (p:=zaaz xs) (x0:=(((([],[]),[]):(List Ints2 × List (List Int)) × List Int),Wf ((([],[]),[])))) ⟨hx,zahq _⟩ c
theorem zajy (xs:List UInt8)  (c:Any):zaad xs (zaby xs c):=(zadp xs  c).1
theorem zaio (xs:List UInt8) {e_:Exit} {S_:St} (x:(List Ints2 × List (List Int)) × List Int) (he_:e_ = .ret ∨ e_ = .normal)
    (h1:(Qf Try.prog S_ Try.f34.results.toList).1 ∧ dat (resD (Qf Try.prog S_ Try.f34.results.toList).2.1) = Wf x) (hg:zaad xs x) :
    retR Try.prog Try.f34 (fun c=>((zaam xs c).2,fun _=>none)) e_ S_ :=
  Zc (good:=zaaz xs) (enc:=fun x:((List Ints2 × List (List Int)) × List Int) × D=>x.2) (x,resD (Qf Try.prog S_ Try.f34.results.toList).2.1) he_ ⟨h1.1,rfl⟩ ⟨hg,h1.2⟩
set_option maxHeartbeats 4000000 in
theorem zahp (xs:List UInt8)  : SpecR Try.prog 34 [li cY xs] (fun _=>none) (fun c=>((zaam xs c).2,fun _=>none)):=by
  refine SpecR.of_walk Try.func34 rfl (by simp [Try.f34]) fun B=>?_
  have hl:=cut_len xs
  all_goals (repeat' (first
 | refine Qs ?_
 | refine Qc (id:=0) zaoy [] (by kernel_rfl) ?_;simp [-zg,-zd,↓Qb,↓Qa,go_sem]
 | refine Qc (id:=1) zaoy [] (by kernel_rfl) ?_;simp [-zg,-zd,↓Qb,↓Qa,go_sem];try (refine Zf 4 rfl fun b hb=>?_;clear hb)
 | refine Qc (id:=2) zaoy [] (by kernel_rfl) ?_;simp [-zg,-zd,↓Qb,↓Qa,go_sem,hl];try ((intro c2);(have z0:=l10Labels_ok 0 c2);(generalize Vj 0 c2 = z at *);(obtain ⟨lb,p1⟩:=z);(simp only [Wk] at z0);(obtain ⟨z1,z2,z3⟩:=z0);(try dsimp only at z1 z2 z3))
 | ((have u1:=drawnR p1);(have u2:=fun c=>drawnRp z2 (show p1 ≤ 100 by omega) c);(have u3:∀ c,Vx (Xr p1 c).1.1 (Xr p1 c).1.2:=fun c=>(u1 c).1.copyR);(have u4:∀ c,1 ≤ (Xr p1 c).1.1.length:=fun c=>(u1 c).2.1);(have u5:∀ c,(Xr p1 c).1.1.length ≤ (Xr p1 c).1.2.length:=fun c=>(u1 c).2.2.1));refine Qc (id:=3) zaoy [] (by kernel_rfl) ?_;simp [-zg,-zd,↓Qb,↓Qa,go_sem,hl,(show 0 ≤ p1 by omega),(show p1 ≤ 1000000 by omega),(show 0 ≤ p1 + 1 by omega),(show p1 + 1 ≤ 1000000 by omega),(show p1 + 2100 ≤ 1000000 by omega),u2,u3,u4,u5];try ((intro c3 c3');(have y0:=u1 c3);(generalize Xr p1 c3 = z at *);(obtain ⟨⟨ga,gb⟩,p2⟩:=z);(obtain ⟨y1,y2,y3,y4,y5⟩:=y0);(try dsimp only at y1 y2 y3 y4 y5);(have x0:=l4Mutate_ok ga gb y1.copyR y2 y3 p2 c3');(generalize Vl ga gb p2 c3' = y at *);(obtain ⟨⟨ma,mb⟩,p3⟩:=y);(simp only [zabo] at x0);(obtain ⟨x1,x2,x3⟩:=x0);(try dsimp only at x2 x3);(have hS:SmS ma:=SmS.of y1 x1);(have hma:ma.length ≤ 1000:=(by have:=hS.1;omega));(refine Xe 6 ?_);(simp [go_sem]))
 | refine Zt (id:=4) zaoy mixed [] [] [6] (by kernel_rfl) (by kernel_rfl) (by simp [-zg,-zd,↓Qb,↓Qa,go_sem,hl,(show 0 ≤ p3 by omega),(show p3 ≤ 1000000 by omega),(show 0 ≤ p3 + 1 by omega),(show p3 + 1 ≤ 1000000 by omega),(show p3 + 1010 ≤ 1000000 by omega),hma]) (by simp [-zg,-zd,↓Qb,↓Qa,go_sem,hl,(show 0 ≤ p3 by omega),(show p3 ≤ 1000000 by omega),(show 0 ≤ p3 + 1 by omega),(show p3 + 1 ≤ 1000000 by omega),(show p3 + 1010 ≤ 1000000 by omega),hma]) ?_;simp [-zg,-zd,↓Qb,↓Qa,go_sem,hl,(show 0 ≤ p3 by omega),(show p3 ≤ 1000000 by omega),(show 0 ≤ p3 + 1 by omega),(show p3 + 1 ≤ 1000000 by omega),(show p3 + 1010 ≤ 1000000 by omega),hma];try ((intro c4);(generalize zaau ma mb lb p3 c4 = x at *);(obtain ⟨bk,p4⟩:=x))
 | (refine Qe ?_)
 | (refine Qr ?_;simp [-zg,-zd,↓Qb,↓Qa,go_sem])
 | (refine Qq ?_;simp [-zg,-zd,↓Qb,↓Qa,go_sem])
 | (refine Qp ?_;try simp [-zg,-zd,↓Qb,↓Qa,go_sem,Try.results34])
 | (intro hx;refine zA ?_)
 | (intro hx;change retR _ _ _ _ _)
 | (refine ⟨?_,?_⟩ <;> refine zA ?_)
 | (intro hx;constructor <;> intro hs)
 | (constructor <;> intro hs)
 | (refine ⟨?_,fun hs=>?_⟩;refine zA ?_)
 | (refine ⟨fun hs=>?_,?_⟩;rotate_left;refine zA ?_;rotate_left)))
  all_goals (first
 | (refine zaio _ (((ma,mb),bk)) ?_ ?_ ?_;(first | exact Or.inl rfl | exact Or.inr rfl);(focus (simp [-zg,-zd,↓Qb,↓Qa,go_sem,Try.results34,dat,Xk,li,Zy];done));(focus ((exact hS);done)))
 | skip)
@[go_sem] def zadk:Con:=.rel fun args H=>match args with
  | [.list n_xs c_xs]=>((Is cY n_xs c_xs),fun c=>(Wf (zaby (de cY c_xs) c),H))
  | _=>(False,fun _=>(.any,H))
theorem zaip:ConOk Try.prog 34 zadk:=by
  refine ⟨Qn Try.func34 (by decide) rfl,fun args H h=>?_⟩
  revert h
  dsimp only
  split
  · intro h
    obtain ⟨xs,rfl,rfl⟩:=h
    try simp only [Qo] at *
    exact SpecR.enc ((SpecR.frame0 (zahp xs ) (H:=H)).shut) fun c=>Prod.ext (zadp _  c).2.symm rfl
  · intro h
    exact h.elim
@[go_sem] def Γl8:FuncId → Con:=ext Γl7 34 zadk
theorem Γl8_ok:∀ g,ConOk Try.prog g (Γl8 g):=Qm zaoy zaip

@[go_sem] def We:(List Ints2 × List (List Int)) × List Int → D:=fun x=>.tup [sG x.1,li cI x.2]
theorem zaft (x:(List Ints2 × List (List Int)) × List Int):dat (We x) = We x:=by simp [go_sem]
def zaaa (xs:List UInt8):(List Ints2 × List (List Int)) × List Int → Prop:=fun x=>SmS x.1.1
def zaal (xs:List UInt8) (x:((List Ints2 × List (List Int)) × List Int) × D):Prop:=zaaa xs x.1 ∧ dat x.2 = We x.1
def zaae (xs:List UInt8) (c:Any):((List Ints2 × List (List Int)) × List Int) × D:=sel (zaal xs) (((([],[]),[]):(List Ints2 × List (List Int)) × List Int),We ((([],[]),[]))) c
def zabc (xs:List UInt8) (c:Any):(List Ints2 × List (List Int)) × List Int:=(zaae xs c).1
theorem zacw (xs:List UInt8)  (c:Any):zaal xs (zaae xs c):=by
  have hx:zaaa xs ((([],[]),[])):=⟨by simp,fun _ h=>by cases h⟩
  exact Zd (p:=zaal xs) (x0:=(((([],[]),[]):(List Ints2 × List (List Int)) × List Int),We ((([],[]),[])))) ⟨hx,zaft _⟩ c
theorem zaho (xs:List UInt8)  (c:Any):zaaa xs (zabc xs c):=(zacw xs  c).1
theorem zagj (xs:List UInt8) {e_:Exit} {S_:St} (x:(List Ints2 × List (List Int)) × List Int) (he_:e_ = .ret ∨ e_ = .normal)
    (h1:(Qf Try.prog S_ Try.f7.results.toList).1 ∧ dat (resD (Qf Try.prog S_ Try.f7.results.toList).2.1) = We x) (hg:zaaa xs x) :
    retR Try.prog Try.f7 (fun c=>((zaae xs c).2,fun _=>none)) e_ S_ :=
  Zc (good:=zaal xs) (enc:=fun x:((List Ints2 × List (List Int)) × List Int) × D=>x.2) (x,resD (Qf Try.prog S_ Try.f7.results.toList).2.1) he_ ⟨h1.1,rfl⟩ ⟨hg,h1.2⟩
set_option maxHeartbeats 4000000 in
theorem zafs (xs:List UInt8)  : SpecR Try.prog 7 [li cY xs] (fun _=>none) (fun c=>((zaae xs c).2,fun _=>none)):=by
  refine SpecR.of_walk Try.func7 rfl (by simp [Try.f7]) fun B=>?_
  (repeat' (first
 | refine Qs ?_
 | refine Qc (id:=0) Γl8_ok [] (by kernel_rfl) ?_;simp [-zg,-zd,↓Qb,↓Qa,go_sem]
 | refine Qc (id:=1) Γl8_ok [] (by kernel_rfl) ?_;simp [-zg,-zd,↓Qb,↓Qa,go_sem];try ((intro c1);(have z0:=zajy xs c1);(generalize zaby xs c1 = y at *);(obtain ⟨⟨ma,mb⟩,bk⟩:=y);(simp only [zaad] at z0))
 | (refine Qe ?_)
 | (refine Qr ?_;simp [-zg,-zd,↓Qb,↓Qa,go_sem])
 | (refine Qq ?_;simp [-zg,-zd,↓Qb,↓Qa,go_sem])
 | (refine Qp ?_;try simp [-zg,-zd,↓Qb,↓Qa,go_sem,Try.results7])
 | (intro hx;refine zA ?_)
 | (intro hx;change retR _ _ _ _ _)
 | (refine ⟨?_,?_⟩ <;> refine zA ?_)
 | (intro hx;constructor <;> intro hs)
 | (constructor <;> intro hs)
 | (refine ⟨?_,fun hs=>?_⟩;refine zA ?_)
 | (refine ⟨fun hs=>?_,?_⟩;rotate_left;refine zA ?_;rotate_left)))
  all_goals (first
 | (refine zagj _ (((ma,mb),bk)) ?_ ?_ ?_;(first | exact Or.inl rfl | exact Or.inr rfl);(focus (simp [-zg,-zd,↓Qb,↓Qa,go_sem,Try.results7,dat,Xk,li,Zy];done));(focus ((exact z0);done)))
 | skip)
@[go_sem] def zaci:Con:=.rel fun args H=>match args with
  | [.list n_xs c_xs]=>((Is cY n_xs c_xs),fun c=>(We (zabc (de cY c_xs) c),H))
  | _=>(False,fun _=>(.any,H))
theorem zagk:ConOk Try.prog 7 zaci:=by
  refine ⟨Qn Try.func7 (by decide) rfl,fun args H h=>?_⟩
  revert h
  dsimp only
  split
  · intro h
    obtain ⟨xs,rfl,rfl⟩:=h
    try simp only [Qo] at *
    exact SpecR.enc ((SpecR.frame0 (zafs xs ) (H:=H)).shut) fun c=>Prod.ext (zacw _  c).2.symm rfl
  · intro h
    exact h.elim
@[go_sem] def Γl9:FuncId → Con:=ext Γl8 7 zaci
theorem Γl9_ok:∀ g,ConOk Try.prog g (Γl9 g):=Qm Γl8_ok zagk

end
end Go.Proofs.Ytmiimodggpjkmaa.Vm

