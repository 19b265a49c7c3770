/-
  Draws: arguments of Accepts, of UniteAutomata. No conditions.
-/
import Derived.Test.YtnfldmfamnhpcaaY10
namespace Go.Proofs.Ytnfldmfamnhpcaa.Vm
open Go
open List renaming getD_eq_getElem?_getD → zg,drop_one → zd
noncomputable section
set_option linter.unusedVariables false
set_option linter.unusedSimpArgs false
set_option maxRecDepth 200000

@[go_sem] def Wb:Au × Ints2 → D:=fun x=>.tup [sA x.1,sPz x.2]
theorem zamt (x:Au × Ints2):dat (Wb x) = Wb x:=by simp [go_sem]
def zabf (xs:List UInt8):Au × Ints2 → Prop:=fun x=>AuM x.1 ∧ x.2.1.length ≤ 300 ∧ x.2.2.length ≤ 300
def zace (xs:List UInt8) (x:(Au × Ints2) × D):Prop:=zabf xs x.1 ∧ dat x.2 = Wb x.1
def zabe (xs:List UInt8) (c:Any):(Au × Ints2) × D:=sel (zace xs) (((([],[],[]),([],[])):Au × Ints2),Wb ((([],[],[]),([],[])))) c
def zabs (xs:List UInt8) (c:Any):Au × Ints2:=(zabe xs c).1
theorem zafq (xs:List UInt8)  (c:Any):zace xs (zabe xs c):=by
  have hx:zabf xs ((([],[],[]),([],[]))):=⟨AuM.nil,by simp,by simp⟩
  exact Jh (p:=zace xs) (x0:=(((([],[],[]),([],[])):Au × Ints2),Wb ((([],[],[]),([],[]))))) ⟨hx,zamt _⟩ c
theorem DrawAccepts_ok (xs:List UInt8)  (c:Any):zabf xs (zabs xs c):=(zafq xs  c).1
theorem zanq (xs:List UInt8) {e_:Exit} {S_:St} (x:Au × Ints2) (he_:e_ = .ret ∨ e_ = .normal)
    (h1:(Ql Try.prog S_ Try.f13.results.toList).1 ∧ dat (resD (Ql Try.prog S_ Try.f13.results.toList).2.1) = Wb x) (hg:zabf xs x) :
    retR Try.prog Try.f13 (fun c=>((zabe xs c).2,fun _=>none)) e_ S_ :=
  Jd (good:=zace xs) (enc:=fun x:(Au × Ints2) × D=>x.2) (x,resD (Ql Try.prog S_ Try.f13.results.toList).2.1) he_ ⟨h1.1,rfl⟩ ⟨hg,h1.2⟩
set_option maxHeartbeats 8000000 in
theorem zams (xs:List UInt8)  : SpecR Try.prog 13 [li cY xs] (fun _=>none) (fun c=>((zabe xs c).2,fun _=>none)):=by
  refine SpecR.of_walk Try.func13 rfl (by simp [Try.f13]) fun B=>?_
  have hl:=cut_len xs
  all_goals (repeat' (first
 | refine Qu ?_
 | refine Qc (id:=0) zaka [] (by kernel_rfl) ?_;simp [-zg,-zd,↓Qb,↓Qa,go_sem]
 | refine Qc (id:=1) zaka [] (by kernel_rfl) ?_;simp [-zg,-zd,↓Qb,↓Qa,go_sem];try (refine Xu 4 rfl fun b hb=>?_;clear hb)
 | ((have u2:∀ c,AuS (Xk 0 c).1 ∧ 0 ≤ (Xk 0 c).2 ∧ (Xk 0 c).2 ≤ 300:=(fun c=>by have h:=zadu 0 c;exact ⟨h.1,by omega,by omega⟩));(have u3:∀ c,AuS ((Xk 0 c).1.1,(Xk 0 c).1.2.1,(Xk 0 c).1.2.2) ∧ 0 ≤ (Xk 0 c).2 ∧ (Xk 0 c).2 + 3 ≤ 1000000:=(fun c=>⟨(u2 c).1,(u2 c).2.1,by have:=(u2 c).2.2;omega⟩)));refine Qc (id:=2) zaka [] (by kernel_rfl) ?_;simp [-zg,-zd,↓Qb,↓Qa,go_sem,hl,u3];try ((intro c2 c2');(have h2:=u2 c2);(generalize (Xk 0 c2) = z at *);(obtain ⟨⟨za,zb,zc⟩,pz⟩:=z);(obtain ⟨h2,h2a,h2b⟩:=h2);(dsimp only at h2 h2a h2b ⊢);(have h3:=zahz za zb zc h2 pz c2');(generalize Vc za zb zc pz c2' = w at *);(obtain ⟨⟨wa,wb,wc⟩,pw⟩:=w);(have h4:AuM (wa,wb,wc):=h3.1);(have h5:=h3.2);(dsimp only at h5 ⊢);(clear h3 u2 u3);(refine Xv 5 ?_);(simp [go_sem,dat,Xd]))
 | ((have u5:∀ c,((Zm pw c).1.1.length ≤ 5 ∧ 1 ≤ (Zm pw c).1.2.length ∧ (Zm pw c).1.2.length ≤ 8) ∧ pw ≤ (Zm pw c).2 ∧ (Zm pw c).2 ≤ pw + 210:=(fun c=>l6Lasso_ok pw c));(have u6:∀ c,(Zm pw c).1.1.length ≤ 100 ∧ 1 ≤ (Zm pw c).1.2.length ∧ (Zm pw c).1.2.length ≤ 100 ∧ 0 ≤ (Zm pw c).2 ∧ (Zm pw c).2 + 210 ≤ 1000000:=(fun c=>by have h:=u5 c;omega)));refine Xq (id:=3) zaka mixed [] [] [4] (by kernel_rfl) (by kernel_rfl) (by simp [-zg,-zd,↓Qb,↓Qa,go_sem,hl,(show 0 ≤ pw by omega),(show pw + 210 ≤ 1000000 by omega),u6]) (by simp [-zg,-zd,↓Qb,↓Qa,go_sem,hl,(show 0 ≤ pw by omega),(show pw + 210 ≤ 1000000 by omega),u6]) ?_;simp [-zg,-zd,↓Qb,↓Qa,go_sem,hl,(show 0 ≤ pw by omega),(show pw + 210 ≤ 1000000 by omega),u6];try ((intro c3 c3');(have h6:=u6 c3);(generalize (Zm pw c3) = v at *);(obtain ⟨⟨va,vb⟩,pv⟩:=v);(dsimp only at h6 ⊢);(have h7:=l6Mutate_ok va vb ⟨by omega,by omega,by omega⟩ pv c3');(generalize Vv va vb pv c3' = v2 at *);(obtain ⟨⟨vc,vd⟩,pv2⟩:=v2);(have h8:vc.length ≤ 300 ∧ vd.length ≤ 300:=h7.1))
 | (refine Qe ?_)
 | (refine Qt ?_;simp [-zg,-zd,↓Qb,↓Qa,go_sem])
 | (refine Qs ?_;simp [-zg,-zd,↓Qb,↓Qa,go_sem])
 | (refine Qv ?_;try simp [-zg,-zd,↓Qb,↓Qa,go_sem,Try.results13])
 | (intro hx;refine zA ?_)
 | (intro hx;change retR _ _ _ _ _)
 | (refine ⟨?_,?_⟩ <;> refine zA ?_)
 | (intro hx;constructor <;> intro hs)
 | (constructor <;> intro hs)
 | (refine ⟨?_,fun hs=>?_⟩;refine zA ?_)
 | (refine ⟨fun hs=>?_,?_⟩;rotate_left;refine zA ?_;rotate_left)))
  all_goals (first
 | (refine zanq _ (((wa,wb,wc),(vc,vd))) ?_ ?_ ?_;(first | exact Or.inl rfl | exact Or.inr rfl);(focus (simp [-zg,-zd,↓Qb,↓Qa,go_sem,Try.results13,dat,Xd,li];done));(focus ((exact ⟨h4,h8.1,h8.2⟩);done)))
 | skip)
@[go_sem] def zaee:Con:=.rel fun args H=>match args with
  | [.list n_xs c_xs]=>((Is cY n_xs c_xs),fun c=>(Wb (zabs (de cY c_xs) c),H))
  | _=>(False,fun _=>(.any,H))
theorem zafr:ConOk Try.prog 13 zaee:=by
  refine ⟨Qp Try.func13 (by decide) rfl,fun args H h=>?_⟩
  revert h
  dsimp only
  split
  · intro h
    obtain ⟨xs,rfl,rfl⟩:=h
    try simp only [Qr] at *
    exact SpecR.enc ((SpecR.frame0 (zams xs ) (H:=H)).shut) fun c=>Prod.ext (zafq _  c).2.symm rfl
  · intro h
    exact h.elim
@[go_sem] def Γy34:FuncId → Con:=ext Γy33 13 zaee
theorem Γy34_ok:∀ g,ConOk Try.prog g (Γy34 g):=Qo zaka zafr

@[go_sem] def Ux:Au × Au → D:=fun x=>.tup [sA x.1,sA x.2]
theorem zade (x:Au × Au):dat (Ux x) = Ux x:=by simp [go_sem]
def zaac (xs:List UInt8):Au × Au → Prop:=fun x=>AuM x.1 ∧ AuM x.2
def zaae (xs:List UInt8) (x:(Au × Au) × D):Prop:=zaac xs x.1 ∧ dat x.2 = Ux x.1
def zaab (xs:List UInt8) (c:Any):(Au × Au) × D:=sel (zaae xs) (((([],[],[]),([],[],[])):Au × Au),Ux ((([],[],[]),([],[],[])))) c
def zaaa (xs:List UInt8) (c:Any):Au × Au:=(zaab xs c).1
theorem zaaz (xs:List UInt8)  (c:Any):zaae xs (zaab xs c):=by
  have hx:zaac xs ((([],[],[]),([],[],[]))):=⟨AuM.nil,AuM.nil⟩
  exact Jh (p:=zaae xs) (x0:=(((([],[],[]),([],[],[])):Au × Au),Ux ((([],[],[]),([],[],[]))))) ⟨hx,zade _⟩ c
theorem zaed (xs:List UInt8)  (c:Any):zaac xs (zaaa xs c):=(zaaz xs  c).1
theorem zadm (xs:List UInt8) {e_:Exit} {S_:St} (x:Au × Au) (he_:e_ = .ret ∨ e_ = .normal)
    (h1:(Ql Try.prog S_ Try.f12.results.toList).1 ∧ dat (resD (Ql Try.prog S_ Try.f12.results.toList).2.1) = Ux x) (hg:zaac xs x) :
    retR Try.prog Try.f12 (fun c=>((zaab xs c).2,fun _=>none)) e_ S_ :=
  Jd (good:=zaae xs) (enc:=fun x:(Au × Au) × D=>x.2) (x,resD (Ql Try.prog S_ Try.f12.results.toList).2.1) he_ ⟨h1.1,rfl⟩ ⟨hg,h1.2⟩
set_option maxHeartbeats 8000000 in
theorem zadd (xs:List UInt8)  : SpecR Try.prog 12 [li cY xs] (fun _=>none) (fun c=>((zaab xs c).2,fun _=>none)):=by
  refine SpecR.of_walk Try.func12 rfl (by simp [Try.f12]) fun B=>?_
  have hl:=cut_len xs
  all_goals (repeat' (first
 | refine Qu ?_
 | refine Qc (id:=0) Γy34_ok [] (by kernel_rfl) ?_;simp [-zg,-zd,↓Qb,↓Qa,go_sem]
 | refine Qc (id:=1) Γy34_ok [] (by kernel_rfl) ?_;simp [-zg,-zd,↓Qb,↓Qa,go_sem];try (refine Xu 4 rfl fun b hb=>?_;clear hb)
 | ((have u2:∀ c,AuS (Xk 0 c).1 ∧ 0 ≤ (Xk 0 c).2 ∧ (Xk 0 c).2 ≤ 300:=(fun c=>by have h:=zadu 0 c;exact ⟨h.1,by omega,by omega⟩));(have u3:∀ c,AuS ((Xk 0 c).1.1,(Xk 0 c).1.2.1,(Xk 0 c).1.2.2) ∧ 0 ≤ (Xk 0 c).2 ∧ (Xk 0 c).2 + 3 ≤ 1000000:=(fun c=>⟨(u2 c).1,(u2 c).2.1,by have:=(u2 c).2.2;omega⟩)));refine Qc (id:=2) Γy34_ok [] (by kernel_rfl) ?_;simp [-zg,-zd,↓Qb,↓Qa,go_sem,hl,u3];try ((intro c2 c2');(have h2:=u2 c2);(generalize (Xk 0 c2) = z at *);(obtain ⟨⟨za,zb,zc⟩,pz⟩:=z);(obtain ⟨h2,h2a,h2b⟩:=h2);(dsimp only at h2 h2a h2b ⊢);(have h3:=zahz za zb zc h2 pz c2');(generalize Vc za zb zc pz c2' = w at *);(obtain ⟨⟨wa,wb,wc⟩,pw⟩:=w);(have h4:AuM (wa,wb,wc):=h3.1);(have h5:=h3.2);(dsimp only at h5 ⊢);(clear h3 u2 u3);(refine Xv 5 ?_);(simp [go_sem,dat,Xd]))
 | ((have u2:∀ c,AuS (Xk pw c).1 ∧ 0 ≤ (Xk pw c).2 ∧ (Xk pw c).2 ≤ 700:=(fun c=>by have h:=zadu pw c;exact ⟨h.1,by omega,by omega⟩));(have u3:∀ c,AuS ((Xk pw c).1.1,(Xk pw c).1.2.1,(Xk pw c).1.2.2) ∧ 0 ≤ (Xk pw c).2 ∧ (Xk pw c).2 + 3 ≤ 1000000:=(fun c=>⟨(u2 c).1,(u2 c).2.1,by have:=(u2 c).2.2;omega⟩)));refine Xq (id:=3) Γy34_ok mixed [] [] [4] (by kernel_rfl) (by kernel_rfl) (by simp [-zg,-zd,↓Qb,↓Qa,go_sem,hl,(show 0 ≤ pw by omega),(show pw + 300 ≤ 1000000 by omega),u3]) (by simp [-zg,-zd,↓Qb,↓Qa,go_sem,hl,(show 0 ≤ pw by omega),(show pw + 300 ≤ 1000000 by omega),u3]) ?_;simp [-zg,-zd,↓Qb,↓Qa,go_sem,hl,(show 0 ≤ pw by omega),(show pw + 300 ≤ 1000000 by omega),u3];try ((intro c3 c3');(have h6:=(u2 c3).1);(generalize (Xk pw c3) = v at *);(obtain ⟨⟨va,vb,vc⟩,pv⟩:=v);(dsimp only at h6 ⊢);(have h7:=zahz va vb vc h6 pv c3');(generalize Vc va vb vc pv c3' = v2 at *);(obtain ⟨⟨xa,xb,xc⟩,pv2⟩:=v2);(have h8:AuM (xa,xb,xc):=h7.1))
 | (refine Qe ?_)
 | (refine Qt ?_;simp [-zg,-zd,↓Qb,↓Qa,go_sem])
 | (refine Qs ?_;simp [-zg,-zd,↓Qb,↓Qa,go_sem])
 | (refine Qv ?_;try simp [-zg,-zd,↓Qb,↓Qa,go_sem,Try.results12])
 | (intro hx;refine zA ?_)
 | (intro hx;change retR _ _ _ _ _)
 | (refine ⟨?_,?_⟩ <;> refine zA ?_)
 | (intro hx;constructor <;> intro hs)
 | (constructor <;> intro hs)
 | (refine ⟨?_,fun hs=>?_⟩;refine zA ?_)
 | (refine ⟨fun hs=>?_,?_⟩;rotate_left;refine zA ?_;rotate_left)))
  all_goals (first
 | (refine zadm _ (((wa,wb,wc),(xa,xb,xc))) ?_ ?_ ?_;(first | exact Or.inl rfl | exact Or.inr rfl);(focus (simp [-zg,-zd,↓Qb,↓Qa,go_sem,Try.results12,dat,Xd,li];done));(focus ((exact ⟨h4,h8⟩);done)))
 | skip)
@[go_sem] def zaaq:Con:=.rel fun args H=>match args with
  | [.list n_xs c_xs]=>((Is cY n_xs c_xs),fun c=>(Ux (zaaa (de cY c_xs) c),H))
  | _=>(False,fun _=>(.any,H))
theorem zadn:ConOk Try.prog 12 zaaq:=by
  refine ⟨Qp Try.func12 (by decide) rfl,fun args H h=>?_⟩
  revert h
  dsimp only
  split
  · intro h
    obtain ⟨xs,rfl,rfl⟩:=h
    try simp only [Qr] at *
    exact SpecR.enc ((SpecR.frame0 (zadd xs ) (H:=H)).shut) fun c=>Prod.ext (zaaz _  c).2.symm rfl
  · intro h
    exact h.elim
end
end Go.Proofs.Ytnfldmfamnhpcaa.Vm

