import Derived.Test.YtkjimmkemnmajaaY5
/-
  Formulas translated to automata. No conditions.
-/
namespace Go.Proofs.Ytkjimmkemnmajaa.Vm
open Go
open List renaming getD_eq_getElem?_getD → zg,drop_one → zd,replicate → zrP
open Ne renaming symm → zS
noncomputable section
set_option linter.unusedVariables false
set_option linter.unusedSimpArgs false
set_option maxRecDepth 200000

section
variable {P:Program} {B:Base} {n:Nat} {S:St} {c:Code} {Q:Exit → St → Prop}
theorem AW_boxNils3 (t:Nat) (hT:S.T t = .box [.nil,.nil,.nil]) (h:AW P B n c Q ⟨upd S.T t (.box [.fr 1 0 [],.fr 1 0 [],.fr 4 0 []]),S.H⟩):AW P B n c Q S :=
  AW_rebox t hT (fun μ I w vs f hr=>by
    simp only [RepL] at hr ⊢
    obtain ⟨v,vs',f1,f2,e1,e2,r1,v2,vs2,g1,g2,e3,e4,r2,v3,vs3,g3,g4,e5,e6,r3,r4⟩:=hr
    exact ⟨v,vs',f1,f2,e1,e2,zadj r1,v2,vs2,g1,g2,e3,e4,zadj r2,v3,vs3,g3,g4,e5,e6,zadj r3,r4⟩) (fun N hb=>by simp only [bndL,bnd];exact ⟨trivial,trivial,trivial,trivial⟩) h
theorem AW_matL (t:Nat) {ls:List (List Int)} {x y:Int} (hT:S.T t = .fr 1 (ls.length + 1) (cat cL ls ++ [.fr 1 2 [.int .i64 x,.int .i64 y]]))
    (h:∀ b cp k,S.H b = none → ls.length + 1 ≤ cp → cp ≤ ls.length + 1 + k → AW P B n c Q ⟨upd S.T t (.sl b 1 0 (ls.length + 1) cp),upd S.H b (some (cat cL (ls ++ [[x,y]]) ++ zrP k .any))⟩):AW P B n c Q S:=by
  refine Xk t hT fun b cp k hb h1 h2=>?_
  have hl:(cat cL ls).length = ls.length:=by rw [Qz];omega
  refine AW_shutCell b ls.length (all:=(cat cL ls ++ [.fr 1 2 [.int .i64 x,.int .i64 y]]) ++ zrP k .any) (d:=.fr 1 2 [.int .i64 x,.int .i64 y]) (by dsimp only;rw [Qw]) ?_ rfl ?_
  · rw [List.append_assoc,List.getElem?_append_right (by omega),hl,Nat.sub_self];rfl
  · have e:((cat cL ls ++ [D.fr 1 2 [.int .i64 x,.int .i64 y]]) ++ zrP k D.any).set ls.length (dat (.fr 1 2 [.int .i64 x,.int .i64 y])) = cat cL (ls ++ [[x,y]]) ++ zrP k .any:=by
      rw [List.append_assoc,Jk,Zz,List.append_assoc,List.set_append,if_neg (by omega),hl,Nat.sub_self];rfl
    rw [e]
    have e2:upd (upd S.H b (some (cat cL ls ++ [D.fr 1 2 [.int .i64 x,.int .i64 y]] ++ zrP k D.any))) b (some (cat cL (ls ++ [[x,y]]) ++ zrP k .any)) = upd S.H b (some (cat cL (ls ++ [[x,y]]) ++ zrP k .any)):=upd_upd ..
    dsimp only
    rw [e2]
    exact h b cp k hb h1 (by omega)
end
@[go_sem] theorem is_lit2 (x0 x1:Int):Is cI 2 [D.int .i64 x0,D.int .i64 x1] = True:=eq_true ⟨[x0,x1],rfl,rfl⟩
@[go_sem] theorem de_lit2 (x0 x1:Int):de cI [D.int .i64 x0,D.int .i64 x1] = [x0,x1]:=Qm (f:=cI) [x0,x1]
theorem snoc_cT (xs:List Tr4) (a b c d:Int):cat cT xs ++ [.int .i64 a,.int .i64 b,.int .i64 c,.int .i64 d] = cat cT (xs ++ [(a,b,c,d)]):=by rw [Jk,Zz];rfl
def SmallT (xs:List Tr4):Prop:=∀ i,i < xs.length → (nth xs i).2.2.1 ≤ 9223372036854775807
theorem SmallT.nil:SmallT []:=fun i h=>by simp at h
theorem SmallT.snoc {xs:List Tr4} (h:SmallT xs) {e:Tr4} (he:e.2.2.1 ≤ 9223372036854775807):SmallT (xs ++ [e]):=fun i hi=>by
  rw [List.length_append,List.length_singleton] at hi
  by_cases q:i < xs.length
  · simp only [nth,List.getD_eq_getElem?_getD,List.getElem?_append_left q]
    have:=h i q
    simpa only [nth,List.getD_eq_getElem?_getD] using this
  · have:i = xs.length:=by omega
    subst this
    simp only [nth,List.getD_eq_getElem?_getD,List.getElem?_append_right (Nat.le_refl _),Nat.sub_self]
    exact he
def PairsOk (us:List Int) (ls:List (List Int)):Prop:=∀ p,p ∈ ls → ∃ s ph,p = [s,ph] ∧ PhOk us ph
theorem PairsOk.nil (us:List Int):PairsOk us []:=fun p h=>nomatch h
theorem PairsOk.snoc {us:List Int} {ls:List (List Int)} (h:PairsOk us ls) {s ph:Int} (hp:PhOk us ph):PairsOk us (ls ++ [[s,ph]]):=fun p hp2=>by
  rcases List.mem_append.1 hp2 with q | q
  · exact h p q
  · exact ⟨s,ph,by simpa using q,hp⟩
structure TA where
  ls:List (List Int)
  js:List Int
  qs:List Bool
  es:List Tr4
  nb:Nat
  cp:Nat
  j:Nat
  H:Hp
def TAi (ab:Nat) (us:List Int) (q:TA):Prop:=PairsOk us q.ls ∧ SmallT q.es ∧ ¬ q.nb = ab ∧ q.ls.length ≤ q.cp ∧ q.cp ≤ q.ls.length + q.j ∧ q.H ab = some [.fr 1 q.js.length (cat cI q.js),.fr 1 q.qs.length (cat cB q.qs),.fr 4 q.es.length (cat cT q.es)] ∧ q.H q.nb = some (cat cL q.ls ++ zrP q.j .any)
def T1 (ab:Nat) (us:List Int) (cn:Nat) (q:Nat × TA):Prop:=q.1 ≤ cn ∧ TAi ab us q.2 ∧ q.2.ls.length ≤ q.1 ∧ q.2.js.length ≤ q.1 ∧ q.2.qs.length = 0 ∧ q.2.es.length = 0
def T2 (ab:Nat) (us:List Int) (q:Nat × TA):Prop:=q.1 ≤ q.2.ls.length ∧ TAi ab us q.2 ∧ q.2.ls.length ≤ 96 ∧ q.2.js.length ≤ 32 ∧ q.2.qs.length = q.1 ∧ q.2.es.length ≤ q.1 * 32
def T3 (ab:Nat) (us:List Int) (cn:Nat) (i n0:Nat) (y:Nat × TA):Prop:=y.1 ≤ cn ∧ TAi ab us y.2 ∧ y.2.ls.length ≤ n0 + y.1 ∧ i + 1 ≤ y.2.ls.length ∧ y.2.js.length ≤ 32 ∧ y.2.qs.length = i + 1 ∧ y.2.es.length ≤ i * 32 + y.1
theorem pow_cn {n:Nat} (h:n ≤ 5):∃ cn:Nat,cn ≤ 32 ∧ IntKind.i64.wrap (2 ^ min (IntKind.u64.wrap (n:Int)).toNat 64) = (cn:Int):=by
  have:n = 0 ∨ n = 1 ∨ n = 2 ∨ n = 3 ∨ n = 4 ∨ n = 5:=by omega
  rcases this with e | e | e | e | e | e <;> subst e
  · exact ⟨1,by omega,by decide⟩
  · exact ⟨2,by omega,by decide⟩
  · exact ⟨4,by omega,by decide⟩
  · exact ⟨8,by omega,by decide⟩
  · exact ⟨16,by omega,by decide⟩
  · exact ⟨32,by omega,by decide⟩

@[go_sem] def Wl:(List Int × List Bool × List Tr4) × Bool → D:=fun x=>.tup [.st [li cI x.1.1,li cB x.1.2.1,li cT x.1.2.2],.bool x.2]
theorem zaft (x:(List Int × List Bool × List Tr4) × Bool):dat (Wl x) = Wl x:=by simp [go_sem]
def zaab (k:Int) (v:Int) (ks:List Tree):(List Int × List Bool × List Tr4) × Bool → Prop:=fun x=>x.1.1.length ≤ 3000 ∧ x.1.2.1.length ≤ 3000 ∧ x.1.2.2.length ≤ 4000 ∧ SmallT x.1.2.2
def zaal (k:Int) (v:Int) (ks:List Tree) (x:((List Int × List Bool × List Tr4) × Bool) × D):Prop:=zaab k v ks x.1 ∧ dat x.2 = Wl x.1
def zaaf (k:Int) (v:Int) (ks:List Tree) (c:Any):((List Int × List Bool × List Tr4) × Bool) × D:=sel (zaal k v ks) (((([],[],[]),false):(List Int × List Bool × List Tr4) × Bool),Wl ((([],[],[]),false))) c
def zaax (k:Int) (v:Int) (ks:List Tree) (c:Any):(List Int × List Bool × List Tr4) × Bool:=(zaaf k v ks c).1
theorem zacx (k:Int) (v:Int) (ks:List Tree)  (c:Any):zaal k v ks (zaaf k v ks c):=by
  have hx:zaab k v ks ((([],[],[]),false)):=⟨by simp,by simp,by simp,SmallT.nil⟩
  exact Ji (p:=zaal k v ks) (x0:=(((([],[],[]),false):(List Int × List Bool × List Tr4) × Bool),Wl ((([],[],[]),false)))) ⟨hx,zaft _⟩ c
theorem zahv (k:Int) (v:Int) (ks:List Tree)  (c:Any):zaab k v ks (zaax k v ks c):=(zacx k v ks  c).1
theorem zaay (k:Int) (v:Int) (ks:List Tree) {e_:Exit} {S_:St} (x:(List Int × List Bool × List Tr4) × Bool) (he_:e_ = .ret ∨ e_ = .normal)
    (h1:(Qk Try.prog S_ Try.f183.results.toList).1 ∧ dat (resD (Qk Try.prog S_ Try.f183.results.toList).2.1) = Wl x) (hg:zaab k v ks x) :
    retR Try.prog Try.f183 (fun c=>((zaaf k v ks c).2,fun _=>none)) e_ S_ :=
  Jd (good:=zaal k v ks) (enc:=fun x:((List Int × List Bool × List Tr4) × Bool) × D=>x.2) (x,resD (Qk Try.prog S_ Try.f183.results.toList).2.1) he_ ⟨h1.1,rfl⟩ ⟨hg,h1.2⟩
set_option maxHeartbeats 16000000 in
theorem zafs (k:Int) (v:Int) (ks:List Tree)  : SpecR Try.prog 183 [.st [.int .i64 k,.int .i64 v,li cX ks]] (fun _=>none) (fun c=>((zaaf k v ks c).2,fun _=>none)):=by
  refine SpecR.of_walk Try.func183 rfl (by simp [Try.f183]) fun B=>?_
  (repeat' (first
 | refine Qt ?_
 | refine Qc (id:=0) Xh [] (by kernel_rfl) ?_;simp [-zg,-zd,↓Qb,↓Qa,go_sem];try (refine Zr 1 ?_;simp [go_sem])
 | refine Qc (id:=1) Xh [] (by kernel_rfl) ?_;simp [-zg,-zd,↓Qb,↓Qa,go_sem];try ((intro c1);(have z0:=zaoa k v ks c1);(generalize zacc k v ks c1 = z1 at *);(obtain ⟨bs,okb⟩:=z1);(simp only [zaah] at z0);(obtain ⟨hb5,hA⟩:=z0))
 | refine Qc (id:=2) Xh [] (by kernel_rfl) ?_;simp [-zg,-zd,↓Qb,↓Qa,go_sem]
 | refine Qc (id:=3) Xh [] (by kernel_rfl) ?_;simp [-zg,-zd,↓Qb,↓Qa,go_sem]
 | refine Qc (id:=4) Xh [] (by kernel_rfl) ?_;simp [-zg,-zd,↓Qb,↓Qa,go_sem];try ((intro c4);(have z4:=zajx k v ks c4);(generalize zace k v ks c4 = z5 at *);(obtain ⟨⟨gk,gv,gs⟩,okc⟩:=z5);(simp only [Wp] at z4);(have hV:Valu (.mk gk gv gs):=(by rcases z4.2 with h | h;exact Valu.zero h;exact h.valu));(clear z4);(refine Zr 6 ?_);(simp [go_sem]))
 | refine Qc (id:=5) Xh [] (by kernel_rfl) ?_;simp [-zg,-zd,↓Qb,↓Qa,go_sem,wrapu_nn (bs.length:Int)];try ((obtain ⟨cn,hcn,ecn⟩:=pow_cn hb5);(rw [ecn]);(clear ecn))
 | refine Qc (id:=6) Xh [] (by kernel_rfl) ?_;simp [-zg,-zd,↓Qb,↓Qa,go_sem,(show bs.length ≤ 1000 by omega)];try ((intro c6);(have hU:=l7Untils_ok bs (by omega) c6);(simp only [zabs] at hU);(generalize zacs bs c6 = us at *);(have hul:us.length ≤ 1000:=(by have:=hU.1;omega));(refine Zr 9 ?_);(simp [go_sem,dat,Xm]))
 | refine Qc (id:=7) Xh [] (by kernel_rfl) ?_;simp [-zg,-zd,↓Qb,↓Qa,go_sem]
 | refine Qc (id:=8) Xh [] (by kernel_rfl) ?_;simp [-zg,-zd,↓Qb,↓Qa,go_sem]
 | ((refine AW_boxNils3 10 rfl ?_);(refine Zi 10 rfl fun ab hab=>?_);(refine Xk 11 rfl fun nb cp j hnb hcp hcj=>?_);(have hna:¬ nb = ab:=(by rintro rfl;simp [upd] at hnb));(clear hab hnb);(refine Qx (fun H1=>TAi ab us ⟨[],[],[],[],nb,cp,j,H1⟩) ⟨PairsOk.nil us,SmallT.nil,hna,Nat.zero_le _,by simpa using hcj,by simp [upd,zS hna,Xs],by simp [upd,Xs]⟩ fun H1 hT=>?_));refine Qc (id:=9) Xh [] (by kernel_rfl) ?_;simp [-zg,-zd,↓Qb,↓Qa,go_sem]
 | ((have hq1:=hq.1));refine Qc (id:=10) Xh [] (by kernel_rfl) ?_;simp [-zg,-zd,↓Qb,↓Qa,go_sem]
 | refine Qc (id:=12) Xh [] (by kernel_rfl) ?_;simp [-zg,-zd,↓Qb,↓Qa,go_sem,hV]
 | ((obtain ⟨i,zq⟩:=q);(obtain ⟨g1,g2,g3,g4,g5,g6⟩:=hq);(dsimp only at g1 g2 g3 g4 g5 g6);(obtain ⟨ls,js,qs,es,nb,cp,j,H0⟩:=zq);(dsimp only at *);(obtain ⟨t1,t2,t3,t4,t5,t6,t7⟩:=g2);(dsimp only at t1 t2 t3 t4 t5 t6 t7));refine Qc (id:=13) Xh [] (by kernel_rfl) ?_;simp [-zg,-zd,↓Qb,↓Qa,go_sem,t6,(show js.length ≤ 9223372036854775806 by omega),(show 2 * (js.length + 1) * 8 ≤ 281474976710656 by omega),Xv];try ((refine Qx (fun H1=>H1 ab = some [.fr 1 (js.length + 1) (cat cI (js ++ [(ls.length:Int)])),.fr 1 qs.length (cat cB qs),.fr 4 es.length (cat cT es)] ∧ H1 nb = some (cat cL ls ++ zrP j .any)) ⟨by simp [upd],by simp [upd,t3,t7]⟩ fun H2 ⟨u1,u2⟩=>?_))
 | refine Qc (id:=14) Xh [] (by kernel_rfl) ?_;simp [-zg,-zd,↓Qb,↓Qa,go_sem,u1,u2,t3,zS t3,(show ls.length ≤ 9223372036854775806 by omega),(show 2 * (ls.length + 1) * 24 ≤ 281474976710656 by omega),t5,(show ls.length ≤ ls.length + j by omega)];try ((refine AW_matL 11 (ls:=ls) (x:=(i:Int)) (y:=0) rfl fun nb2 cp2 j2 hn2 hc2 hj2=>?_);(have n2:¬ nb2 = ab:=(by rintro rfl;simp [upd,t3,zS t3,u1] at hn2));(refine Qx (fun H1=>TAi ab us ⟨ls ++ [[(i:Int),0]],js ++ [(ls.length:Int)],qs,es,nb2,cp2,j2,H1⟩) ⟨t1.snoc (PhOk.zero us),t2,n2,by simpa using hc2,by simpa using hj2,by simp [upd,n2,zS n2,t3,zS t3,u1],by simp [upd]⟩ fun H3 hT3=>?_);(have hl3:(ls ++ [[(i:Int),0]]).length = ls.length + 1:=(by simp));(have hz:T1 ab us cn (i + 1,⟨ls ++ [[(i:Int),0]],js ++ [(ls.length:Int)],qs,es,nb2,cp2,j2,H3⟩):=⟨by dsimp only;omega,hT3,by simp;omega,by simp;omega,g5,g6⟩);(rw [← hl3]);(obtain ⟨zz,hzz⟩:∃ zz:TA,zz = ⟨ls ++ [[(i:Int),0]],js ++ [(ls.length:Int)],qs,es,nb2,cp2,j2,H3⟩:=⟨_,rfl⟩);(rw [← hzz] at hz);(have z1:ls ++ [[(i:Int),0]] = zz.ls:=(by rw [hzz]));(have z2:nb2 = zz.nb:=(by rw [hzz]));(have z3:cp2 = zz.cp:=(by rw [hzz]));(have z4:H3 = zz.H:=(by rw [hzz]));(rw [z1,z2,z3,z4]);(clear hzz))
 | refine Qc (id:=11) Xh [] (by kernel_rfl) ?_;simp [-zg,-zd,↓Qb,↓Qa,go_sem,wrapS (k:=i) (by omega)]
 | refine Qc (id:=11) Xh [] (by kernel_rfl) ?_;simp [-zg,-zd,↓Qb,↓Qa,go_sem,wrapS (k:=q.1) (by omega)]
 | ((obtain ⟨i0,q1⟩:=q);(obtain ⟨g1,g2,g3,g4,g5,g6⟩:=hq);(dsimp only at *));refine Qc (id:=15) Xh [] (by kernel_rfl) ?_;simp [-zg,-zd,↓Qb,↓Qa,go_sem]
 | ((have hr1:=hr.1);(have hr3:=hr.2.2.1));refine Qc (id:=16) Xh [] (by kernel_rfl) ?_;simp [-zg,-zd,↓Qb,↓Qa,go_sem]
 | refine Qc (id:=18) Xh [] (by kernel_rfl) ?_;simp [-zg,-zd,↓Qb,↓Qa,go_sem]
 | refine Qc (id:=19) Xh [] (by kernel_rfl) ?_;simp [-zg,-zd,↓Qb,↓Qa,go_sem]
 | ((obtain ⟨i,rz⟩:=r);(obtain ⟨h1,h2,h3,h4,h5,h6⟩:=hr);(dsimp only at *);(obtain ⟨ls,js,qs,es,nb,cp,j,H0⟩:=rz);(dsimp only at *);(obtain ⟨t1,t2,t3,t4,t5,t6,t7⟩:=h2);(dsimp only at t1 t2 t3 t4 t5 t6 t7);(have hil:i < ls.length:=(by omega));(obtain ⟨s,ph,hp,hph⟩:=t1 (nth ls i) (Xe hil)));refine Qc (id:=20) Xh [] (by kernel_rfl) ?_;simp [-zg,-zd,↓Qb,↓Qa,go_sem,hil,Qj hil,Nat.sub_pos_of_lt hil,t7,hp,(show nth [s,ph] 0 = s from rfl),(show i < ls.length + j by omega)]
 | refine Qc (id:=21) Xh [] (by kernel_rfl) ?_;simp [-zg,-zd,↓Qb,↓Qa,go_sem,hA,hU,hph,hul,(show nth [ph] 0 = ph from rfl),(show nth [s,ph] 1 = ph from rfl),hil,Qj hil,Nat.sub_pos_of_lt hil,t7,hp,(show i < ls.length + j by omega)];try ((intro c21);(have h21:=l7Phase_ok bs us s ph hA hU hph hul c21);(simp only [zact] at h21);(generalize zadn bs us s ph c21 = zp at *);(obtain ⟨ph2,ac⟩:=zp);(dsimp only at h21 ⊢))
 | refine Qc (id:=22) Xh [] (by kernel_rfl) ?_;simp [-zg,-zd,↓Qb,↓Qa,go_sem,t6,(show qs.length ≤ 9223372036854775806 by omega),(show 2 * (qs.length + 1) * 1 ≤ 281474976710656 by omega),(show 2 * (qs.length + 1) ≤ 281474976710656 by omega),snoc_cB];try ((refine Qx (fun H1=>H1 ab = some [.fr 1 js.length (cat cI js),.fr 1 (qs ++ [ac]).length (cat cB (qs ++ [ac])),.fr 4 es.length (cat cT es)] ∧ H1 nb = some (cat cL ls ++ zrP j .any)) ⟨by simp [upd],by simp [upd,t3,t7]⟩ fun H2 ⟨u1,u2⟩=>?_))
 | refine Qc (id:=23) Xh [] (by kernel_rfl) ?_;simp [-zg,-zd,↓Qb,↓Qa,go_sem,hA];try ((intro c23);(have h23:=l7Letter_ok bs s hA c23);(simp only [zaaz] at h23);(generalize zacu bs s c23 = zl at *);(obtain ⟨care,vl⟩:=zl);(dsimp only at h23 ⊢))
 | refine Qc (id:=24) Xh [] (by kernel_rfl) ?_;simp [-zg,-zd,↓Qb,↓Qa,go_sem]
 | ((have hy1:=hy.1));refine Qc (id:=25) Xh [] (by kernel_rfl) ?_;simp [-zg,-zd,↓Qb,↓Qa,go_sem]
 | refine Qc (id:=27) Xh [] (by kernel_rfl) ?_;simp [-zg,-zd,↓Qb,↓Qa,go_sem,hA];try ((intro c27);(generalize zabv bs s (y.1:Int) c27 = fb at *))
 | ((obtain ⟨e,yz⟩:=y);(obtain ⟨y1,y2,y3,y4,y5,y6,y7⟩:=hy);(dsimp only at *);(obtain ⟨ls2,js2,qs2,es2,nb2,cp2,j2,H4⟩:=yz);(dsimp only at *);(obtain ⟨w1,w2,w3,w4,w5,w6,w7⟩:=y2);(dsimp only at w1 w2 w3 w4 w5 w6 w7));refine Qc (id:=28) Xh [] (by kernel_rfl) ?_;simp [-zg,-zd,↓Qb,↓Qa,go_sem]
 | ((refine Je 11 (b:=nb2) (sz:=1) (m:=ls2.length) (all:=cat cL ls2 ++ zrP j2 D.any) rfl w7 (by omega) (by simp [Qz]) (by simp [Qz];omega) ?_);(simp only [Nat.mul_one,Xt]));refine Qc (id:=29) Xh [] (by kernel_rfl) ?_;simp [-zg,-zd,↓Qb,↓Qa,go_sem,(show ls2.length ≤ 100000 by omega)];try ((intro c29);(have h29:=l7Pair_ok ls2 [(e:Int),ph2] (by omega) c29);(simp only [zado] at h29);(generalize zaes ls2 [(e:Int),ph2] c29 = zq at *);(obtain ⟨ls3,ix⟩:=zq);(dsimp only at h29 ⊢);(have hl3:ls3.length ≤ ls2.length + 1 ∧ ls2.length ≤ ls3.length:=(by rcases h29 with h | h <;> rw [h] <;> simp));(have hP3:PairsOk us ls3:=(by rcases h29 with h | h;rw [h];exact w1;rw [h];exact w1.snoc h21));(refine Xk 11 rfl fun nb3 cp3 j3 hn3 hc3 hj3=>?_);(have n3:¬ nb3 = ab:=(by rintro rfl;simp [upd,w3,zS w3,w6] at hn3));(refine Qx (fun H1=>H1 ab = some [.fr 1 js2.length (cat cI js2),.fr 1 qs2.length (cat cB qs2),.fr 4 es2.length (cat cT es2)] ∧ H1 nb3 = some (cat cL ls3 ++ zrP j3 .any)) ⟨by simp [upd,n3,zS n3,w3,zS w3,w6],by simp [upd]⟩ fun H5 ⟨v1,v2⟩=>?_))
 | refine Qc (id:=30) Xh [] (by kernel_rfl) ?_;simp [-zg,-zd,↓Qb,↓Qa,go_sem,v1,(show es2.length ≤ 9223372036854775806 by omega),(show 2 * (es2.length + 1) * 32 ≤ 281474976710656 by omega),snoc_cT];try ((have hl4:(es2 ++ [((i:Int),care,vl,ix)]).length = es2.length + 1:=(by simp));(refine Qx (fun H1=>TAi ab us ⟨ls3,js2,qs2,es2 ++ [((i:Int),care,vl,ix)],nb3,cp3,j3,H1⟩) ⟨hP3,w2.snoc h23,n3,(show ls3.length ≤ cp3 by omega),(show cp3 ≤ ls3.length + j3 by omega),by simp [upd],by simp [upd,n3,v2]⟩ fun H6 hT6=>?_);(have hz:T3 ab us cn i ls.length (e + 1,⟨ls3,js2,qs2,es2 ++ [((i:Int),care,vl,ix)],nb3,cp3,j3,H6⟩):=⟨by dsimp only;omega,hT6,by dsimp only;omega,by dsimp only;omega,y5,y6,by dsimp only;omega⟩);(obtain ⟨zz,hzz⟩:∃ zz:TA,zz = ⟨ls3,js2,qs2,es2 ++ [((i:Int),care,vl,ix)],nb3,cp3,j3,H6⟩:=⟨_,rfl⟩);(rw [← hzz] at hz);(have z1:ls3 = zz.ls:=(by rw [hzz]));(have z2:nb3 = zz.nb:=(by rw [hzz]));(have z3:cp3 = zz.cp:=(by rw [hzz]));(have z4:H6 = zz.H:=(by rw [hzz]));(rw [z1,z2,z3,z4]);(clear hzz))
 | refine Qc (id:=26) Xh [] (by kernel_rfl) ?_;simp [-zg,-zd,↓Qb,↓Qa,go_sem,wrapS (k:=e) (by omega)]
 | refine Qc (id:=26) Xh [] (by kernel_rfl) ?_;simp [-zg,-zd,↓Qb,↓Qa,go_sem,wrapS (k:=y.1) (by omega)]
 | ((obtain ⟨e,yz⟩:=y);(obtain ⟨y1,y2,y3,y4,y5,y6,y7⟩:=hy);(dsimp only at *);(have hyz:T2 ab us (i + 1,yz):=⟨by dsimp only;omega,y2,by dsimp only;omega,by dsimp only;omega,y6,by dsimp only;omega⟩));refine Qc (id:=17) Xh [] (by kernel_rfl) ?_;simp [-zg,-zd,↓Qb,↓Qa,go_sem,wrapS (k:=i) (by omega)]
 | ((obtain ⟨i,rz⟩:=r);(obtain ⟨h1,h2,h3,h4,h5,h6⟩:=hr);(dsimp only at *);(obtain ⟨ls,js,qs,es,nb,cp,j,H0⟩:=rz);(dsimp only at *);(obtain ⟨t1,t2,t3,t4,t5,t6,t7⟩:=h2);(dsimp only at t1 t2 t3 t4 t5 t6 t7));refine Qc (id:=31) Xh [] (by kernel_rfl) ?_;simp [-zg,-zd,↓Qb,↓Qa,go_sem]
 | refine Qc (id:=32) Xh [] (by kernel_rfl) ?_;simp [-zg,-zd,↓Qb,↓Qa,go_sem,t6];try ((refine Qx (fun H1=>H1 ab = some [.fr 1 js.length (cat cI js),.fr 1 [false].length (cat cB [false]),.fr 4 es.length (cat cT es)]) (by simp [upd,Zz,cB]) fun H2 u1=>?_))
 | refine Qc (id:=33) Xh [] (by kernel_rfl) ?_;simp [-zg,-zd,↓Qb,↓Qa,go_sem,u1]
 | refine Qc (id:=33) Xh [] (by kernel_rfl) ?_;simp [-zg,-zd,↓Qb,↓Qa,go_sem,t6]
 | refine Qd (c:=.tmp 27) ?_;simp [-zg,-zd,↓Qb,↓Qa,go_sem];try first | (refine ⟨?_,?_⟩ <;> refine zA ?_) | (refine ⟨fun c27=>?_,fun c27=>?_⟩ <;> (try simp [B_iff,B_not] at c27))
 | refine Qd (c:=.tmp 44) ?_;simp [-zg,-zd,↓Qb,↓Qa,go_sem];try first | (refine ⟨?_,?_⟩ <;> refine zA ?_) | (refine ⟨fun c44=>?_,fun c44=>?_⟩ <;> (try simp [B_iff,B_not] at c44))
 | refine Qd (c:=.tmp 50) ?_;simp [-zg,-zd,↓Qb,↓Qa,go_sem];try first | (refine ⟨?_,?_⟩ <;> refine zA ?_) | (refine ⟨fun c50=>?_,fun c50=>?_⟩ <;> (try simp [B_iff,B_not] at c50))
 | refine Qd (c:=.tmp 66) ?_;simp [-zg,-zd,↓Qb,↓Qa,go_sem];try first | (refine ⟨?_,?_⟩ <;> refine zA ?_) | (refine ⟨fun c66=>?_,fun c66=>?_⟩ <;> (try simp [B_iff,B_not] at c66))
 | refine Qd (c:=.tmp 71) ?_;simp [-zg,-zd,↓Qb,↓Qa,go_sem];try first | (refine ⟨?_,?_⟩ <;> refine zA ?_) | (refine ⟨fun c71=>?_,fun c71=>?_⟩ <;> (try simp [B_iff,B_not] at c71))
 | refine Qd (c:=.tmp 106) ?_;simp [-zg,-zd,↓Qb,↓Qa,go_sem];try first | (refine ⟨?_,?_⟩ <;> refine zA ?_) | (refine ⟨fun c106=>?_,fun c106=>?_⟩ <;> (try simp [B_iff,B_not] at c106))
 | refine Qd (c:=.tmp 112) ?_;simp [-zg,-zd,↓Qb,↓Qa,go_sem];try first | (refine ⟨?_,?_⟩ <;> refine zA ?_) | (refine ⟨fun c112=>?_,fun c112=>?_⟩ <;> (try simp [B_iff,B_not] at c112))
 | refine Qd (c:=.tmp 133) ?_;simp [-zg,-zd,↓Qb,↓Qa,go_sem];try first | (refine ⟨?_,?_⟩ <;> refine zA ?_) | (refine ⟨fun c133=>?_,fun c133=>?_⟩ <;> (try simp [B_iff,B_not] at c133))
 | (refine Qe (id:=0) (Qy (ι:=Nat × TA) (fun q:Nat × TA=>⟨(upd (upd (upd (upd (upd (upd (upd (upd (fun _=>.any) 2 (.box [.nil,.nil,.nil])) 4 (li cX bs)) 8 (.int .i64 (cn:Int))) 9 (li cI us)) 10 (.ptr ab 0)) 6 (.pd [.int .i64 gk,.int .i64 gv,li cX gs])) 11 (.sl q.2.nb 1 0 q.2.ls.length q.2.cp)) 12 (.int .i64 q.1)),q.2.H⟩) (fun q=>T1 ab us cn q) (fun q=>cn - q.1) ((0,⟨[],[],[],[],nb,cp,j,H1⟩)) ?_ ?_ ?_);exact ⟨Nat.zero_le _,hT,Nat.le_refl _,Nat.le_refl _,rfl,rfl⟩;((repeat' (first | exact Qg (by assumption) | exact Qi | refine Qf ?_ ?_ | refine Qh ?_)) <;> simp [-zg,-zd,↓Qb,↓Qa,go_sem,List.length_nil]);rintro q hq)
 | (refine ⟨(i + 1,zz),hz,by first | omega | (simp;done) | (simp;omega),?_⟩;((repeat' (first | exact Qg (by assumption) | exact Qi | refine Qf ?_ ?_ | refine Qh ?_)) <;> simp [-zg,-zd,↓Qb,↓Qa,go_sem,]))
 | (refine Qe (id:=2) (Qy (ι:=Nat × TA) (fun r:Nat × TA=>⟨(upd (upd (upd (upd (upd (upd (upd (fun _=>.any) 2 (.box [.nil,.nil,.nil])) 4 (li cX bs)) 8 (.int .i64 (cn:Int))) 9 (li cI us)) 10 (.ptr ab 0)) 11 (.sl r.2.nb 1 0 r.2.ls.length r.2.cp)) 13 (.int .i64 r.1)),r.2.H⟩) (fun r=>T2 ab us r) (fun r=>96 - r.1) ((0,q1)) ?_ ?_ ?_);exact ⟨Nat.zero_le _,g2,by dsimp only;omega,by dsimp only;omega,g5,by dsimp only;omega⟩;((repeat' (first | exact Qg (by assumption) | exact Qi | refine Qf ?_ ?_ | refine Qh ?_)) <;> simp [-zg,-zd,↓Qb,↓Qa,go_sem]);rintro r hr)
 | (refine ⟨(i + 1,yz),hyz,by first | omega | (simp;done) | (simp;omega),?_⟩;((repeat' (first | exact Qg (by assumption) | exact Qi | refine Qf ?_ ?_ | refine Qh ?_)) <;> simp [-zg,-zd,↓Qb,↓Qa,go_sem]))
 | (refine Qe (id:=4) (Qy (ι:=Nat × TA) (fun y:Nat × TA=>⟨(upd (upd (upd (upd (upd (upd (upd (upd (upd (upd (upd (upd (fun _=>.any) 2 (.box [.nil,.nil,.nil])) 4 (li cX bs)) 8 (.int .i64 (cn:Int))) 9 (li cI us)) 10 (.ptr ab 0)) 11 (.sl y.2.nb 1 0 y.2.ls.length y.2.cp)) 13 (.int .i64 i)) 14 (.int .i64 s)) 15 (.int .i64 ph2)) 17 (.int .i64 care)) 18 (.int .i64 vl)) 19 (.int .i64 y.1)),y.2.H⟩) (fun y=>T3 ab us cn i ls.length y) (fun y=>cn - y.1) ((0,⟨ls,js,qs ++ [ac],es,nb,cp,j,H2⟩)) ?_ ?_ ?_);exact ⟨Nat.zero_le _,⟨t1,t2,t3,t4,t5,u1,u2⟩,by dsimp only;omega,by dsimp only;omega,h4,by simp;omega,by dsimp only;omega⟩;((repeat' (first | exact Qg (by assumption) | exact Qi | refine Qf ?_ ?_ | refine Qh ?_)) <;> simp [-zg,-zd,↓Qb,↓Qa,go_sem]);rintro y hy)
 | (refine ⟨(e + 1,zz),hz,by first | omega | (simp;done) | (simp;omega),?_⟩;((repeat' (first | exact Qg (by assumption) | exact Qi | refine Qf ?_ ?_ | refine Qh ?_)) <;> simp [-zg,-zd,↓Qb,↓Qa,go_sem]))
 | (refine Qe ?_)
 | (refine Qs ?_;simp [-zg,-zd,↓Qb,↓Qa,go_sem])
 | (refine Qr ?_;simp [-zg,-zd,↓Qb,↓Qa,go_sem])
 | (refine Qu ?_;try simp [-zg,-zd,↓Qb,↓Qa,go_sem,Try.results183])
 | (intro hx;refine zA ?_)
 | (intro hx;change retR _ _ _ _ _)
 | (refine ⟨?_,?_⟩ <;> refine zA ?_)
 | (intro hx;constructor <;> intro hs)
 | (constructor <;> intro hs)
 | (refine ⟨?_,fun hs=>?_⟩;refine zA ?_)
 | (refine ⟨fun hs=>?_,?_⟩;rotate_left;refine zA ?_;rotate_left)
 | ((fail_if_success change retR _ _ _ _ _);(refine ⟨(q.1 + 1,q.2),⟨by dsimp only;omega,hq.2.1,by have:=hq.2.2.1;dsimp only;omega,by have:=hq.2.2.2.1;dsimp only;omega,hq.2.2.2.2⟩,by dsimp only;omega,?_⟩;((repeat' (first | exact Qg (by assumption) | exact Qi | refine Qf ?_ ?_ | refine Qh ?_)) <;> simp [-zg,-zd,go_sem]);done))
 | ((fail_if_success change retR _ _ _ _ _);(refine ⟨(y.1 + 1,y.2),⟨by dsimp only;omega,hy.2.1,by have:=hy.2.2.1;dsimp only;omega,hy.2.2.2.1,hy.2.2.2.2.1,hy.2.2.2.2.2.1,by have:=hy.2.2.2.2.2.2;dsimp only;omega⟩,by dsimp only;omega,?_⟩;((repeat' (first | exact Qg (by assumption) | exact Qi | refine Qf ?_ ?_ | refine Qh ?_)) <;> simp [-zg,-zd,go_sem]);done))))
  all_goals (first
 | (refine zaay _ _ _ ((([],[],[]),false)) ?_ ?_ ?_;(first | exact Or.inl rfl | exact Or.inr rfl);(focus (simp [-zg,-zd,↓Qb,↓Qa,go_sem,Try.results183,dat,Xm,li,Xs];done));(focus ((exact ⟨by simp,by simp,by simp,SmallT.nil⟩);done)))
 | (refine zaay _ _ _ (((js,qs,es),true)) ?_ ?_ ?_;(first | exact Or.inl rfl | exact Or.inr rfl);(focus (simp [-zg,-zd,↓Qb,↓Qa,go_sem,Try.results183,dat,Xm,li,Jv];done));(focus ((exact ⟨by dsimp only;omega,by dsimp only;omega,by dsimp only;omega,t2⟩);done)))
 | (refine zaay _ _ _ (((js,[false],es),true)) ?_ ?_ ?_;(first | exact Or.inl rfl | exact Or.inr rfl);(focus (simp [-zg,-zd,↓Qb,↓Qa,go_sem,Try.results183,dat,Xm,li,Jv,Zz,cB];done));(focus ((exact ⟨by dsimp only;omega,by simp,by dsimp only;omega,t2⟩);done)))
 | skip)
@[go_sem] def zaca:Con:=.rel fun args H=>match args with
  | [.st [.int .i64 k,.int .i64 v,.list n_ks c_ks]]=>((Is cX n_ks c_ks),fun c=>(Wl (zaax k v (de cX c_ks) c),H))
  | _=>(False,fun _=>(.any,H))
theorem zaha:ConOk Try.prog 183 zaca:=by
  refine ⟨Qp Try.func183 (by decide) rfl,fun args H h=>?_⟩
  revert h
  dsimp only
  split
  · intro h
    obtain ⟨ks,rfl,rfl⟩:=h
    try simp only [Qm] at *
    exact SpecR.enc ((SpecR.frame0 (zafs _ _ ks ) (H:=H)).shut) fun c=>Prod.ext (zacx _ _ _  c).2.symm rfl
  · intro h
    exact h.elim
@[go_sem] def Γy24:FuncId → Con:=ext Γy23 183 zaca
theorem Γy24_ok:∀ g,ConOk Try.prog g (Γy24 g):=Qo Xh zaha


set_option maxHeartbeats 4000000 in

@[go_sem] def Uf:Tree → D:=sX
theorem l5Random_flat (x:Tree):dat (Uf x) = Uf x:=by simp [go_sem]
def zabw (d:Int):Tree → Prop:=fun _=>True
def zaiw (d:Int) (x:(Tree) × D):Prop:=zabw d x.1 ∧ dat x.2 = Uf x.1
def Vt (d:Int) (p:Int) (c:Any):((Tree) × D) × Int:=dsel (zaiw d) ((.mk 1 0 []:Tree),Uf (.mk 1 0 [])) (kR d.toNat) p c
def Vd (d:Int) (p:Int) (c:Any):(Tree) × Int:=((Vt d p c).1.1,(Vt d p c).2)
theorem zagl (d:Int) (hd:d ≤ 4) (p:Int) (c:Any):(zabw d (Vd d p c).1 ∧ p ≤ (Vd d p c).2 ∧ (Vd d p c).2 ≤ p + (kR d.toNat)) ∧ dat (Vt d p c).1.2 = Uf (Vd d p c).1:=by
  have hx:zabw d (.mk 1 0 []):=trivial
  have h:=dsel_ok (good:=zaiw d) (x0:=((.mk 1 0 []:Tree),Uf (.mk 1 0 []))) ⟨hx,l5Random_flat _⟩ (K:=(kR d.toNat)) (kR_nn _) (p:=p) c
  exact ⟨⟨h.1.1,h.2.1,h.2.2⟩,h.1.2⟩
theorem zapi (d:Int) (hd:d ≤ 4) (p:Int) (c:Any):zabw d (Vd d p c).1 ∧ p ≤ (Vd d p c).2 ∧ (Vd d p c).2 ≤ p + (kR d.toNat):=(zagl d hd p c).1
theorem zabm (d:Int) (ys:List UInt8) (p:Int) (b:Nat) {e_:Exit} {S_:St} (x:Tree) (p':Int) (he_:e_ = .ret ∨ e_ = .normal)
    (h1:(Qk Try.prog S_ Try.f220.results.toList).1 ∧ dat (resD (Qk Try.prog S_ Try.f220.results.toList).2.1) = Uf x ∧ (Qk Try.prog S_ Try.f220.results.toList).2.2.H b = some [li cY ys,.int .i64 p']) (hg:zabw d x) (h2:p ≤ p' ∧ p' ≤ p + (kR d.toNat)) :
    retR Try.prog Try.f220 (fun c=>((Vt d p c).1.2,one b [li cY ys,.int .i64 (Vt d p c).2])) e_ S_ :=
  ret_draw (good:=zaiw d) (enc:=fun x:(Tree) × D=>x.2) (cells:=fun q=>[li cY ys,.int .i64 q]) (x,resD (Qk Try.prog S_ Try.f220.results.toList).2.1) p' he_ ⟨h1.1,rfl,h1.2.2⟩ ⟨hg,h1.2.1⟩ h2
@[go_sem] def l5RandomCn (n_:Nat):Con:=.rel fun args H=>match args with
  | [.ptr b 0,.int .i64 d]=>match H b with
    | some [.list m cs,.int .i64 p]=>((Is cY m cs) ∧ (m ≤ 2000) ∧ (0 ≤ p) ∧ (p + (kR d.toNat) ≤ 1000000) ∧ (d ≤ 4) ∧ (d.toNat < n_),fun c=>(Uf (Vd d p c).1,upd H b (some [.list m cs,.int .i64 (Vd d p c).2])))
    | _=>(False,fun _=>(.any,H))
  | _=>(False,fun _=>(.any,H))
theorem l5RandomCn_ok {n_:Nat} (ih:∀ (ys:List UInt8) (p:Int) (b:Nat) (d:Int) (hl:ys.length ≤ 2000) (h0_:0 ≤ p) (hp_:p + (kR d.toNat) ≤ 1000000) (hd:d ≤ 4) (hm_:d.toNat < n_),SpecR Try.prog 220 [.ptr b 0,.int .i64 d] (one b [li cY ys,.int .i64 p]) (fun c=>((Vt d p c).1.2,one b [li cY ys,.int .i64 (Vt d p c).2]))):ConOk Try.prog 220 (l5RandomCn n_):=by
  refine ⟨Qp Try.func220 (by decide) rfl,fun args H h=>?_⟩
  revert h
  dsimp only
  split
  · split
    · rename_i hH
      intro h
      obtain ⟨⟨ys,rfl,rfl⟩,hl,h0_,hp_,hd,hm_⟩:=h
      try simp only [Qm] at *
      exact SpecR.enc ((ih ys _ _ _ hl h0_ hp_ hd hm_).frame hH).shut fun c=>Prod.ext (zagl _ hd _ _).2.symm rfl
    · intro h;exact h.elim
  · intro h
    exact h.elim
theorem l5Random_rec:∀ (n_:Nat),∀ (ys:List UInt8) (p:Int) (b:Nat) (d:Int) (hl:ys.length ≤ 2000) (h0_:0 ≤ p) (hp_:p + (kR d.toNat) ≤ 1000000) (hd:d ≤ 4) (hm_:d.toNat < n_),SpecR Try.prog 220 [.ptr b 0,.int .i64 d] (one b [li cY ys,.int .i64 p]) (fun c=>((Vt d p c).1.2,one b [li cY ys,.int .i64 (Vt d p c).2])):=by
  intro n_
  induction n_ with
  | zero=>intros;omega
  | succ n_ ih =>
  intro ys p b d hl h0_ hp_ hd hm_
  have Γr_ok:=Qo Γy24_ok (l5RandomCn_ok ih)
  refine SpecR.of_walk Try.func220 rfl (by simp [Try.f220]) fun B=>?_
  have hk3:=kR_ge d.toNat;by_cases hd2:d < 2
  all_goals (repeat' (first
 | refine Qt ?_
 | refine Qc (id:=0) Γr_ok [] (by kernel_rfl) ?_;simp [-zg,-zd,↓Qb,↓Qa,go_sem]
 | refine Qc (id:=1) Γr_ok [9] (by kernel_rfl) ?_;simp [-zg,-zd,↓Qb,↓Qa,go_sem,hd2,hl,(show 0 ≤ p by omega),(show p ≤ 1000000 by omega),(show 0 ≤ p + 1 by omega),(show p + 1 ≤ 1000000 by omega)];try (refine ⟨fun s1a=>?_,fun s1a=>?_⟩ <;> (try simp [B_iff,B_not] at s1a) <;> try (refine ⟨fun s1b=>?_,fun s1b=>?_⟩ <;> (try simp [B_iff,B_not] at s1b)))
 | refine Qc (id:=2) Γr_ok [] (by kernel_rfl) ?_;simp [-zg,-zd,↓Qb,↓Qa,go_sem,hl,(show 0 ≤ p by omega),(show p ≤ 1000000 by omega),(show 0 ≤ p + 1 by omega),(show p + 1 ≤ 1000000 by omega),(show 0 ≤ p + 1 + 1 by omega),(show p + 1 + 1 ≤ 1000000 by omega)]
 | refine Qc (id:=3) Γr_ok [] (by kernel_rfl) ?_;simp [-zg,-zd,↓Qb,↓Qa,go_sem];try (intro c3;generalize zahn c3 = z3 at *)
 | refine Qc (id:=4) Γr_ok [] (by kernel_rfl) ?_;simp [-zg,-zd,↓Qb,↓Qa,go_sem,hl,(show 0 ≤ p by omega),(show p ≤ 1000000 by omega),(show 0 ≤ p + 1 by omega),(show p + 1 ≤ 1000000 by omega),(show 0 ≤ p + 1 + 1 by omega),(show p + 1 + 1 ≤ 1000000 by omega),(show 0 ≤ p + 1 + 1 + 1 by omega),(show p + 1 + 1 + 1 ≤ 1000000 by omega)]
 | refine Qc (id:=5) Γr_ok [] (by kernel_rfl) ?_;simp [-zg,-zd,↓Qb,↓Qa,go_sem,hl,(show 0 ≤ p by omega),(show p ≤ 1000000 by omega),(show 0 ≤ p + 1 by omega),(show p + 1 ≤ 1000000 by omega),(show 0 ≤ p + 1 + 1 by omega),(show p + 1 + 1 ≤ 1000000 by omega),(show 0 ≤ p + 1 + 1 + 1 by omega),(show p + 1 + 1 + 1 ≤ 1000000 by omega)];try ((generalize numI ys (p + 1) [7,9,10,3,4,5,6,8] = kk at *);(have hks:=kR_step (d:=d) (by omega));(have hM:=kR_ge (d - 1).toNat);(have hd1:(d - 1).toNat = d.toNat - 1:=(by omega));(rw [hd1] at hks hM);(refine AW_boxNil2 5 3 rfl ?_);(refine Zi 5 rfl fun qb hqb=>?_);(have hbq:¬ b = qb:=(by rintro rfl;simp [go_sem] at hqb));(clear hqb);(refine Qx (fun H1=>H1 b = some [.list ys.length (cat cY ys),.int .i64 (p + 1 + 1)] ∧ H1 qb = some [.int .i64 kk,.int .i64 0,.fr 3 0 []]) ⟨by simp [go_sem,hbq],by simp [go_sem,hbq]⟩ fun H1 ⟨w1,w2⟩=>?_))
 | refine Qc (id:=6) Γr_ok [] (by kernel_rfl) ?_;simp [-zg,-zd,↓Qb,↓Qa,go_sem,w2];try (have hal:=arF_le kk;generalize arF kk = aa at *)
 | refine Qc (id:=7) Γr_ok [] (by kernel_rfl) ?_;simp [-zg,-zd,↓Qb,↓Qa,go_sem]
 | ((refine Zu qb 2 (all:=[.int .i64 kk,.int .i64 0,.fr 3 q.1.length (cat cX q.1)]) g6 rfl fun u cu ju hu hcu hdu=>?_);(have ub:¬ u = b:=(by intro e;rw [e] at hu;dsimp only at hu;rw [g5] at hu;cases hu));(have uq:¬ u = qb:=(by intro e;rw [e] at hu;dsimp only at hu;rw [g6] at hu;cases hu));(clear hu));refine Xx (id:=9) Γr_ok mixed [(qb,[.int .i64 kk,.int .i64 0,.sl u 3 0 q.1.length cu])] [] [] (by kernel_rfl) (by kernel_rfl) (by simp [-zg,-zd,↓Qb,↓Qa,go_sem,g5,hl,Qv (x:=d - 1) (by omega) (by omega),hbq,zS hbq,ub,uq,zS ub,zS uq,(show 0 ≤ q.2.2.1 by omega),(show d - 1 ≤ 4 by omega),(show d.toNat - 1 < n_ by omega),(show q.1.length ≤ 9223372036854775806 by omega),(show 2 * (q.1.length + 1) * 40 ≤ 281474976710656 by omega),(show q.2.2.1 + kR (d.toNat - 1) ≤ 1000000 by omega),hdu]) (by simp [-zg,-zd,↓Qb,↓Qa,go_sem,g5,hl,Qv (x:=d - 1) (by omega) (by omega),hbq,zS hbq,ub,uq,zS ub,zS uq,(show 0 ≤ q.2.2.1 by omega),(show d - 1 ≤ 4 by omega),(show d.toNat - 1 < n_ by omega),(show q.1.length ≤ 9223372036854775806 by omega),(show 2 * (q.1.length + 1) * 40 ≤ 281474976710656 by omega),(show q.2.2.1 + kR (d.toNat - 1) ≤ 1000000 by omega),hdu]) ?_;simp [-zg,-zd,↓Qb,↓Qa,go_sem,g5,hl,Qv (x:=d - 1) (by omega) (by omega),hbq,zS hbq,ub,uq,zS ub,zS uq,(show 0 ≤ q.2.2.1 by omega),(show d - 1 ≤ 4 by omega),(show d.toNat - 1 < n_ by omega),(show q.1.length ≤ 9223372036854775806 by omega),(show 2 * (q.1.length + 1) * 40 ≤ 281474976710656 by omega),(show q.2.2.1 + kR (d.toNat - 1) ≤ 1000000 by omega),hdu];try (intro c10;have z0:=zapi (d - 1) (by omega) q.2.2.1 c10;generalize Vd (d - 1) q.2.2.1 c10 = z at *;obtain ⟨-,z1,z2⟩:=z0;rw [hd1] at z2;obtain ⟨t,p2⟩:=z;dsimp only at z1 z2;refine Qx (fun H2=>H2 b = some [.list ys.length (cat cY ys),.int .i64 p2] ∧ H2 qb = some [.int .i64 kk,.int .i64 0,.fr 3 (q.1 ++ [t]).length (cat cX (q.1 ++ [t]))]) ⟨by simp [upd,hbq,zS hbq,ub,uq,zS ub,zS uq],by simp [upd,hbq,zS hbq,ub,uq,zS ub,zS uq,Jk,Zz,cX_eq,li]⟩ fun H2 ⟨y1,y2⟩=>?_)
 | refine Qc (id:=8) Γr_ok [] (by kernel_rfl) ?_;simp [-zg,-zd,↓Qb,↓Qa,go_sem,Qv (x:=q.2.1 - 1) (by omega) (by omega)]
 | refine Qc (id:=10) Γr_ok [] (by kernel_rfl) ?_;simp [-zg,-zd,↓Qb,↓Qa,go_sem,g6]
 | refine Qd (c:=.tmp 13) ?_;simp [-zg,-zd,↓Qb,↓Qa,go_sem];try first | (refine ⟨?_,?_⟩ <;> refine zA ?_) | (refine ⟨fun c13=>?_,fun c13=>?_⟩ <;> (try simp [B_iff,B_not] at c13))
 | refine Qd (c:=.tmp 16) ?_;simp [-zg,-zd,↓Qb,↓Qa,go_sem];try first | (refine ⟨?_,?_⟩ <;> refine zA ?_) | (refine ⟨fun c16=>?_,fun c16=>?_⟩ <;> (try simp [B_iff,B_not] at c16))
 | refine Qd (c:=.tmp 30) ?_;simp [-zg,-zd,↓Qb,↓Qa,go_sem];try first | (refine ⟨?_,?_⟩ <;> refine zA ?_) | (refine ⟨fun c30=>?_,fun c30=>?_⟩ <;> (try simp [B_iff,B_not] at c30))
 | (refine Qe (id:=0) (Qy (ι:=List Tree × Int × Int × Hp) (fun q:List Tree × Int × Int × Hp=>⟨(upd (upd (upd (upd (upd (fun _=>.any) 0 (.ptr b 0)) 1 (.int .i64 d)) 4 (.box [.int .i64 0,.int .i64 0,.nil])) 5 (.ptr qb 0)) 6 (.int .i64 q.2.1)),q.2.2.2⟩) (fun q=>q.2.1 ≤ 2 ∧ (q.1.length:Int) + q.2.1 ≤ 2 ∧ p ≤ q.2.2.1 ∧ (q.2.1 ≤ 2 ∧ q.2.2.1 ≤ p + 3 ∨ q.2.1 ≤ 1 ∧ q.2.2.1 ≤ p + 3 + kR (d.toNat - 1) ∨ q.2.1 ≤ 0 ∧ q.2.2.1 ≤ p + 3 + 2 * kR (d.toNat - 1)) ∧ q.2.2.2 b = some [.list ys.length (cat cY ys),.int .i64 q.2.2.1] ∧ q.2.2.2 qb = some [.int .i64 kk,.int .i64 0,.fr 3 q.1.length (cat cX q.1)]) (fun q=>q.2.1.toNat) (([],aa,p + 1 + 1,H1)) ?_ ?_ ?_);exact ⟨by dsimp only;omega,by simpa using hal,by dsimp only;omega,by dsimp only;omega,by dsimp only;exact w1,by dsimp only;exact w2⟩;((repeat' (first | exact Qg (by assumption) | exact Qi | refine Qf ?_ ?_ | refine Qh ?_)) <;> simp [-zg,-zd,↓Qb,↓Qa,go_sem]);rintro q ⟨g1,g2,g3,g4,g5,g6⟩)
 | (refine ⟨(q.1 ++ [t],q.2.1 - 1,p2,H2),⟨by dsimp only;omega,by simp;omega,by dsimp only;omega,by dsimp only;omega,y1,y2⟩,by first | omega | (simp;done) | (simp;omega),?_⟩;((repeat' (first | exact Qg (by assumption) | exact Qi | refine Qf ?_ ?_ | refine Qh ?_)) <;> simp [-zg,-zd,↓Qb,↓Qa,go_sem,]))
 | (refine Qe ?_)
 | (refine Qs ?_;simp [-zg,-zd,↓Qb,↓Qa,go_sem])
 | (refine Qr ?_;simp [-zg,-zd,↓Qb,↓Qa,go_sem])
 | (refine Qu ?_;try simp [-zg,-zd,↓Qb,↓Qa,go_sem,Try.results220])
 | (intro hx;refine zA ?_)
 | (intro hx;change retR _ _ _ _ _)
 | (refine ⟨?_,?_⟩ <;> refine zA ?_)
 | (intro hx;constructor <;> intro hs)
 | (constructor <;> intro hs)
 | (refine ⟨?_,fun hs=>?_⟩;refine zA ?_)
 | (refine ⟨fun hs=>?_,?_⟩;rotate_left;refine zA ?_;rotate_left)
 | ((fail_if_success change retR _ _ _ _ _);(exfalso;omega))))
  all_goals (first
 | (refine zabm _ _ _ _ (z3) (p + 1) ?_ ?_ ?_ ?_;(first | exact Or.inl rfl | exact Or.inr rfl);(focus (simp [-zg,-zd,↓Qb,↓Qa,go_sem,Try.results220];done));(focus ((trivial);done));(focus (refine ⟨?_,?_⟩ <;> omega)))
 | (refine zabm _ _ _ _ (z3) (p + 1 + 1) ?_ ?_ ?_ ?_;(first | exact Or.inl rfl | exact Or.inr rfl);(focus (simp [-zg,-zd,↓Qb,↓Qa,go_sem,Try.results220];done));(focus ((trivial);done));(focus (refine ⟨?_,?_⟩ <;> omega)))
 | (refine zabm _ _ _ _ (.mk 2 (numI ys (p + 1) [0,1,0,2]) []) (p + 1 + 1) ?_ ?_ ?_ ?_;(first | exact Or.inl rfl | exact Or.inr rfl);(focus (simp [-zg,-zd,↓Qb,↓Qa,go_sem,Try.results220];done));(focus ((trivial);done));(focus (refine ⟨?_,?_⟩ <;> omega)))
 | (refine zabm _ _ _ _ (.mk 2 (numI ys (p + 1 + 1) [0,1,0,2]) []) (p + 1 + 1 + 1) ?_ ?_ ?_ ?_;(first | exact Or.inl rfl | exact Or.inr rfl);(focus (simp [-zg,-zd,↓Qb,↓Qa,go_sem,Try.results220];done));(focus ((trivial);done));(focus (refine ⟨?_,?_⟩ <;> omega)))
 | (refine zabm _ _ _ _ (.mk 2 (numI ys p [0,1,0,2]) []) (p + 1) ?_ ?_ ?_ ?_;(first | exact Or.inl rfl | exact Or.inr rfl);(focus (simp [-zg,-zd,↓Qb,↓Qa,go_sem,Try.results220];done));(focus ((trivial);done));(focus (refine ⟨?_,?_⟩ <;> omega)))
 | (refine zabm _ _ _ _ (.mk kk 0 q.1) (q.2.2.1) ?_ ?_ ?_ ?_;(first | exact Or.inl rfl | exact Or.inr rfl);(focus (simp [-zg,-zd,↓Qb,↓Qa,go_sem,Try.results220,li,dat,Xm,hbq,g5];done));(focus ((trivial);done));(focus (refine ⟨?_,?_⟩ <;> omega)))
 | skip)
theorem l5Random_spec (ys:List UInt8) (p:Int) (b:Nat) (d:Int) (hl:ys.length ≤ 2000) (h0_:0 ≤ p) (hp_:p + (kR d.toNat) ≤ 1000000) (hd:d ≤ 4):SpecR Try.prog 220 [.ptr b 0,.int .i64 d] (one b [li cY ys,.int .i64 p]) (fun c=>((Vt d p c).1.2,one b [li cY ys,.int .i64 (Vt d p c).2])):=l5Random_rec (d.toNat + 1) ys p b d hl h0_ hp_ hd (by omega)
@[go_sem] def l5RandomC:Con:=.rel fun args H=>match args with
  | [.ptr b 0,.int .i64 d]=>match H b with
    | some [.list m cs,.int .i64 p]=>((Is cY m cs) ∧ (m ≤ 2000) ∧ (0 ≤ p) ∧ (p + (kR d.toNat) ≤ 1000000) ∧ (d ≤ 4),fun c=>(Uf (Vd d p c).1,upd H b (some [.list m cs,.int .i64 (Vd d p c).2])))
    | _=>(False,fun _=>(.any,H))
  | _=>(False,fun _=>(.any,H))
theorem l5RandomC_ok:ConOk Try.prog 220 l5RandomC:=by
  refine ⟨Qp Try.func220 (by decide) rfl,fun args H h=>?_⟩
  revert h
  dsimp only
  split
  · split
    · rename_i hH
      intro h
      obtain ⟨⟨ys,rfl,rfl⟩,hl,h0_,hp_,hd⟩:=h
      try simp only [Qm] at *
      exact SpecR.enc ((l5Random_spec ys _ _ _ hl h0_ hp_ hd).frame hH).shut fun c=>Prod.ext (zagl _ hd _ _).2.symm rfl
    · intro h;exact h.elim
  · intro h
    exact h.elim
@[go_sem] def Γy25:FuncId → Con:=ext Γy24 220 l5RandomC
theorem zaia:∀ g,ConOk Try.prog g (Γy25 g):=Qo Γy24_ok l5RandomC_ok

theorem forOk_atom:ForOk (.mk 2 0 []):=by
  refine ⟨⟨by simp [Tree.ks,Tree.k,arF],by simp [Tree.v],by simp [Tree.v],.inl rfl,fun i hi=>by simp [Tree.ks] at hi⟩,?_⟩
  simp [cntT,csum,Tree.ks]
theorem forOk_always:ForOk (.mk 10 0 [.mk 2 0 []]):=by
  refine ⟨⟨by simp [Tree.ks,Tree.k,arF],by simp [Tree.v],by simp [Tree.v],.inr rfl,fun i hi=>?_⟩,?_⟩
  · have:i = 0:=by simp only [Tree.ks,List.length_singleton] at hi;omega
    subst this
    exact ⟨by simp [Tree.ks,Tree.k,arF,nth],by simp [Tree.v,nth,Tree.ks],by simp [Tree.v,nth,Tree.ks],.inl rfl,fun i hi=>by simp [Tree.ks,nth] at hi⟩
  · simp [cntT,csum,Tree.ks]

@[go_sem] def Ur:Tree → D:=sX
theorem l5Formula_flat (x:Tree):dat (Ur x) = Ur x:=by simp [go_sem]
def zabd  : Tree → Prop:=fun x=>ForOk x
def zagm  (x:(Tree) × D):Prop:=zabd x.1 ∧ dat x.2 = Ur x.1
def zaaj  (p:Int) (c:Any):((Tree) × D) × Int:=dsel (zagm) ((.mk 2 0 []:Tree),Ur (.mk 2 0 [])) 100 p c
def Ud  (p:Int) (c:Any):(Tree) × Int:=((zaaj p c).1.1,(zaaj p c).2)
theorem zajw   (p:Int) (c:Any):(zabd (Ud p c).1 ∧ p ≤ (Ud p c).2 ∧ (Ud p c).2 ≤ p + 100) ∧ dat (zaaj p c).1.2 = Ur (Ud p c).1:=by
  have hx:zabd (.mk 2 0 []):=forOk_atom
  have h:=dsel_ok (good:=zagm) (x0:=((.mk 2 0 []:Tree),Ur (.mk 2 0 []))) ⟨hx,l5Formula_flat _⟩ (K:=100) (by omega) (p:=p) c
  exact ⟨⟨h.1.1,h.2.1,h.2.2⟩,h.1.2⟩
theorem l5Formula_ok   (p:Int) (c:Any):zabd (Ud p c).1 ∧ p ≤ (Ud p c).2 ∧ (Ud p c).2 ≤ p + 100:=(zajw  p c).1
theorem zajv  (ys:List UInt8) (p:Int) (b:Nat) {e_:Exit} {S_:St} (x:Tree) (p':Int) (he_:e_ = .ret ∨ e_ = .normal)
    (h1:(Qk Try.prog S_ Try.f184.results.toList).1 ∧ dat (resD (Qk Try.prog S_ Try.f184.results.toList).2.1) = Ur x ∧ (Qk Try.prog S_ Try.f184.results.toList).2.2.H b = some [li cY ys,.int .i64 p']) (hg:zabd x) (h2:p ≤ p' ∧ p' ≤ p + 100) :
    retR Try.prog Try.f184 (fun c=>((zaaj p c).1.2,one b [li cY ys,.int .i64 (zaaj p c).2])) e_ S_ :=
  ret_draw (good:=zagm) (enc:=fun x:(Tree) × D=>x.2) (cells:=fun q=>[li cY ys,.int .i64 q]) (x,resD (Qk Try.prog S_ Try.f184.results.toList).2.1) p' he_ ⟨h1.1,rfl,h1.2.2⟩ ⟨hg,h1.2.1⟩ h2
set_option maxHeartbeats 4000000 in
theorem l5Formula_spec (ys:List UInt8) (p:Int) (b:Nat)  (hl:ys.length ≤ 2000) (h0_:0 ≤ p) (hp_:p + 100 ≤ 1000000)  : SpecR Try.prog 184 [.ptr b 0] (one b [li cY ys,.int .i64 p]) (fun c=>((zaaj p c).1.2,one b [li cY ys,.int .i64 (zaaj p c).2])):=by
  refine SpecR.of_walk Try.func184 rfl (by simp [Try.f184]) fun B=>?_
  have hr:=zadk ys (p:=p) (by omega) (xs:=[3,2,4,3]) (lo:=2) (hi:=4) (by simp) (by simp);have hk:=kR_le (d:=numI ys p [3,2,4,3]) (by omega);have hk0:=kR_nn (numI ys p [3,2,4,3]).toNat
  all_goals (repeat' (first
 | refine Qt ?_
 | refine Qc (id:=0) zaia [] (by kernel_rfl) ?_;simp [-zg,-zd,↓Qb,↓Qa,go_sem]
 | refine Qc (id:=1) zaia [] (by kernel_rfl) ?_;simp [-zg,-zd,↓Qb,↓Qa,go_sem,hl,(show 0 ≤ p by omega),(show p ≤ 1000000 by omega),(show 0 ≤ p + 1 by omega),(show p + 1 ≤ 1000000 by omega),(show 0 ≤ p + 1 + 1 by omega),(show p + 1 + 1 ≤ 1000000 by omega),hr,(show p + 1 + kR (numI ys p [3,2,4,3]).toNat ≤ 1000000 by omega)];try (intro c1;have z0:=zapi (numI ys p [3,2,4,3]) (by omega) (p + 1) c1;generalize Vd (numI ys p [3,2,4,3]) (p + 1) c1 = z at *;obtain ⟨-,z1,z2⟩:=z0;obtain ⟨⟨tk,tv,ts⟩,p2⟩:=z;dsimp only at z1 z2;refine Zr 3 ?_;simp [go_sem])
 | refine Qc (id:=2) zaia [] (by kernel_rfl) ?_;simp [-zg,-zd,↓Qb,↓Qa,go_sem]
 | refine Qc (id:=3) zaia [] (by kernel_rfl) ?_;simp [-zg,-zd,↓Qb,↓Qa,go_sem]
 | refine Qc (id:=4) zaia [] (by kernel_rfl) ?_;simp [-zg,-zd,↓Qb,↓Qa,go_sem]
 | refine Qd (c:=.tmp 10) ?_;simp [-zg,-zd,↓Qb,↓Qa,go_sem];try first | (refine ⟨?_,?_⟩ <;> refine zA ?_) | (refine ⟨fun c10=>?_,fun c10=>?_⟩ <;> (try simp [B_iff,B_not] at c10))
 | (refine Qe ?_)
 | (refine Qs ?_;simp [-zg,-zd,↓Qb,↓Qa,go_sem])
 | (refine Qr ?_;simp [-zg,-zd,↓Qb,↓Qa,go_sem])
 | (refine Qu ?_;try simp [-zg,-zd,↓Qb,↓Qa,go_sem,Try.results184])
 | (intro hx;refine zA ?_)
 | (intro hx;change retR _ _ _ _ _)
 | (refine ⟨?_,?_⟩ <;> refine zA ?_)
 | (intro hx;constructor <;> intro hs)
 | (constructor <;> intro hs)
 | (refine ⟨?_,fun hs=>?_⟩;refine zA ?_)
 | (refine ⟨fun hs=>?_,?_⟩;rotate_left;refine zA ?_;rotate_left)))
  all_goals (first
 | (refine zajv _ _ _ (.mk tk tv ts) (p2) ?_ ?_ ?_ ?_;(first | exact Or.inl rfl | exact Or.inr rfl);(focus (simp [-zg,-zd,↓Qb,↓Qa,go_sem,Try.results184,li,dat,Xm];done));(focus ((assumption);done));(focus (refine ⟨?_,?_⟩ <;> omega)))
 | (refine zajv _ _ _ (.mk 10 0 [.mk 2 0 []]) (p2) ?_ ?_ ?_ ?_;(first | exact Or.inl rfl | exact Or.inr rfl);(focus (simp [-zg,-zd,↓Qb,↓Qa,go_sem,Try.results184,li,Xj,cX_mk,dat,datL,Xm,Xs];done));(focus ((exact forOk_always);done));(focus (refine ⟨?_,?_⟩ <;> omega)))
 | skip)
@[go_sem] def zamx:Con:=.rel fun args H=>match args with
  | [.ptr b 0]=>match H b with
    | some [.list m cs,.int .i64 p]=>((Is cY m cs) ∧ (m ≤ 2000) ∧ (0 ≤ p) ∧ (p + 100 ≤ 1000000),fun c=>(Ur (Ud p c).1,upd H b (some [.list m cs,.int .i64 (Ud p c).2])))
    | _=>(False,fun _=>(.any,H))
  | _=>(False,fun _=>(.any,H))
theorem l5FormulaC_ok:ConOk Try.prog 184 zamx:=by
  refine ⟨Qp Try.func184 (by decide) rfl,fun args H h=>?_⟩
  revert h
  dsimp only
  split
  · split
    · rename_i hH
      intro h
      obtain ⟨⟨ys,rfl,rfl⟩,hl,h0_,hp_⟩:=h
      try simp only [Qm] at *
      exact SpecR.enc ((l5Formula_spec ys _ _ hl h0_ hp_ ).frame hH).shut fun c=>Prod.ext (zajw  _ _).2.symm rfl
    · intro h;exact h.elim
  · intro h
    exact h.elim
@[go_sem] def Γy26:FuncId → Con:=ext Γy25 184 zamx
theorem Zj:∀ g,ConOk Try.prog g (Γy26 g):=Qo zaia l5FormulaC_ok


theorem bitsA_le (x y:Int):bitsD .and .i64 x y ≤ 9223372036854775807:=by
  show IntKind.i64.wrap _ ≤ _
  unfold IntKind.wrap;simp [IntKind.bits,IntKind.signed];split <;> omega
abbrev Au:=List Int × List Bool × List Tr4
@[go_sem] def sA (x:Au):D:=.st [li cI x.1,li cB x.2.1,li cT x.2.2]
def AuS (x:Au):Prop:=x.1.length ≤ 5000 ∧ x.2.1.length ≤ 5000 ∧ x.2.2.length ≤ 5000 ∧ SmallT x.2.2
theorem AuS.nil:AuS ([],[],[]):=⟨by simp,by simp,by simp,SmallT.nil⟩
structure LA where
  k:Nat
  js:List Int
  qs:List Bool
  q:Int
  H:Hp
def LA1 (b ab yb:Nat) (ys:List UInt8) (n1 cy jy:Nat) (p0:Int) (q:LA):Prop:=q.k ≤ n1 ∧ q.js.length ≤ q.k ∧ q.qs.length = n1 ∧ p0 + 1 ≤ q.q ∧ q.q ≤ p0 + 1 + 3 * q.k ∧ q.H b = some [.list ys.length (cat cY ys),.int .i64 (q.q)] ∧ q.H ab = some [.fr 1 q.js.length (cat cI q.js),.sl yb 1 0 n1 cy,.fr 4 0 []] ∧ q.H yb = some (cat cB q.qs ++ zrP jy .any)
def LB (b ab yb:Nat) (ys:List UInt8) (n1 cy jy:Nat) (p0:Int) (q:LA):Prop:=q.k < n1 ∧ q.js.length ≤ q.k ∧ q.qs.length = n1 ∧ p0 + 1 ≤ q.q ∧ q.q ≤ p0 + 1 + 3 * q.k + 3 ∧ q.H b = some [.list ys.length (cat cY ys),.int .i64 (q.q)] ∧ q.H ab = some [.fr 1 q.js.length (cat cI q.js),.sl yb 1 0 n1 cy,.fr 4 0 []] ∧ q.H yb = some (cat cB q.qs ++ zrP jy .any)
theorem LB.skip {b ab yb:Nat} {ys:List UInt8} {n1 cy jy:Nat} {p0:Int} {k:Nat} {js:List Int} {qs:List Bool} {q2:Int} {H:Hp} (h:LB b ab yb ys n1 cy jy p0 ⟨k,js,qs,q2,H⟩):LA1 b ab yb ys n1 cy jy p0 ⟨k + 1,js,qs,q2,H⟩:=by
  obtain ⟨h1,h2,h3,h4,h5,h6,h7,h8⟩:=h
  dsimp only at h1 h2 h3 h4 h5 h6 h7 h8
  exact ⟨by dsimp only;omega,by dsimp only;omega,h3,h4,by dsimp only;omega,h6,h7,h8⟩
def MA (b:Nat) (ys:List UInt8) (p:Int) (S:St):Prop:=∃ p0:Int,p + 1 ≤ p0 ∧ p0 ≤ p + 101 ∧ S.T 0 = .ptr b 0 ∧ S.T 2 = .box [.nil,.nil,.nil] ∧ S.H b = some [.list ys.length (cat cY ys),.int .i64 p0]
theorem MA.sub {b:Nat} {ys:List UInt8} {p0:Int} {S:St} (h0:S.T 0 = .ptr b 0) (h2:S.T 2 = .box [.nil,.nil,.nil]) (h3:S.H b = some [.list ys.length (cat cY ys),.int .i64 p0]):Sub S ⟨upd (upd (fun _=>.any) 0 (.ptr b 0)) 2 (.box [.nil,.nil,.nil]),upd (fun _=>none) b (some [.list ys.length (cat cY ys),.int .i64 p0])⟩ :=
  Qf (Qf (Qg fun b' cs h=>by
    by_cases e:b' = b
    · subst e;rw [Qw] at h;rw [h3];exact h
    · rw [Qq e] at h;cases h) h0) h2
theorem AW_merge {P:Program} {B:Base} {n:Nat} {S:St} {c:Code} {K:St → Prop} {Q:Exit → St → Prop} (M:St → Prop) (h1:AW P B n c (Exit.thenA M Q) S) (h2:∀ S',M S' → K S'):AW P B n c (Exit.thenA K Q) S :=
  AW_mono h1 fun e S' hq=>by
    cases e with
    | normal=>exact h2 S' hq
    | _=>exact hq
structure LE where
  es:List Tr4
  m:Int
  q:Int
  H:Hp
def LE2 (b ab yb:Nat) (ys:List UInt8) (n1 cy jy:Nat) (q0:Int) (js:List Int) (qs:List Bool) (r:LE):Prop:=(0 ≤ r.m ∧ r.m ≤ 10) ∧ (r.es.length:Int) + r.m ≤ 10 ∧ SmallT r.es ∧ q0 + 1 ≤ r.q ∧ r.q ≤ q0 + 1 + 4 * (10 - r.m) ∧ r.H b = some [.list ys.length (cat cY ys),.int .i64 (r.q)] ∧ r.H ab = some [.fr 1 js.length (cat cI js),.sl yb 1 0 n1 cy,.fr 4 r.es.length (cat cT r.es)] ∧ r.H yb = some (cat cB qs ++ zrP jy .any)
theorem AW_boxNilM {P:Program} {B:Base} {n:Nat} {S:St} {c:Code} {Q:Exit → St → Prop} (t:Nat) {d:D} (hT:S.T t = .box [.nil,d,.nil]) (h:AW P B n c Q ⟨upd S.T t (.box [.fr 1 0 [],d,.fr 4 0 []]),S.H⟩):AW P B n c Q S :=
  AW_rebox t hT (fun μ I w vs f hr=>by
    simp only [RepL] at hr ⊢
    obtain ⟨v,vs',f1,f2,e1,e2,r1,v2,vs2,g1,g2,e3,e4,r2,v3,vs3,g3,g4,e5,e6,r3,r4⟩:=hr
    exact ⟨v,vs',f1,f2,e1,e2,zadj r1,v2,vs2,g1,g2,e3,e4,r2,v3,vs3,g3,g4,e5,e6,zadj r3,r4⟩) (fun N hb=>by simp only [bndL,bnd] at hb ⊢;exact ⟨trivial,hb.2.1,trivial,trivial⟩) h

@[go_sem] def Uq:Au → D:=sA
theorem zamt (x:Au):dat (Uq x) = Uq x:=by simp [go_sem]
def zaap  : Au → Prop:=fun x=>AuS x
def zady  (x:(Au) × D):Prop:=zaap x.1 ∧ dat x.2 = Uq x.1
def zaac  (p:Int) (c:Any):((Au) × D) × Int:=dsel (zady) ((([],[],[]):Au),Uq (([],[],[]))) 300 p c
def Zs  (p:Int) (c:Any):(Au) × Int:=((zaac p c).1.1,(zaac p c).2)
theorem zafx   (p:Int) (c:Any):(zaap (Zs p c).1 ∧ p ≤ (Zs p c).2 ∧ (Zs p c).2 ≤ p + 300) ∧ dat (zaac p c).1.2 = Uq (Zs p c).1:=by
  have hx:zaap (([],[],[])):=AuS.nil
  have h:=dsel_ok (good:=zady) (x0:=((([],[],[]):Au),Uq (([],[],[])))) ⟨hx,zamt _⟩ (K:=300) (by omega) (p:=p) c
  exact ⟨⟨h.1.1,h.2.1,h.2.2⟩,h.1.2⟩
theorem l7Automaton_ok   (p:Int) (c:Any):zaap (Zs p c).1 ∧ p ≤ (Zs p c).2 ∧ (Zs p c).2 ≤ p + 300:=(zafx  p c).1
theorem zafw  (ys:List UInt8) (p:Int) (b:Nat) {e_:Exit} {S_:St} (x:Au) (p':Int) (he_:e_ = .ret ∨ e_ = .normal)
    (h1:(Qk Try.prog S_ Try.f131.results.toList).1 ∧ dat (resD (Qk Try.prog S_ Try.f131.results.toList).2.1) = Uq x ∧ (Qk Try.prog S_ Try.f131.results.toList).2.2.H b = some [li cY ys,.int .i64 p']) (hg:zaap x) (h2:p ≤ p' ∧ p' ≤ p + 300) :
    retR Try.prog Try.f131 (fun c=>((zaac p c).1.2,one b [li cY ys,.int .i64 (zaac p c).2])) e_ S_ :=
  ret_draw (good:=zady) (enc:=fun x:(Au) × D=>x.2) (cells:=fun q=>[li cY ys,.int .i64 q]) (x,resD (Qk Try.prog S_ Try.f131.results.toList).2.1) p' he_ ⟨h1.1,rfl,h1.2.2⟩ ⟨hg,h1.2.1⟩ h2
set_option maxHeartbeats 16000000 in
theorem zams (ys:List UInt8) (p:Int) (b:Nat)  (hl:ys.length ≤ 2000) (h0_:0 ≤ p) (hp_:p + 300 ≤ 1000000)  : SpecR Try.prog 131 [.ptr b 0] (one b [li cY ys,.int .i64 p]) (fun c=>((zaac p c).1.2,one b [li cY ys,.int .i64 (zaac p c).2])):=by
  refine SpecR.of_walk Try.func131 rfl (by simp [Try.f131]) fun B=>?_
  (repeat' (first
 | refine Qt ?_
 | refine Qc (id:=0) Zj [] (by kernel_rfl) ?_;simp [-zg,-zd,↓Qb,↓Qa,go_sem]
 | refine Qc (id:=1) Zj [] (by kernel_rfl) ?_;simp [-zg,-zd,↓Qb,↓Qa,go_sem,hl,(show 0 ≤ p by omega),(show p ≤ 1000000 by omega),(show 0 ≤ p + 1 by omega),(show p + 1 ≤ 1000000 by omega)];try ((refine AW_merge (MA b ys p) ?_ fun S' hM=>?_;rotate_left;(obtain ⟨p0,hq1,hq2,h0,h2,h3⟩:=hM;refine AW_less (S':=⟨upd (upd (fun _=>.any) 0 (.ptr b 0)) 2 (.box [.nil,.nil,.nil]),upd (fun _=>none) b (some [.list ys.length (cat cY ys),.int .i64 p0])⟩) (MA.sub h0 h2 h3) ?_)))
 | refine Qc (id:=2) Zj [] (by kernel_rfl) ?_;simp [-zg,-zd,↓Qb,↓Qa,go_sem,hl,(show 0 ≤ p + 1 by omega),(show p + 1 ≤ 1000000 by omega),(show 0 ≤ p + 1 + 1 by omega),(show p + 1 + 1 ≤ 1000000 by omega),(show p + 1 + 100 ≤ 1000000 by omega)];try ((intro c2 c2');(have z0:=l5Formula_ok (p + 1) c2);(generalize Ud (p + 1) c2 = z at *);(obtain ⟨z1,z2,z3⟩:=z0);(obtain ⟨⟨fk,fv,fs⟩,p2⟩:=z);(dsimp only at z1 z2 z3);(simp only [Tree.k_mk,Tree.v_mk,Tree.ks_mk]);(have y0:=zahv fk fv fs c2');(generalize zaax fk fv fs c2' = y at *);(obtain ⟨⟨xa,xb,xc⟩,okt⟩:=y);(simp only [zaab] at y0);(obtain ⟨y1,y2,y3,y4⟩:=y0);(refine Zr 3 ?_);(simp [go_sem]))
 | refine Qc (id:=3) Zj [20] (by kernel_rfl) ?_;simp [-zg,-zd,↓Qb,↓Qa,go_sem];try (refine ⟨fun s3a=>?_,fun s3a=>?_⟩ <;> (try simp [B_iff,B_not] at s3a) <;> try (refine ⟨fun s3b=>?_,fun s3b=>?_⟩ <;> (try simp [B_iff,B_not] at s3b)))
 | refine Qc (id:=4) Zj [] (by kernel_rfl) ?_;simp [-zg,-zd,↓Qb,↓Qa,go_sem]
 | refine Qc (id:=5) Zj [] (by kernel_rfl) ?_;simp [-zg,-zd,↓Qb,↓Qa,go_sem,hl,(show 0 ≤ p0 by omega),(show p0 ≤ 1000000 by omega),(show 0 ≤ p0 + 1 by omega),(show p0 + 1 ≤ 1000000 by omega)];try ((have hr:=zadk ys (p:=p0) (by omega) (xs:=[3,2,4,1,5]) (lo:=1) (hi:=5) (by simp) (by simp));(generalize numI ys p0 [3,2,4,1,5] = nn at *);(obtain ⟨n1,hn1⟩:∃ n1:Nat,nn = (n1:Int):=⟨nn.toNat,by omega⟩);(subst hn1))
 | refine Qc (id:=6) Zj [] (by kernel_rfl) ?_;simp [-zg,-zd,↓Qb,↓Qa,go_sem,Yk,(by omega:(n1:Int) ≤ 281474976710656),(by omega:(n1:Int) ≤ 9223372036854775807),(by omega:(0:Int) ≤ (n1:Int))];try ((refine AW_boxNilM 6 rfl ?_);(refine Zi 6 rfl fun ab hab=>?_);(have nba:¬ b = ab:=(by rintro rfl;simp [upd] at hab));(clear hab);(refine Zu ab 1 (all:=[.fr 1 0 [],.fr 1 n1 (cat cB (zrP n1 false)),.fr 4 0 []]) (by simp [upd]) rfl fun yb cy jy hyb hcy hdy=>?_);(have nby:¬ b = yb:=(by rintro rfl;simp [upd,nba] at hyb));(have nay:¬ ab = yb:=(by rintro rfl;simp [upd] at hyb));(clear hyb);(refine Qx (fun H1=>LA1 b ab yb ys n1 cy jy p0 ⟨0,[],zrP n1 false,p0 + 1,H1⟩) ⟨Nat.zero_le _,Nat.le_refl _,by simp,by dsimp only;omega,by dsimp only;omega,by simp [upd,nba,zS nba,nby,zS nby,nay,zS nay],by simp [upd,nba,zS nba,nby,zS nby,nay,zS nay,Xs],by simp [upd]⟩ fun H2 hL=>?_))
 | refine Qc (id:=7) Zj [] (by kernel_rfl) ?_;simp [-zg,-zd,↓Qb,↓Qa,go_sem]
 | ((obtain ⟨g1,g2,g3,g4,g5,g6,g7,g8⟩:=id hq));refine Qc (id:=8) Zj [] (by kernel_rfl) ?_;simp [-zg,-zd,↓Qb,↓Qa,go_sem]
 | refine Xx (id:=10) Zj mixed [(ab,[.fr 1 q.js.length (cat cI q.js),.sl yb 1 0 n1 cy,.fr 4 0 []])] [] [] (by kernel_rfl) (by kernel_rfl) (by simp [-zg,-zd,↓Qb,↓Qa,go_sem,g6,g7,g8,hl,nba,zS nba,nby,zS nby,nay,zS nay,(show 0 ≤ q.q by omega),(show q.q ≤ 1000000 by omega),(show 0 ≤ q.q + 1 by omega),(show q.q + 1 ≤ 1000000 by omega),(show q.k < n1 by omega),(show q.k < n1 + jy by omega),(show q.k + 1 ≤ n1 + jy by omega),(show q.k < q.qs.length by omega),g3]) (by simp [-zg,-zd,↓Qb,↓Qa,go_sem,g6,g7,g8,hl,nba,zS nba,nby,zS nby,nay,zS nay,(show 0 ≤ q.q by omega),(show q.q ≤ 1000000 by omega),(show 0 ≤ q.q + 1 by omega),(show q.q + 1 ≤ 1000000 by omega),(show q.k < n1 by omega),(show q.k < n1 + jy by omega),(show q.k + 1 ≤ n1 + jy by omega),(show q.k < q.qs.length by omega),g3]) ?_;simp [-zg,-zd,↓Qb,↓Qa,go_sem,g6,g7,g8,hl,nba,zS nba,nby,zS nby,nay,zS nay,(show 0 ≤ q.q by omega),(show q.q ≤ 1000000 by omega),(show 0 ≤ q.q + 1 by omega),(show q.q + 1 ≤ 1000000 by omega),(show q.k < n1 by omega),(show q.k < n1 + jy by omega),(show q.k + 1 ≤ n1 + jy by omega),(show q.k < q.qs.length by omega),g3];try ((generalize decide (pkI ys q.q 3 = 0) = ac at *);(refine Qx (fun H1=>H1 b = some [.list ys.length (cat cY ys),.int .i64 (q.q + 1)] ∧ H1 ab = some [.fr 1 q.js.length (cat cI q.js),.sl yb 1 0 n1 cy,.fr 4 0 []] ∧ H1 yb = some (cat cB (q.qs.set q.k ac) ++ zrP jy .any)) ⟨by simp [upd,nba,zS nba,nby,zS nby,nay,zS nay],by simp [upd,nba,zS nba,nby,zS nby,nay,zS nay,g7],by simp [upd,nba,zS nba,nby,zS nby,nay,zS nay]⟩ fun H2 ⟨v1,v2,v3⟩=>?_))
 | refine Qc (id:=11) Zj [47,52] (by kernel_rfl) ?_;simp [-zg,-zd,↓Qb,↓Qa,go_sem,v1,hl,(show 0 ≤ q.q + 1 by omega),(show q.q + 1 ≤ 1000000 by omega),(show 0 ≤ q.q + 1 + 1 by omega),(show q.q + 1 + 1 ≤ 1000000 by omega),(show 0 ≤ q.q + 1 + 1 + 1 by omega),(show q.q + 1 + 1 + 1 ≤ 1000000 by omega)];try (refine ⟨fun s11a=>?_,fun s11a=>?_⟩ <;> (try simp [B_iff,B_not] at s11a) <;> try (refine ⟨fun s11b=>?_,fun s11b=>?_⟩ <;> (try simp [B_iff,B_not] at s11b) <;> try (refine ⟨fun s11c=>?_,fun s11c=>?_⟩ <;> (try simp [B_iff,B_not] at s11c))))
 | (first | (refine Qx (fun H1=>LB b ab yb ys n1 cy jy p0 ⟨q.k,q.js,q.qs.set q.k ac,q.q + 1 + 1 + 1,H1⟩) ?_ fun H3 hB=>?_;(focus (refine ⟨?_,?_,?_,?_,?_,?_,?_,?_⟩ <;> first | omega | (dsimp only;omega) | (simp;done) | (simp;omega) | (simp [upd,nba,zS nba,nby,zS nby,nay,zS nay,v1,v2,v3];done)));obtain ⟨q2,hq2⟩:∃ x,q.q + 1 + 1 + 1 = x:=⟨_,rfl⟩;rw [hq2] at hB) | (refine Qx (fun H1=>LB b ab yb ys n1 cy jy p0 ⟨q.k,q.js,q.qs.set q.k ac,q.q + 1 + 1,H1⟩) ?_ fun H3 hB=>?_;(focus (refine ⟨?_,?_,?_,?_,?_,?_,?_,?_⟩ <;> first | omega | (dsimp only;omega) | (simp;done) | (simp;omega) | (simp [upd,nba,zS nba,nby,zS nby,nay,zS nay,v1,v2,v3];done)));obtain ⟨q2,hq2⟩:∃ x,q.q + 1 + 1 = x:=⟨_,rfl⟩;rw [hq2] at hB) | (refine Qx (fun H1=>LB b ab yb ys n1 cy jy p0 ⟨q.k,q.js,q.qs.set q.k ac,q.q + 1,H1⟩) ?_ fun H3 hB=>?_;(focus (refine ⟨?_,?_,?_,?_,?_,?_,?_,?_⟩ <;> first | omega | (dsimp only;omega) | (simp;done) | (simp;omega) | (simp [upd,nba,zS nba,nby,zS nby,nay,zS nay,v1,v2,v3];done)));obtain ⟨q2,hq2⟩:∃ x,q.q + 1 = x:=⟨_,rfl⟩;rw [hq2] at hB));refine Qc (id:=12) Zj [] (by kernel_rfl) ?_;simp [-zg,-zd,↓Qb,↓Qa,go_sem,(show H3 ab = some [.fr 1 q.js.length (cat cI q.js),.sl yb 1 0 n1 cy,.fr 4 0 []] from hB.2.2.2.2.2.2.1),(show q.js.length ≤ 9223372036854775806 by omega),(show 2 * (q.js.length + 1) * 8 ≤ 281474976710656 by omega),Xv];try ((refine Qx (fun H1=>LA1 b ab yb ys n1 cy jy p0 ⟨q.k + 1,q.js ++ [(q.k:Int)],q.qs.set q.k ac,q2,H1⟩) ⟨by have:=hB.1;dsimp only;omega,by simp;omega,hB.2.2.1,by have:=hB.2.2.2.1;dsimp only at this ⊢;omega,by have:=hB.2.2.2.2.1;dsimp only at this ⊢;omega,by have:=hB.2.2.2.2.2.1;simpa [upd,nba,zS nba,nby,zS nby,nay,zS nay] using this,by simp [upd],by have:=hB.2.2.2.2.2.2.2;simpa [upd,nba,zS nba,nby,zS nby,nay,zS nay] using this⟩ fun H4 hz=>?_);(obtain ⟨zz,hzz⟩:∃ zz:LA,zz = ⟨q.k + 1,q.js ++ [(q.k:Int)],q.qs.set q.k ac,q2,H4⟩:=⟨_,rfl⟩);(rw [← hzz] at hz);(have z1:(q.k:Int) + 1 = (zz.k:Int):=(by rw [hzz];dsimp only;omega));(have z4:H4 = zz.H:=(by rw [hzz]));(rw [z4]);(clear hzz hB))
 | (first | (have z9:=z1) | ((first | (refine Qx (fun H1=>LB b ab yb ys n1 cy jy p0 ⟨q.k,q.js,q.qs.set q.k ac,q.q + 1 + 1 + 1,H1⟩) ?_ fun H3 hB=>?_;(focus (refine ⟨?_,?_,?_,?_,?_,?_,?_,?_⟩ <;> first | omega | (dsimp only;omega) | (simp;done) | (simp;omega) | (simp [upd,nba,zS nba,nby,zS nby,nay,zS nay,v1,v2,v3];done)));obtain ⟨q2,hq2⟩:∃ x,q.q + 1 + 1 + 1 = x:=⟨_,rfl⟩;rw [hq2] at hB) | (refine Qx (fun H1=>LB b ab yb ys n1 cy jy p0 ⟨q.k,q.js,q.qs.set q.k ac,q.q + 1 + 1,H1⟩) ?_ fun H3 hB=>?_;(focus (refine ⟨?_,?_,?_,?_,?_,?_,?_,?_⟩ <;> first | omega | (dsimp only;omega) | (simp;done) | (simp;omega) | (simp [upd,nba,zS nba,nby,zS nby,nay,zS nay,v1,v2,v3];done)));obtain ⟨q2,hq2⟩:∃ x,q.q + 1 + 1 = x:=⟨_,rfl⟩;rw [hq2] at hB) | (refine Qx (fun H1=>LB b ab yb ys n1 cy jy p0 ⟨q.k,q.js,q.qs.set q.k ac,q.q + 1,H1⟩) ?_ fun H3 hB=>?_;(focus (refine ⟨?_,?_,?_,?_,?_,?_,?_,?_⟩ <;> first | omega | (dsimp only;omega) | (simp;done) | (simp;omega) | (simp [upd,nba,zS nba,nby,zS nby,nay,zS nay,v1,v2,v3];done)));obtain ⟨q2,hq2⟩:∃ x,q.q + 1 = x:=⟨_,rfl⟩;rw [hq2] at hB));(obtain ⟨zz,hzz⟩:∃ zz:LA,zz = ⟨q.k + 1,q.js,q.qs.set q.k ac,q2,H3⟩:=⟨_,rfl⟩);(have hz:LA1 b ab yb ys n1 cy jy p0 zz:=(by rw [hzz];exact hB.skip));(have z1:(q.k:Int) + 1 = (zz.k:Int):=(by rw [hzz];dsimp only;omega));(have z4:H3 = zz.H:=(by rw [hzz]));(rw [z4]);(clear hzz hB)));refine Qc (id:=9) Zj [] (by kernel_rfl) ?_;simp [-zg,-zd,↓Qb,↓Qa,go_sem,wrapS (k:=q.k) (by omega)]
 | ((obtain ⟨g1,g2,g3,g4,g5,g6,g7,g8⟩:=hq));refine Qc (id:=13) Zj [] (by kernel_rfl) ?_;simp [-zg,-zd,↓Qb,↓Qa,go_sem,g6,hl,(show 0 ≤ q.q by omega),(show q.q ≤ 1000000 by omega),(show 0 ≤ q.q + 1 by omega),(show q.q + 1 ≤ 1000000 by omega)];try ((have hr2:=zadk ys (p:=q.q) (by omega) (xs:=[6,4,8,3,10]) (lo:=3) (hi:=10) (by simp) (by simp));(generalize numI ys q.q [6,4,8,3,10] = mm at *);(refine Qx (fun H1=>LE2 b ab yb ys n1 cy jy q.q q.js q.qs ⟨[],mm,q.q + 1,H1⟩) ⟨by dsimp only;omega,by simp;omega,SmallT.nil,by dsimp only;omega,by dsimp only;omega,by simp [upd,nba,zS nba,nby,zS nby,nay,zS nay],by simp [upd,nba,zS nba,nby,zS nby,nay,zS nay,g7,Xs],by simp [upd,nba,zS nba,nby,zS nby,nay,zS nay,g8]⟩ fun H2 hE=>?_))
 | ((obtain ⟨e1,e2,e3,e4,e5,e6,e7,e8⟩:=id hr));refine Qc (id:=14) Zj [] (by kernel_rfl) ?_;simp [-zg,-zd,↓Qb,↓Qa,go_sem]
 | refine Qc (id:=16) Zj [] (by kernel_rfl) ?_;simp [-zg,-zd,↓Qb,↓Qa,go_sem,e6,hl,(show 0 ≤ r.q by omega),(show r.q ≤ 1000000 by omega),(show 0 ≤ r.q + 1 by omega),(show r.q + 1 ≤ 1000000 by omega)];try ((generalize numI ys r.q [1,3,0,2,7] = care at *);(refine Qx (fun H1=>H1 b = some [.list ys.length (cat cY ys),.int .i64 (r.q + 1)] ∧ H1 ab = some [.fr 1 q.js.length (cat cI q.js),.sl yb 1 0 n1 cy,.fr 4 r.es.length (cat cT r.es)] ∧ H1 yb = some (cat cB q.qs ++ zrP jy .any)) ⟨by simp [upd,nba,zS nba,nby,zS nby,nay,zS nay],by simp [upd,nba,zS nba,nby,zS nby,nay,zS nay,e7],by simp [upd,nba,zS nba,nby,zS nby,nay,zS nay,e8]⟩ fun H3 ⟨v1,v2,v3⟩=>?_))
 | ((refine Zu ab 2 (all:=[.fr 1 q.js.length (cat cI q.js),.sl yb 1 0 n1 cy,.fr 4 r.es.length (cat cT r.es)]) v2 rfl fun zb cz jz hzb hcz hdz=>?_);(have nbz:¬ b = zb:=(by rintro rfl;simp [upd,nba,v1] at hzb));(have naz:¬ ab = zb:=(by rintro rfl;simp [upd,v2] at hzb));(have nyz:¬ yb = zb:=(by rintro rfl;simp [upd,v3,zS nay] at hzb));(clear hzb));refine Xx (id:=17) Zj mixed [(ab,[.fr 1 q.js.length (cat cI q.js),.sl yb 1 0 n1 cy,.sl zb 4 0 r.es.length cz])] [] [0,9,5] (by kernel_rfl) (by kernel_rfl) (by simp [-zg,-zd,↓Qb,↓Qa,go_sem,v1,hl,nba,zS nba,nby,zS nby,nay,zS nay,nbz,zS nbz,naz,zS naz,nyz,zS nyz,(show 0 ≤ r.q + 1 by omega),(show r.q + 1 ≤ 1000000 by omega),(show 0 ≤ r.q + 1 + 1 by omega),(show r.q + 1 + 1 ≤ 1000000 by omega),(show 0 ≤ r.q + 1 + 1 + 1 by omega),(show r.q + 1 + 1 + 1 ≤ 1000000 by omega),(show 0 ≤ r.q + 1 + 1 + 1 + 1 by omega),(show r.q + 1 + 1 + 1 + 1 ≤ 1000000 by omega),(show (n1:Int) ≤ 1000000 by omega),(show r.es.length ≤ 9223372036854775806 by omega),(show 2 * (r.es.length + 1) * 32 ≤ 281474976710656 by omega),hdz]) (by simp [-zg,-zd,↓Qb,↓Qa,go_sem,v1,hl,nba,zS nba,nby,zS nby,nay,zS nay,nbz,zS nbz,naz,zS naz,nyz,zS nyz,(show 0 ≤ r.q + 1 by omega),(show r.q + 1 ≤ 1000000 by omega),(show 0 ≤ r.q + 1 + 1 by omega),(show r.q + 1 + 1 ≤ 1000000 by omega),(show 0 ≤ r.q + 1 + 1 + 1 by omega),(show r.q + 1 + 1 + 1 ≤ 1000000 by omega),(show 0 ≤ r.q + 1 + 1 + 1 + 1 by omega),(show r.q + 1 + 1 + 1 + 1 ≤ 1000000 by omega),(show (n1:Int) ≤ 1000000 by omega),(show r.es.length ≤ 9223372036854775806 by omega),(show 2 * (r.es.length + 1) * 32 ≤ 281474976710656 by omega),hdz]) ?_;simp [-zg,-zd,↓Qb,↓Qa,go_sem,v1,hl,nba,zS nba,nby,zS nby,nay,zS nay,nbz,zS nbz,naz,zS naz,nyz,zS nyz,(show 0 ≤ r.q + 1 by omega),(show r.q + 1 ≤ 1000000 by omega),(show 0 ≤ r.q + 1 + 1 by omega),(show r.q + 1 + 1 ≤ 1000000 by omega),(show 0 ≤ r.q + 1 + 1 + 1 by omega),(show r.q + 1 + 1 + 1 ≤ 1000000 by omega),(show 0 ≤ r.q + 1 + 1 + 1 + 1 by omega),(show r.q + 1 + 1 + 1 + 1 ≤ 1000000 by omega),(show (n1:Int) ≤ 1000000 by omega),(show r.es.length ≤ 9223372036854775806 by omega),(show 2 * (r.es.length + 1) * 32 ≤ 281474976710656 by omega),hdz];try ((have hsm:bitsD .and .i64 (pkI ys (r.q + 1 + 1) 8) care ≤ 9223372036854775807:=bitsA_le _ _);(refine Qx (fun H1=>LE2 b ab yb ys n1 cy jy q.q q.js q.qs ⟨r.es ++ [(pkI ys (r.q + 1) n1,care,bitsD .and .i64 (pkI ys (r.q + 1 + 1) 8) care,pkI ys (r.q + 1 + 1 + 1) n1)],r.m - 1,r.q + 1 + 1 + 1 + 1,H1⟩) ⟨by dsimp only;omega,by simp;omega,e3.snoc hsm,by dsimp only;omega,by dsimp only;omega,by simp [upd,nba,zS nba,nby,zS nby,nay,zS nay,nbz,zS nbz,naz,zS naz],by simp [upd,nba,zS nba,nby,zS nby,nay,zS nay,nbz,zS nbz,naz,zS naz,snoc_cT],by simp [upd,nba,zS nba,nby,zS nby,nay,zS nay,nbz,zS nbz,naz,zS naz,nyz,zS nyz,v3]⟩ fun H4 hE4=>?_);(generalize ((pkI ys (r.q + 1) n1,care,bitsD .and .i64 (pkI ys (r.q + 1 + 1) 8) care,pkI ys (r.q + 1 + 1 + 1) n1):Tr4) = ed at *))
 | refine Qc (id:=15) Zj [] (by kernel_rfl) ?_;simp [-zg,-zd,↓Qb,↓Qa,go_sem,Qv (x:=r.m - 1) (by omega) (by omega)]
 | ((obtain ⟨e1,e2,e3,e4,e5,e6,e7,e8⟩:=hr);(refine Vu ab 1 (b':=yb) (sz:=1) (m:=n1) (cp:=cy) (all:=[.fr 1 q.js.length (cat cI q.js),.sl yb 1 0 n1 cy,.fr 4 r.es.length (cat cT r.es)]) (cs:=cat cB q.qs ++ zrP jy .any) e7 rfl nay e8 (by omega) (by simp [Qz];omega) (by simp [Qz];omega) ?_);(simp only [Nat.mul_one,Jt (f:=cB) q.qs (zrP jy D.any) (n:=n1) g3.symm]));refine Qc (id:=18) Zj [] (by kernel_rfl) ?_;simp [-zg,-zd,↓Qb,↓Qa,go_sem,nba,zS nba,nby,zS nby,nay,zS nay]
 | refine Qd (c:=.tmp 12) ?_;simp [-zg,-zd,↓Qb,↓Qa,go_sem];try first | (refine ⟨?_,?_⟩ <;> refine zA ?_) | (refine ⟨fun c12=>?_,fun c12=>?_⟩ <;> (try simp [B_iff,B_not] at c12))
 | refine Qd (c:=.tmp 25) ?_;simp [-zg,-zd,↓Qb,↓Qa,go_sem];try first | (refine ⟨?_,?_⟩ <;> refine zA ?_) | (refine ⟨fun c25=>?_,fun c25=>?_⟩ <;> (try simp [B_iff,B_not] at c25))
 | refine Qd (c:=.tmp 35) ?_;simp [-zg,-zd,↓Qb,↓Qa,go_sem];try first | (refine ⟨?_,?_⟩ <;> refine zA ?_) | (refine ⟨fun c35=>?_,fun c35=>?_⟩ <;> (try simp [B_iff,B_not] at c35))
 | refine Qd (c:=.tmp 56) ?_;simp [-zg,-zd,↓Qb,↓Qa,go_sem];try first | (refine ⟨?_,?_⟩ <;> refine zA ?_) | (refine ⟨fun c56=>?_,fun c56=>?_⟩ <;> (try simp [B_iff,B_not] at c56))
 | refine Qd (c:=.tmp 67) ?_;simp [-zg,-zd,↓Qb,↓Qa,go_sem];try first | (refine ⟨?_,?_⟩ <;> refine zA ?_) | (refine ⟨fun c67=>?_,fun c67=>?_⟩ <;> (try simp [B_iff,B_not] at c67))
 | (refine Qe (id:=0) (Qy (ι:=LA) (fun q:LA=>⟨(upd (upd (upd (upd (upd (fun _=>.any) 0 (.ptr b 0)) 2 (.box [.nil,.nil,.nil])) 5 (.int .i64 (n1:Int))) 6 (.ptr ab 0)) 7 (.int .i64 (q.k:Int))),q.H⟩) (fun q=>LA1 b ab yb ys n1 cy jy p0 q) (fun q=>n1 - q.k) (⟨0,[],zrP n1 false,p0 + 1,H2⟩) ?_ ?_ ?_);exact hL;((repeat' (first | exact Qg (by assumption) | exact Qi | refine Qf ?_ ?_ | refine Qh ?_)) <;> simp [-zg,-zd,↓Qb,↓Qa,go_sem]);rintro q hq)
 | (refine ⟨zz,hz,by first | omega | (simp;done) | (simp;omega),?_⟩;((repeat' (first | exact Qg (by assumption) | exact Qi | refine Qf ?_ ?_ | refine Qh ?_)) <;> simp [-zg,-zd,↓Qb,↓Qa,go_sem,z1]))
 | (refine Qe (id:=2) (Qy (ι:=LE) (fun r:LE=>⟨(upd (upd (upd (upd (upd (fun _=>.any) 0 (.ptr b 0)) 2 (.box [.nil,.nil,.nil])) 5 (.int .i64 (n1:Int))) 6 (.ptr ab 0)) 8 (.int .i64 r.m)),r.H⟩) (fun r=>LE2 b ab yb ys n1 cy jy q.q q.js q.qs r) (fun r=>r.m.toNat) (⟨[],mm,q.q + 1,H2⟩) ?_ ?_ ?_);exact hE;((repeat' (first | exact Qg (by assumption) | exact Qi | refine Qf ?_ ?_ | refine Qh ?_)) <;> simp [-zg,-zd,↓Qb,↓Qa,go_sem]);rintro r hr)
 | (refine ⟨⟨r.es ++ [ed],r.m - 1,r.q + 1 + 1 + 1 + 1,H4⟩,hE4,by first | omega | (simp;done) | (simp;omega),?_⟩;((repeat' (first | exact Qg (by assumption) | exact Qi | refine Qf ?_ ?_ | refine Qh ?_)) <;> simp [-zg,-zd,↓Qb,↓Qa,go_sem]))
 | (refine Qe ?_)
 | (refine Qs ?_;simp [-zg,-zd,↓Qb,↓Qa,go_sem])
 | (refine Qr ?_;simp [-zg,-zd,↓Qb,↓Qa,go_sem])
 | (refine Qu ?_;try simp [-zg,-zd,↓Qb,↓Qa,go_sem,Try.results131])
 | (intro hx;refine zA ?_)
 | (intro hx;change retR _ _ _ _ _)
 | (refine ⟨?_,?_⟩ <;> refine zA ?_)
 | (intro hx;constructor <;> intro hs)
 | (constructor <;> intro hs)
 | (refine ⟨?_,fun hs=>?_⟩;refine zA ?_)
 | (refine ⟨fun hs=>?_,?_⟩;rotate_left;refine zA ?_;rotate_left)))
  all_goals (first
 | (refine ⟨p + 1,by omega,by omega,?_,?_,?_⟩ <;> simp [upd,go_sem];done)
 | (refine ⟨p2,by omega,by omega,?_,?_,?_⟩ <;> simp [upd,go_sem];done)
 | (refine zafw _ _ _ ((xa,xb,xc)) (p2) ?_ ?_ ?_ ?_;(first | exact Or.inl rfl | exact Or.inr rfl);(focus (simp [-zg,-zd,↓Qb,↓Qa,go_sem,Try.results131,dat,Xm,li,Jv];done));(focus ((exact ⟨by dsimp only;omega,by dsimp only;omega,by dsimp only;omega,y4⟩);done));(focus (refine ⟨?_,?_⟩ <;> omega)))
 | (refine zafw _ _ _ ((q.js,q.qs,r.es)) (r.q) ?_ ?_ ?_ ?_;(first | exact Or.inl rfl | exact Or.inr rfl);(focus (simp [-zg,-zd,↓Qb,↓Qa,go_sem,Try.results131,dat,Xm,li,Jv,e6,g3,nba,zS nba,nby,zS nby,nay,zS nay];done));(focus ((exact ⟨by dsimp only;omega,by dsimp only;omega,by dsimp only;omega,e3⟩);done));(focus (refine ⟨?_,?_⟩ <;> omega)))
 | skip)
@[go_sem] def zagk:Con:=.rel fun args H=>match args with
  | [.ptr b 0]=>match H b with
    | some [.list m cs,.int .i64 p]=>((Is cY m cs) ∧ (m ≤ 2000) ∧ (0 ≤ p) ∧ (p + 300 ≤ 1000000),fun c=>(Uq (Zs p c).1,upd H b (some [.list m cs,.int .i64 (Zs p c).2])))
    | _=>(False,fun _=>(.any,H))
  | _=>(False,fun _=>(.any,H))
theorem zaom:ConOk Try.prog 131 zagk:=by
  refine ⟨Qp Try.func131 (by decide) rfl,fun args H h=>?_⟩
  revert h
  dsimp only
  split
  · split
    · rename_i hH
      intro h
      obtain ⟨⟨ys,rfl,rfl⟩,hl,h0_,hp_⟩:=h
      try simp only [Qm] at *
      exact SpecR.enc ((zams ys _ _ hl h0_ hp_ ).frame hH).shut fun c=>Prod.ext (zafx  _ _).2.symm rfl
    · intro h;exact h.elim
  · intro h
    exact h.elim
@[go_sem] def Γy27:FuncId → Con:=ext Γy26 131 zagk
theorem Zv:∀ g,ConOk Try.prog g (Γy27 g):=Qo Zj zaom

end
end Go.Proofs.Ytkjimmkemnmajaa.Vm

