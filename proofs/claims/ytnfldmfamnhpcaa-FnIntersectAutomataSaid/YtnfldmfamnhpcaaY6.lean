/-
  Formulas translated to automata. No conditions.
-/
import Derived.Test.YtnfldmfamnhpcaaY5
namespace Go.Proofs.Ytnfldmfamnhpcaa.Vm
open Go
open List renaming getD_eq_getElem?_getD → zg,drop_one → zd,replicate → zrP
noncomputable section
set_option linter.unusedVariables false
set_option linter.unusedSimpArgs false
set_option maxRecDepth 200000

section
variable {P:Program} {B:Base} {n:Nat} {S:St} {c:Code} {Q:Exit → St → Prop}
theorem AW_boxNils3 (t:Nat) (hT:S.T t = .box [.nil,.nil,.nil]) (h:AW P B n c Q ⟨upd S.T t (.box [.fr 1 0 [],.fr 1 0 [],.fr 4 0 []]),S.H⟩):AW P B n c Q S :=
  zamv t hT (fun μ I w vs f hr=>by
    simp only [RepL] at hr ⊢
    obtain ⟨v,vs',f1,f2,e1,e2,r1,v2,vs2,g1,g2,e3,e4,r2,v3,vs3,g3,g4,e5,e6,r3,r4⟩:=hr
    exact ⟨v,vs',f1,f2,e1,e2,zadg r1,v2,vs2,g1,g2,e3,e4,zadg r2,v3,vs3,g3,g4,e5,e6,zadg r3,r4⟩) (fun N hb=>by simp only [bndL,bnd];exact ⟨trivial,trivial,trivial,trivial⟩) h
theorem AW_matL (t:Nat) {ls:List (List Int)} {x y:Int} (hT:S.T t = .fr 1 (ls.length + 1) (cat cL ls ++ [.fr 1 2 [.int .i64 x,.int .i64 y]]))
    (h:∀ b cp k,S.H b = none → ls.length + 1 ≤ cp → cp ≤ ls.length + 1 + k → AW P B n c Q ⟨upd S.T t (.sl b 1 0 (ls.length + 1) cp),upd S.H b (some (cat cL (ls ++ [[x,y]]) ++ zrP k .any))⟩):AW P B n c Q S:=by
  refine Zk t hT fun b cp k hb h1 h2=>?_
  have hl:(cat cL ls).length = ls.length:=by rw [Qx];omega
  refine zaoq b ls.length (all:=(cat cL ls ++ [.fr 1 2 [.int .i64 x,.int .i64 y]]) ++ zrP k .any) (d:=.fr 1 2 [.int .i64 x,.int .i64 y]) (by dsimp only;rw [Qm]) ?_ rfl ?_
  · rw [List.append_assoc,List.getElem?_append_right (by omega),hl,Nat.sub_self];rfl
  · have e:((cat cL ls ++ [D.fr 1 2 [.int .i64 x,.int .i64 y]]) ++ zrP k D.any).set ls.length (dat (.fr 1 2 [.int .i64 x,.int .i64 y])) = cat cL (ls ++ [[x,y]]) ++ zrP k .any:=by
      rw [List.append_assoc,Zi,Zf,List.append_assoc,List.set_append,if_neg (by omega),hl,Nat.sub_self];rfl
    rw [e]
    have e2:upd (upd S.H b (some (cat cL ls ++ [D.fr 1 2 [.int .i64 x,.int .i64 y]] ++ zrP k D.any))) b (some (cat cL (ls ++ [[x,y]]) ++ zrP k .any)) = upd S.H b (some (cat cL (ls ++ [[x,y]]) ++ zrP k .any)):=upd_upd ..
    dsimp only
    rw [e2]
    exact h b cp k hb h1 (by omega)
end
@[go_sem] theorem is_lit2 (x0 x1:Int):Is cI 2 [D.int .i64 x0,D.int .i64 x1] = True:=eq_true ⟨[x0,x1],rfl,rfl⟩
@[go_sem] theorem de_lit2 (x0 x1:Int):de cI [D.int .i64 x0,D.int .i64 x1] = [x0,x1]:=Qr (f:=cI) [x0,x1]
theorem snoc_cT (xs:List Tr4) (a b c d:Int):cat cT xs ++ [.int .i64 a,.int .i64 b,.int .i64 c,.int .i64 d] = cat cT (xs ++ [(a,b,c,d)]):=by rw [Zi,Zf];rfl
def SmallT (xs:List Tr4):Prop:=∀ i,i < xs.length → (nth xs i).2.2.1 ≤ 9223372036854775807
theorem SmallT.nil:SmallT []:=fun i h=>by simp at h
theorem SmallT.snoc {xs:List Tr4} (h:SmallT xs) {e:Tr4} (he:e.2.2.1 ≤ 9223372036854775807):SmallT (xs ++ [e]):=fun i hi=>by
  rw [List.length_append,List.length_singleton] at hi
  by_cases q:i < xs.length
  · simp only [nth,List.getD_eq_getElem?_getD,List.getElem?_append_left q]
    have:=h i q
    simpa only [nth,List.getD_eq_getElem?_getD] using this
  · have:i = xs.length:=by omega
    subst this
    simp only [nth,List.getD_eq_getElem?_getD,List.getElem?_append_right (Nat.le_refl _),Nat.sub_self]
    exact he
def PairsOk (us:List Int) (ls:List (List Int)):Prop:=∀ p,p ∈ ls → ∃ s ph,p = [s,ph] ∧ PhOk us ph
theorem PairsOk.nil (us:List Int):PairsOk us []:=fun p h=>nomatch h
theorem PairsOk.snoc {us:List Int} {ls:List (List Int)} (h:PairsOk us ls) {s ph:Int} (hp:PhOk us ph):PairsOk us (ls ++ [[s,ph]]):=fun p hp2=>by
  rcases List.mem_append.1 hp2 with q | q
  · exact h p q
  · exact ⟨s,ph,by simpa using q,hp⟩
structure TA where
  ls:List (List Int)
  js:List Int
  qs:List Bool
  es:List Tr4
  nb:Nat
  cp:Nat
  j:Nat
  H:Hp
def TAi (ab:Nat) (us:List Int) (q:TA):Prop:=PairsOk us q.ls ∧ SmallT q.es ∧ ¬ q.nb = ab ∧ q.ls.length ≤ q.cp ∧ q.cp ≤ q.ls.length + q.j ∧ q.H ab = some [.fr 1 q.js.length (cat cI q.js),.fr 1 q.qs.length (cat cB q.qs),.fr 4 q.es.length (cat cT q.es)] ∧ q.H q.nb = some (cat cL q.ls ++ zrP q.j .any)
def T1 (ab:Nat) (us:List Int) (cn:Nat) (q:Nat × TA):Prop:=q.1 ≤ cn ∧ TAi ab us q.2 ∧ q.2.ls.length ≤ q.1 ∧ q.2.js.length ≤ q.1 ∧ q.2.qs.length = 0 ∧ q.2.es.length = 0
def T2 (ab:Nat) (us:List Int) (q:Nat × TA):Prop:=q.1 ≤ q.2.ls.length ∧ TAi ab us q.2 ∧ q.2.ls.length ≤ 96 ∧ q.2.js.length ≤ 32 ∧ q.2.qs.length = q.1 ∧ q.2.es.length ≤ q.1 * 32
def T3y (ab:Nat) (us:List Int) (cn:Nat) (i n0:Nat) (y:Nat × TA):Prop:=y.1 ≤ cn ∧ TAi ab us y.2 ∧ y.2.ls.length ≤ n0 + y.1 ∧ i + 1 ≤ y.2.ls.length ∧ y.2.js.length ≤ 32 ∧ y.2.qs.length = i + 1 ∧ y.2.es.length ≤ i * 32 + y.1
theorem pow_cn {n:Nat} (h:n ≤ 5):∃ cn:Nat,cn ≤ 32 ∧ IntKind.i64.wrap (2 ^ min (IntKind.u64.wrap (n:Int)).toNat 64) = (cn:Int):=by
  have:n = 0 ∨ n = 1 ∨ n = 2 ∨ n = 3 ∨ n = 4 ∨ n = 5:=by omega
  rcases this with e | e | e | e | e | e <;> subst e
  · exact ⟨1,by omega,by decide⟩
  · exact ⟨2,by omega,by decide⟩
  · exact ⟨4,by omega,by decide⟩
  · exact ⟨8,by omega,by decide⟩
  · exact ⟨16,by omega,by decide⟩
  · exact ⟨32,by omega,by decide⟩

@[go_sem] def Uy:(List Int × List Bool × List Tr4) × Bool → D:=fun x=>.tup [.st [li cI x.1.1,li cB x.1.2.1,li cT x.1.2.2],.bool x.2]
theorem zafk (x:(List Int × List Bool × List Tr4) × Bool):dat (Uy x) = Uy x:=by simp [go_sem]
def zaad (k:Int) (v:Int) (ks:List Tree):(List Int × List Bool × List Tr4) × Bool → Prop:=fun x=>x.1.1.length ≤ 3000 ∧ x.1.2.1.length ≤ 3000 ∧ x.1.2.2.length ≤ 4000 ∧ SmallT x.1.2.2
def zaam (k:Int) (v:Int) (ks:List Tree) (x:((List Int × List Bool × List Tr4) × Bool) × D):Prop:=zaad k v ks x.1 ∧ dat x.2 = Uy x.1
def zaag (k:Int) (v:Int) (ks:List Tree) (c:Any):((List Int × List Bool × List Tr4) × Bool) × D:=sel (zaam k v ks) (((([],[],[]),false):(List Int × List Bool × List Tr4) × Bool),Uy ((([],[],[]),false))) c
def zaav (k:Int) (v:Int) (ks:List Tree) (c:Any):(List Int × List Bool × List Tr4) × Bool:=(zaag k v ks c).1
theorem zacv (k:Int) (v:Int) (ks:List Tree)  (c:Any):zaam k v ks (zaag k v ks c):=by
  have hx:zaad k v ks ((([],[],[]),false)):=⟨by simp,by simp,by simp,SmallT.nil⟩
  exact Jh (p:=zaam k v ks) (x0:=(((([],[],[]),false):(List Int × List Bool × List Tr4) × Bool),Uy ((([],[],[]),false)))) ⟨hx,zafk _⟩ c
theorem zahk (k:Int) (v:Int) (ks:List Tree)  (c:Any):zaad k v ks (zaav k v ks c):=(zacv k v ks  c).1
theorem zaaw (k:Int) (v:Int) (ks:List Tree) {e_:Exit} {S_:St} (x:(List Int × List Bool × List Tr4) × Bool) (he_:e_ = .ret ∨ e_ = .normal)
    (h1:(Ql Try.prog S_ Try.f59.results.toList).1 ∧ dat (resD (Ql Try.prog S_ Try.f59.results.toList).2.1) = Uy x) (hg:zaad k v ks x) :
    retR Try.prog Try.f59 (fun c=>((zaag k v ks c).2,fun _=>none)) e_ S_ :=
  Jd (good:=zaam k v ks) (enc:=fun x:((List Int × List Bool × List Tr4) × Bool) × D=>x.2) (x,resD (Ql Try.prog S_ Try.f59.results.toList).2.1) he_ ⟨h1.1,rfl⟩ ⟨hg,h1.2⟩
set_option maxHeartbeats 16000000 in
theorem zafj (k:Int) (v:Int) (ks:List Tree)  : SpecR Try.prog 59 [.st [.int .i64 k,.int .i64 v,li cX ks]] (fun _=>none) (fun c=>((zaag k v ks c).2,fun _=>none)):=by
  refine SpecR.of_walk Try.func59 rfl (by simp [Try.f59]) fun B=>?_
  (repeat' (first
 | refine Qu ?_
 | refine Qc (id:=0) Xh [] (by kernel_rfl) ?_;simp [-zg,-zd,↓Qb,↓Qa,go_sem];try (refine Xv 1 ?_;simp [go_sem])
 | refine Qc (id:=1) Xh [] (by kernel_rfl) ?_;simp [-zg,-zd,↓Qb,↓Qa,go_sem];try ((intro c1);(have z0:=zamu k v ks c1);(generalize zacc k v ks c1 = z1 at *);(obtain ⟨bs,okb⟩:=z1);(simp only [zaah] at z0);(obtain ⟨hb5,hA⟩:=z0))
 | refine Qc (id:=2) Xh [] (by kernel_rfl) ?_;simp [-zg,-zd,↓Qb,↓Qa,go_sem]
 | refine Qc (id:=3) Xh [] (by kernel_rfl) ?_;simp [-zg,-zd,↓Qb,↓Qa,go_sem]
 | refine Qc (id:=4) Xh [] (by kernel_rfl) ?_;simp [-zg,-zd,↓Qb,↓Qa,go_sem];try ((intro c4);(have z4:=zajc k v ks c4);(generalize zacd k v ks c4 = z5 at *);(obtain ⟨⟨gk,gv,gs⟩,okc⟩:=z5);(simp only [Wa] at z4);(have hV:Valu (.mk gk gv gs):=(by rcases z4.2 with h | h;exact Valu.zero h;exact h.valu));(clear z4);(refine Xv 6 ?_);(simp [go_sem]))
 | refine Qc (id:=5) Xh [] (by kernel_rfl) ?_;simp [-zg,-zd,↓Qb,↓Qa,go_sem,wrapu_nn (bs.length:Int)];try ((obtain ⟨cn,hcn,ecn⟩:=pow_cn hb5);(rw [ecn]);(clear ecn))
 | refine Qc (id:=6) Xh [] (by kernel_rfl) ?_;simp [-zg,-zd,↓Qb,↓Qa,go_sem,(show bs.length ≤ 1000 by omega)];try ((intro c6);(have hU:=l7Untils_ok bs (by omega) c6);(simp only [zabt] at hU);(generalize zacp bs c6 = us at *);(have hul:us.length ≤ 1000:=(by have:=hU.1;omega));(refine Xv 9 ?_);(simp [go_sem,dat,Xd]))
 | refine Qc (id:=7) Xh [] (by kernel_rfl) ?_;simp [-zg,-zd,↓Qb,↓Qa,go_sem]
 | refine Qc (id:=8) Xh [] (by kernel_rfl) ?_;simp [-zg,-zd,↓Qb,↓Qa,go_sem]
 | ((refine AW_boxNils3 10 rfl ?_);(refine Xu 10 rfl fun ab hab=>?_);(refine Zk 11 rfl fun nb cp j hnb hcp hcj=>?_);(have hna:¬ nb = ab:=(by rintro rfl;simp [upd] at hnb));(clear hab hnb);(refine Qq (fun H1=>TAi ab us ⟨[],[],[],[],nb,cp,j,H1⟩) ⟨PairsOk.nil us,SmallT.nil,hna,Nat.zero_le _,by simpa using hcj,by simp [upd,Ne.symm hna,Xg],by simp [upd,Xg]⟩ fun H1 hT=>?_));refine Qc (id:=9) Xh [] (by kernel_rfl) ?_;simp [-zg,-zd,↓Qb,↓Qa,go_sem]
 | ((have hq1:=hq.1));refine Qc (id:=10) Xh [] (by kernel_rfl) ?_;simp [-zg,-zd,↓Qb,↓Qa,go_sem]
 | refine Qc (id:=12) Xh [] (by kernel_rfl) ?_;simp [-zg,-zd,↓Qb,↓Qa,go_sem,hV]
 | ((obtain ⟨i,zq⟩:=q);(obtain ⟨g1,g2,g3,g4,g5,g6⟩:=hq);(dsimp only at g1 g2 g3 g4 g5 g6);(obtain ⟨ls,js,qs,es,nb,cp,j,H0⟩:=zq);(dsimp only at *);(obtain ⟨t1,t2,t3,t4,t5,t6,t7⟩:=g2);(dsimp only at t1 t2 t3 t4 t5 t6 t7));refine Qc (id:=13) Xh [] (by kernel_rfl) ?_;simp [-zg,-zd,↓Qb,↓Qa,go_sem,t6,(show js.length ≤ 9223372036854775806 by omega),(show 2 * (js.length + 1) * 8 ≤ 281474976710656 by omega),Ja];try ((refine Qq (fun H1=>H1 ab = some [.fr 1 (js.length + 1) (cat cI (js ++ [(ls.length:Int)])),.fr 1 qs.length (cat cB qs),.fr 4 es.length (cat cT es)] ∧ H1 nb = some (cat cL ls ++ zrP j .any)) ⟨by simp [upd],by simp [upd,t3,t7]⟩ fun H2 ⟨u1,u2⟩=>?_))
 | refine Qc (id:=14) Xh [] (by kernel_rfl) ?_;simp [-zg,-zd,↓Qb,↓Qa,go_sem,u1,u2,t3,Ne.symm t3,(show ls.length ≤ 9223372036854775806 by omega),(show 2 * (ls.length + 1) * 24 ≤ 281474976710656 by omega),t5,(show ls.length ≤ ls.length + j by omega)];try ((refine AW_matL 11 (ls:=ls) (x:=(i:Int)) (y:=0) rfl fun nb2 cp2 j2 hn2 hc2 hj2=>?_);(have n2:¬ nb2 = ab:=(by rintro rfl;simp [upd,t3,Ne.symm t3,u1] at hn2));(refine Qq (fun H1=>TAi ab us ⟨ls ++ [[(i:Int),0]],js ++ [(ls.length:Int)],qs,es,nb2,cp2,j2,H1⟩) ⟨t1.snoc (PhOk.zero us),t2,n2,by simpa using hc2,by simpa using hj2,by simp [upd,n2,Ne.symm n2,t3,Ne.symm t3,u1],by simp [upd]⟩ fun H3 hT3=>?_);(have hl3:(ls ++ [[(i:Int),0]]).length = ls.length + 1:=(by simp));(have hz:T1 ab us cn (i + 1,⟨ls ++ [[(i:Int),0]],js ++ [(ls.length:Int)],qs,es,nb2,cp2,j2,H3⟩):=⟨by dsimp only;omega,hT3,by simp;omega,by simp;omega,g5,g6⟩);(rw [← hl3]);(obtain ⟨zz,hzz⟩:∃ zz:TA,zz = ⟨ls ++ [[(i:Int),0]],js ++ [(ls.length:Int)],qs,es,nb2,cp2,j2,H3⟩:=⟨_,rfl⟩);(rw [← hzz] at hz);(have z1:ls ++ [[(i:Int),0]] = zz.ls:=(by rw [hzz]));(have z2:nb2 = zz.nb:=(by rw [hzz]));(have z3:cp2 = zz.cp:=(by rw [hzz]));(have z4:H3 = zz.H:=(by rw [hzz]));(rw [z1,z2,z3,z4]);(clear hzz))
 | refine Qc (id:=11) Xh [] (by kernel_rfl) ?_;simp [-zg,-zd,↓Qb,↓Qa,go_sem,wrapS (k:=i) (by omega)]
 | refine Qc (id:=11) Xh [] (by kernel_rfl) ?_;simp [-zg,-zd,↓Qb,↓Qa,go_sem,wrapS (k:=q.1) (by omega)]
 | ((obtain ⟨i0,q1⟩:=q);(obtain ⟨g1,g2,g3,g4,g5,g6⟩:=hq);(dsimp only at *));refine Qc (id:=15) Xh [] (by kernel_rfl) ?_;simp [-zg,-zd,↓Qb,↓Qa,go_sem]
 | ((have hr1:=hr.1);(have hr3:=hr.2.2.1));refine Qc (id:=16) Xh [] (by kernel_rfl) ?_;simp [-zg,-zd,↓Qb,↓Qa,go_sem]
 | refine Qc (id:=18) Xh [] (by kernel_rfl) ?_;simp [-zg,-zd,↓Qb,↓Qa,go_sem]
 | refine Qc (id:=19) Xh [] (by kernel_rfl) ?_;simp [-zg,-zd,↓Qb,↓Qa,go_sem]
 | ((obtain ⟨i,rz⟩:=r);(obtain ⟨h1,h2,h3,h4,h5,h6⟩:=hr);(dsimp only at *);(obtain ⟨ls,js,qs,es,nb,cp,j,H0⟩:=rz);(dsimp only at *);(obtain ⟨t1,t2,t3,t4,t5,t6,t7⟩:=h2);(dsimp only at t1 t2 t3 t4 t5 t6 t7);(have hil:i < ls.length:=(by omega));(obtain ⟨s,ph,hp,hph⟩:=t1 (nth ls i) (Xl hil)));refine Qc (id:=20) Xh [] (by kernel_rfl) ?_;simp [-zg,-zd,↓Qb,↓Qa,go_sem,hil,Qj hil,Nat.sub_pos_of_lt hil,t7,hp,(show nth [s,ph] 0 = s from rfl),(show i < ls.length + j by omega)]
 | refine Qc (id:=21) Xh [] (by kernel_rfl) ?_;simp [-zg,-zd,↓Qb,↓Qa,go_sem,hA,hU,hph,hul,(show nth [ph] 0 = ph from rfl),(show nth [s,ph] 1 = ph from rfl),hil,Qj hil,Nat.sub_pos_of_lt hil,t7,hp,(show i < ls.length + j by omega)];try ((intro c21);(have h21:=l7Phase_ok bs us s ph hA hU hph hul c21);(simp only [zacq] at h21);(generalize zadi bs us s ph c21 = zp at *);(obtain ⟨ph2,ac⟩:=zp);(dsimp only at h21 ⊢))
 | refine Qc (id:=22) Xh [] (by kernel_rfl) ?_;simp [-zg,-zd,↓Qb,↓Qa,go_sem,t6,(show qs.length ≤ 9223372036854775806 by omega),(show 2 * (qs.length + 1) * 1 ≤ 281474976710656 by omega),(show 2 * (qs.length + 1) ≤ 281474976710656 by omega),snoc_cB];try ((refine Qq (fun H1=>H1 ab = some [.fr 1 js.length (cat cI js),.fr 1 (qs ++ [ac]).length (cat cB (qs ++ [ac])),.fr 4 es.length (cat cT es)] ∧ H1 nb = some (cat cL ls ++ zrP j .any)) ⟨by simp [upd],by simp [upd,t3,t7]⟩ fun H2 ⟨u1,u2⟩=>?_))
 | refine Qc (id:=23) Xh [] (by kernel_rfl) ?_;simp [-zg,-zd,↓Qb,↓Qa,go_sem,hA];try ((intro c23);(have h23:=l7Letter_ok bs s hA c23);(simp only [zaax] at h23);(generalize zacr bs s c23 = zl at *);(obtain ⟨care,vl⟩:=zl);(dsimp only at h23 ⊢))
 | refine Qc (id:=24) Xh [] (by kernel_rfl) ?_;simp [-zg,-zd,↓Qb,↓Qa,go_sem]
 | ((have hy1:=hy.1));refine Qc (id:=25) Xh [] (by kernel_rfl) ?_;simp [-zg,-zd,↓Qb,↓Qa,go_sem]
 | refine Qc (id:=27) Xh [] (by kernel_rfl) ?_;simp [-zg,-zd,↓Qb,↓Qa,go_sem,hA];try ((intro c27);(generalize zabw bs s (y.1:Int) c27 = fb at *))
 | ((obtain ⟨e,yz⟩:=y);(obtain ⟨y1,y2,y3,y4,y5,y6,y7⟩:=hy);(dsimp only at *);(obtain ⟨ls2,js2,qs2,es2,nb2,cp2,j2,H4⟩:=yz);(dsimp only at *);(obtain ⟨w1,w2,w3,w4,w5,w6,w7⟩:=y2);(dsimp only at w1 w2 w3 w4 w5 w6 w7));refine Qc (id:=28) Xh [] (by kernel_rfl) ?_;simp [-zg,-zd,↓Qb,↓Qa,go_sem]
 | ((refine Jz 11 (b:=nb2) (sz:=1) (m:=ls2.length) (all:=cat cL ls2 ++ zrP j2 D.any) rfl w7 (by omega) (by simp [Qx]) (by simp [Qx];omega) ?_);(simp only [Nat.mul_one,Xy]));refine Qc (id:=29) Xh [] (by kernel_rfl) ?_;simp [-zg,-zd,↓Qb,↓Qa,go_sem,(show ls2.length ≤ 100000 by omega)];try ((intro c29);(have h29:=l7Pair_ok ls2 [(e:Int),ph2] (by omega) c29);(simp only [zadj] at h29);(generalize zaeq ls2 [(e:Int),ph2] c29 = zq at *);(obtain ⟨ls3,ix⟩:=zq);(dsimp only at h29 ⊢);(have hl3:ls3.length ≤ ls2.length + 1 ∧ ls2.length ≤ ls3.length:=(by rcases h29 with h | h <;> rw [h] <;> simp));(have hP3:PairsOk us ls3:=(by rcases h29 with h | h;rw [h];exact w1;rw [h];exact w1.snoc h21));(refine Zk 11 rfl fun nb3 cp3 j3 hn3 hc3 hj3=>?_);(have n3:¬ nb3 = ab:=(by rintro rfl;simp [upd,w3,Ne.symm w3,w6] at hn3));(refine Qq (fun H1=>H1 ab = some [.fr 1 js2.length (cat cI js2),.fr 1 qs2.length (cat cB qs2),.fr 4 es2.length (cat cT es2)] ∧ H1 nb3 = some (cat cL ls3 ++ zrP j3 .any)) ⟨by simp [upd,n3,Ne.symm n3,w3,Ne.symm w3,w6],by simp [upd]⟩ fun H5 ⟨v1,v2⟩=>?_))
 | refine Qc (id:=30) Xh [] (by kernel_rfl) ?_;simp [-zg,-zd,↓Qb,↓Qa,go_sem,v1,(show es2.length ≤ 9223372036854775806 by omega),(show 2 * (es2.length + 1) * 32 ≤ 281474976710656 by omega),snoc_cT];try ((have hl4:(es2 ++ [((i:Int),care,vl,ix)]).length = es2.length + 1:=(by simp));(refine Qq (fun H1=>TAi ab us ⟨ls3,js2,qs2,es2 ++ [((i:Int),care,vl,ix)],nb3,cp3,j3,H1⟩) ⟨hP3,w2.snoc h23,n3,(show ls3.length ≤ cp3 by omega),(show cp3 ≤ ls3.length + j3 by omega),by simp [upd],by simp [upd,n3,v2]⟩ fun H6 hT6=>?_);(have hz:T3y ab us cn i ls.length (e + 1,⟨ls3,js2,qs2,es2 ++ [((i:Int),care,vl,ix)],nb3,cp3,j3,H6⟩):=⟨by dsimp only;omega,hT6,by dsimp only;omega,by dsimp only;omega,y5,y6,by dsimp only;omega⟩);(obtain ⟨zz,hzz⟩:∃ zz:TA,zz = ⟨ls3,js2,qs2,es2 ++ [((i:Int),care,vl,ix)],nb3,cp3,j3,H6⟩:=⟨_,rfl⟩);(rw [← hzz] at hz);(have z1:ls3 = zz.ls:=(by rw [hzz]));(have z2:nb3 = zz.nb:=(by rw [hzz]));(have z3:cp3 = zz.cp:=(by rw [hzz]));(have z4:H6 = zz.H:=(by rw [hzz]));(rw [z1,z2,z3,z4]);(clear hzz))
 | refine Qc (id:=26) Xh [] (by kernel_rfl) ?_;simp [-zg,-zd,↓Qb,↓Qa,go_sem,wrapS (k:=e) (by omega)]
 | refine Qc (id:=26) Xh [] (by kernel_rfl) ?_;simp [-zg,-zd,↓Qb,↓Qa,go_sem,wrapS (k:=y.1) (by omega)]
 | ((obtain ⟨e,yz⟩:=y);(obtain ⟨y1,y2,y3,y4,y5,y6,y7⟩:=hy);(dsimp only at *);(have hyz:T2 ab us (i + 1,yz):=⟨by dsimp only;omega,y2,by dsimp only;omega,by dsimp only;omega,y6,by dsimp only;omega⟩));refine Qc (id:=17) Xh [] (by kernel_rfl) ?_;simp [-zg,-zd,↓Qb,↓Qa,go_sem,wrapS (k:=i) (by omega)]
 | ((obtain ⟨i,rz⟩:=r);(obtain ⟨h1,h2,h3,h4,h5,h6⟩:=hr);(dsimp only at *);(obtain ⟨ls,js,qs,es,nb,cp,j,H0⟩:=rz);(dsimp only at *);(obtain ⟨t1,t2,t3,t4,t5,t6,t7⟩:=h2);(dsimp only at t1 t2 t3 t4 t5 t6 t7));refine Qc (id:=31) Xh [] (by kernel_rfl) ?_;simp [-zg,-zd,↓Qb,↓Qa,go_sem]
 | refine Qc (id:=32) Xh [] (by kernel_rfl) ?_;simp [-zg,-zd,↓Qb,↓Qa,go_sem,t6];try ((refine Qq (fun H1=>H1 ab = some [.fr 1 js.length (cat cI js),.fr 1 [false].length (cat cB [false]),.fr 4 es.length (cat cT es)]) (by simp [upd,Zf,cB]) fun H2 u1=>?_))
 | refine Qc (id:=33) Xh [] (by kernel_rfl) ?_;simp [-zg,-zd,↓Qb,↓Qa,go_sem,u1]
 | refine Qc (id:=33) Xh [] (by kernel_rfl) ?_;simp [-zg,-zd,↓Qb,↓Qa,go_sem,t6]
 | refine Qd (c:=.tmp 27) ?_;simp [-zg,-zd,↓Qb,↓Qa,go_sem];try first | (refine ⟨?_,?_⟩ <;> refine zA ?_) | (refine ⟨fun c27=>?_,fun c27=>?_⟩ <;> (try simp [B_iff,B_not] at c27))
 | refine Qd (c:=.tmp 44) ?_;simp [-zg,-zd,↓Qb,↓Qa,go_sem];try first | (refine ⟨?_,?_⟩ <;> refine zA ?_) | (refine ⟨fun c44=>?_,fun c44=>?_⟩ <;> (try simp [B_iff,B_not] at c44))
 | refine Qd (c:=.tmp 50) ?_;simp [-zg,-zd,↓Qb,↓Qa,go_sem];try first | (refine ⟨?_,?_⟩ <;> refine zA ?_) | (refine ⟨fun c50=>?_,fun c50=>?_⟩ <;> (try simp [B_iff,B_not] at c50))
 | refine Qd (c:=.tmp 66) ?_;simp [-zg,-zd,↓Qb,↓Qa,go_sem];try first | (refine ⟨?_,?_⟩ <;> refine zA ?_) | (refine ⟨fun c66=>?_,fun c66=>?_⟩ <;> (try simp [B_iff,B_not] at c66))
 | refine Qd (c:=.tmp 71) ?_;simp [-zg,-zd,↓Qb,↓Qa,go_sem];try first | (refine ⟨?_,?_⟩ <;> refine zA ?_) | (refine ⟨fun c71=>?_,fun c71=>?_⟩ <;> (try simp [B_iff,B_not] at c71))
 | refine Qd (c:=.tmp 106) ?_;simp [-zg,-zd,↓Qb,↓Qa,go_sem];try first | (refine ⟨?_,?_⟩ <;> refine zA ?_) | (refine ⟨fun c106=>?_,fun c106=>?_⟩ <;> (try simp [B_iff,B_not] at c106))
 | refine Qd (c:=.tmp 112) ?_;simp [-zg,-zd,↓Qb,↓Qa,go_sem];try first | (refine ⟨?_,?_⟩ <;> refine zA ?_) | (refine ⟨fun c112=>?_,fun c112=>?_⟩ <;> (try simp [B_iff,B_not] at c112))
 | refine Qd (c:=.tmp 133) ?_;simp [-zg,-zd,↓Qb,↓Qa,go_sem];try first | (refine ⟨?_,?_⟩ <;> refine zA ?_) | (refine ⟨fun c133=>?_,fun c133=>?_⟩ <;> (try simp [B_iff,B_not] at c133))
 | (refine Qe (id:=0) (Qz (ι:=Nat × TA) (fun q:Nat × TA=>⟨(upd (upd (upd (upd (upd (upd (upd (upd (fun _=>.any) 2 (.box [.nil,.nil,.nil])) 4 (li cX bs)) 8 (.int .i64 (cn:Int))) 9 (li cI us)) 10 (.ptr ab 0)) 6 (.pd [.int .i64 gk,.int .i64 gv,li cX gs])) 11 (.sl q.2.nb 1 0 q.2.ls.length q.2.cp)) 12 (.int .i64 q.1)),q.2.H⟩) (fun q=>T1 ab us cn q) (fun q=>cn - q.1) ((0,⟨[],[],[],[],nb,cp,j,H1⟩)) ?_ ?_ ?_);exact ⟨Nat.zero_le _,hT,Nat.le_refl _,Nat.le_refl _,rfl,rfl⟩;((repeat' (first | exact Qg (by assumption) | exact Qi | refine Qf ?_ ?_ | refine Qh ?_)) <;> simp [-zg,-zd,↓Qb,↓Qa,go_sem,List.length_nil]);rintro q hq)
 | (refine ⟨(i + 1,zz),hz,by first | omega | (simp;done) | (simp;omega),?_⟩;((repeat' (first | exact Qg (by assumption) | exact Qi | refine Qf ?_ ?_ | refine Qh ?_)) <;> simp [-zg,-zd,↓Qb,↓Qa,go_sem,]))
 | (refine Qe (id:=2) (Qz (ι:=Nat × TA) (fun r:Nat × TA=>⟨(upd (upd (upd (upd (upd (upd (upd (fun _=>.any) 2 (.box [.nil,.nil,.nil])) 4 (li cX bs)) 8 (.int .i64 (cn:Int))) 9 (li cI us)) 10 (.ptr ab 0)) 11 (.sl r.2.nb 1 0 r.2.ls.length r.2.cp)) 13 (.int .i64 r.1)),r.2.H⟩) (fun r=>T2 ab us r) (fun r=>96 - r.1) ((0,q1)) ?_ ?_ ?_);exact ⟨Nat.zero_le _,g2,by dsimp only;omega,by dsimp only;omega,g5,by dsimp only;omega⟩;((repeat' (first | exact Qg (by assumption) | exact Qi | refine Qf ?_ ?_ | refine Qh ?_)) <;> simp [-zg,-zd,↓Qb,↓Qa,go_sem]);rintro r hr)
 | (refine ⟨(i + 1,yz),hyz,by first | omega | (simp;done) | (simp;omega),?_⟩;((repeat' (first | exact Qg (by assumption) | exact Qi | refine Qf ?_ ?_ | refine Qh ?_)) <;> simp [-zg,-zd,↓Qb,↓Qa,go_sem]))
 | (refine Qe (id:=4) (Qz (ι:=Nat × TA) (fun y:Nat × TA=>⟨(upd (upd (upd (upd (upd (upd (upd (upd (upd (upd (upd (upd (fun _=>.any) 2 (.box [.nil,.nil,.nil])) 4 (li cX bs)) 8 (.int .i64 (cn:Int))) 9 (li cI us)) 10 (.ptr ab 0)) 11 (.sl y.2.nb 1 0 y.2.ls.length y.2.cp)) 13 (.int .i64 i)) 14 (.int .i64 s)) 15 (.int .i64 ph2)) 17 (.int .i64 care)) 18 (.int .i64 vl)) 19 (.int .i64 y.1)),y.2.H⟩) (fun y=>T3y ab us cn i ls.length y) (fun y=>cn - y.1) ((0,⟨ls,js,qs ++ [ac],es,nb,cp,j,H2⟩)) ?_ ?_ ?_);exact ⟨Nat.zero_le _,⟨t1,t2,t3,t4,t5,u1,u2⟩,by dsimp only;omega,by dsimp only;omega,h4,by simp;omega,by dsimp only;omega⟩;((repeat' (first | exact Qg (by assumption) | exact Qi | refine Qf ?_ ?_ | refine Qh ?_)) <;> simp [-zg,-zd,↓Qb,↓Qa,go_sem]);rintro y hy)
 | (refine ⟨(e + 1,zz),hz,by first | omega | (simp;done) | (simp;omega),?_⟩;((repeat' (first | exact Qg (by assumption) | exact Qi | refine Qf ?_ ?_ | refine Qh ?_)) <;> simp [-zg,-zd,↓Qb,↓Qa,go_sem]))
 | (refine Qe ?_)
 | (refine Qt ?_;simp [-zg,-zd,↓Qb,↓Qa,go_sem])
 | (refine Qs ?_;simp [-zg,-zd,↓Qb,↓Qa,go_sem])
 | (refine Qv ?_;try simp [-zg,-zd,↓Qb,↓Qa,go_sem,Try.results59])
 | (intro hx;refine zA ?_)
 | (intro hx;change retR _ _ _ _ _)
 | (refine ⟨?_,?_⟩ <;> refine zA ?_)
 | (intro hx;constructor <;> intro hs)
 | (constructor <;> intro hs)
 | (refine ⟨?_,fun hs=>?_⟩;refine zA ?_)
 | (refine ⟨fun hs=>?_,?_⟩;rotate_left;refine zA ?_;rotate_left)
 | ((fail_if_success change retR _ _ _ _ _);(refine ⟨(q.1 + 1,q.2),⟨by dsimp only;omega,hq.2.1,by have:=hq.2.2.1;dsimp only;omega,by have:=hq.2.2.2.1;dsimp only;omega,hq.2.2.2.2⟩,by dsimp only;omega,?_⟩;((repeat' (first | exact Qg (by assumption) | exact Qi | refine Qf ?_ ?_ | refine Qh ?_)) <;> simp [-zg,-zd,go_sem]);done))
 | ((fail_if_success change retR _ _ _ _ _);(refine ⟨(y.1 + 1,y.2),⟨by dsimp only;omega,hy.2.1,by have:=hy.2.2.1;dsimp only;omega,hy.2.2.2.1,hy.2.2.2.2.1,hy.2.2.2.2.2.1,by have:=hy.2.2.2.2.2.2;dsimp only;omega⟩,by dsimp only;omega,?_⟩;((repeat' (first | exact Qg (by assumption) | exact Qi | refine Qf ?_ ?_ | refine Qh ?_)) <;> simp [-zg,-zd,go_sem]);done))))
  all_goals (first
 | (refine zaaw _ _ _ ((([],[],[]),false)) ?_ ?_ ?_;(first | exact Or.inl rfl | exact Or.inr rfl);(focus (simp [-zg,-zd,↓Qb,↓Qa,go_sem,Try.results59,dat,Xd,li,Xg];done));(focus ((exact ⟨by simp,by simp,by simp,SmallT.nil⟩);done)))
 | (refine zaaw _ _ _ (((js,qs,es),true)) ?_ ?_ ?_;(first | exact Or.inl rfl | exact Or.inr rfl);(focus (simp [-zg,-zd,↓Qb,↓Qa,go_sem,Try.results59,dat,Xd,li,Zj];done));(focus ((exact ⟨by dsimp only;omega,by dsimp only;omega,by dsimp only;omega,t2⟩);done)))
 | (refine zaaw _ _ _ (((js,[false],es),true)) ?_ ?_ ?_;(first | exact Or.inl rfl | exact Or.inr rfl);(focus (simp [-zg,-zd,↓Qb,↓Qa,go_sem,Try.results59,dat,Xd,li,Zj,Zf,cB];done));(focus ((exact ⟨by dsimp only;omega,by simp,by dsimp only;omega,t2⟩);done)))
 | skip)
@[go_sem] def zaca:Con:=.rel fun args H=>match args with
  | [.st [.int .i64 k,.int .i64 v,.list n_ks c_ks]]=>((Is cX n_ks c_ks),fun c=>(Uy (zaav k v (de cX c_ks) c),H))
  | _=>(False,fun _=>(.any,H))
theorem zagm:ConOk Try.prog 59 zaca:=by
  refine ⟨Qp Try.func59 (by decide) rfl,fun args H h=>?_⟩
  revert h
  dsimp only
  split
  · intro h
    obtain ⟨ks,rfl,rfl⟩:=h
    try simp only [Qr] at *
    exact SpecR.enc ((SpecR.frame0 (zafj _ _ ks ) (H:=H)).shut) fun c=>Prod.ext (zacv _ _ _  c).2.symm rfl
  · intro h
    exact h.elim
@[go_sem] def Γy24:FuncId → Con:=ext Γy23 59 zaca
theorem Γy24_ok:∀ g,ConOk Try.prog g (Γy24 g):=Qo Xh zagm

end
end Go.Proofs.Ytnfldmfamnhpcaa.Vm

