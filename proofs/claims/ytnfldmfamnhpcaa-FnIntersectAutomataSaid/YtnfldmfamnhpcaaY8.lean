/-
  Draws: automata. No conditions.
-/
import Derived.Test.YtnfldmfamnhpcaaY7
namespace Go.Proofs.Ytnfldmfamnhpcaa.Vm
open Go
open List renaming getD_eq_getElem?_getD → zg,drop_one → zd,replicate → zrP
open Ne renaming symm → zS
noncomputable section
set_option linter.unusedVariables false
set_option linter.unusedSimpArgs false
set_option maxRecDepth 200000

theorem bitsA_le (x y:Int):bitsD .and .i64 x y ≤ 9223372036854775807:=by
  show IntKind.i64.wrap _ ≤ _
  unfold IntKind.wrap;simp [IntKind.bits,IntKind.signed];split <;> omega
abbrev Au:=List Int × List Bool × List Tr4
@[go_sem] def sA (x:Au):D:=.st [li cI x.1,li cB x.2.1,li cT x.2.2]
def AuS (x:Au):Prop:=x.1.length ≤ 5000 ∧ x.2.1.length ≤ 5000 ∧ x.2.2.length ≤ 5000 ∧ SmallT x.2.2
theorem AuS.nil:AuS ([],[],[]):=⟨by simp,by simp,by simp,SmallT.nil⟩
structure LA where
  k:Nat
  js:List Int
  qs:List Bool
  q:Int
  H:Hp
def LA1 (b ab yb:Nat) (ys:List UInt8) (n1 cy jy:Nat) (p0:Int) (q:LA):Prop:=q.k ≤ n1 ∧ q.js.length ≤ q.k ∧ q.qs.length = n1 ∧ p0 + 1 ≤ q.q ∧ q.q ≤ p0 + 1 + 3 * q.k ∧ q.H b = some [.list ys.length (cat cY ys),.int .i64 (q.q)] ∧ q.H ab = some [.fr 1 q.js.length (cat cI q.js),.sl yb 1 0 n1 cy,.fr 4 0 []] ∧ q.H yb = some (cat cB q.qs ++ zrP jy .any)
def LB (b ab yb:Nat) (ys:List UInt8) (n1 cy jy:Nat) (p0:Int) (q:LA):Prop:=q.k < n1 ∧ q.js.length ≤ q.k ∧ q.qs.length = n1 ∧ p0 + 1 ≤ q.q ∧ q.q ≤ p0 + 1 + 3 * q.k + 3 ∧ q.H b = some [.list ys.length (cat cY ys),.int .i64 (q.q)] ∧ q.H ab = some [.fr 1 q.js.length (cat cI q.js),.sl yb 1 0 n1 cy,.fr 4 0 []] ∧ q.H yb = some (cat cB q.qs ++ zrP jy .any)
theorem LB.skip {b ab yb:Nat} {ys:List UInt8} {n1 cy jy:Nat} {p0:Int} {k:Nat} {js:List Int} {qs:List Bool} {q2:Int} {H:Hp} (h:LB b ab yb ys n1 cy jy p0 ⟨k,js,qs,q2,H⟩):LA1 b ab yb ys n1 cy jy p0 ⟨k + 1,js,qs,q2,H⟩:=by
  obtain ⟨h1,h2,h3,h4,h5,h6,h7,h8⟩:=h
  dsimp only at h1 h2 h3 h4 h5 h6 h7 h8
  exact ⟨by dsimp only;omega,by dsimp only;omega,h3,h4,by dsimp only;omega,h6,h7,h8⟩
def MA (b:Nat) (ys:List UInt8) (p:Int) (S:St):Prop:=∃ p0:Int,p + 1 ≤ p0 ∧ p0 ≤ p + 101 ∧ S.T 0 = .ptr b 0 ∧ S.T 2 = .box [.nil,.nil,.nil] ∧ S.H b = some [.list ys.length (cat cY ys),.int .i64 p0]
theorem MA.sub {b:Nat} {ys:List UInt8} {p0:Int} {S:St} (h0:S.T 0 = .ptr b 0) (h2:S.T 2 = .box [.nil,.nil,.nil]) (h3:S.H b = some [.list ys.length (cat cY ys),.int .i64 p0]):Sub S ⟨upd (upd (fun _=>.any) 0 (.ptr b 0)) 2 (.box [.nil,.nil,.nil]),upd (fun _=>none) b (some [.list ys.length (cat cY ys),.int .i64 p0])⟩ :=
  Qf (Qf (Qg fun b' cs h=>by
    by_cases e:b' = b
    · subst e;rw [Qm] at h;rw [h3];exact h
    · rw [Qk e] at h;cases h) h0) h2
theorem AW_merge {P:Program} {B:Base} {n:Nat} {S:St} {c:Code} {K:St → Prop} {Q:Exit → St → Prop} (M:St → Prop) (h1:AW P B n c (Exit.thenA M Q) S) (h2:∀ S',M S' → K S'):AW P B n c (Exit.thenA K Q) S :=
  AW_mono h1 fun e S' hq=>by
    cases e with
    | normal=>exact h2 S' hq
    | _=>exact hq
structure LE where
  es:List Tr4
  m:Int
  q:Int
  H:Hp
def LE2 (b ab yb:Nat) (ys:List UInt8) (n1 cy jy:Nat) (q0:Int) (js:List Int) (qs:List Bool) (r:LE):Prop:=(0 ≤ r.m ∧ r.m ≤ 10) ∧ (r.es.length:Int) + r.m ≤ 10 ∧ SmallT r.es ∧ q0 + 1 ≤ r.q ∧ r.q ≤ q0 + 1 + 4 * (10 - r.m) ∧ r.H b = some [.list ys.length (cat cY ys),.int .i64 (r.q)] ∧ r.H ab = some [.fr 1 js.length (cat cI js),.sl yb 1 0 n1 cy,.fr 4 r.es.length (cat cT r.es)] ∧ r.H yb = some (cat cB qs ++ zrP jy .any)
theorem AW_boxNilM {P:Program} {B:Base} {n:Nat} {S:St} {c:Code} {Q:Exit → St → Prop} (t:Nat) {d:D} (hT:S.T t = .box [.nil,d,.nil]) (h:AW P B n c Q ⟨upd S.T t (.box [.fr 1 0 [],d,.fr 4 0 []]),S.H⟩):AW P B n c Q S :=
  zamv t hT (fun μ I w vs f hr=>by
    simp only [RepL] at hr ⊢
    obtain ⟨v,vs',f1,f2,e1,e2,r1,v2,vs2,g1,g2,e3,e4,r2,v3,vs3,g3,g4,e5,e6,r3,r4⟩:=hr
    exact ⟨v,vs',f1,f2,e1,e2,zadg r1,v2,vs2,g1,g2,e3,e4,r2,v3,vs3,g3,g4,e5,e6,zadg r3,r4⟩) (fun N hb=>by simp only [bndL,bnd] at hb ⊢;exact ⟨trivial,hb.2.1,trivial,trivial⟩) h

@[go_sem] def Ug:Au → D:=sA
theorem zall (x:Au):dat (Ug x) = Ug x:=by simp [go_sem]
def zaao  : Au → Prop:=fun x=>AuS x
def zadv  (x:(Au) × D):Prop:=zaao x.1 ∧ dat x.2 = Ug x.1
def zaaf  (p:Int) (c:Any):((Au) × D) × Int:=dsel (zadv) ((([],[],[]):Au),Ug (([],[],[]))) 300 p c
def Xk  (p:Int) (c:Any):(Au) × Int:=((zaaf p c).1.1,(zaaf p c).2)
theorem zafo   (p:Int) (c:Any):(zaao (Xk p c).1 ∧ p ≤ (Xk p c).2 ∧ (Xk p c).2 ≤ p + 300) ∧ dat (zaaf p c).1.2 = Ug (Xk p c).1:=by
  have hx:zaao (([],[],[])):=AuS.nil
  have h:=zamg (good:=zadv) (x0:=((([],[],[]):Au),Ug (([],[],[])))) ⟨hx,zall _⟩ (K:=300) (by omega) (p:=p) c
  exact ⟨⟨h.1.1,h.2.1,h.2.2⟩,h.1.2⟩
theorem zadu   (p:Int) (c:Any):zaao (Xk p c).1 ∧ p ≤ (Xk p c).2 ∧ (Xk p c).2 ≤ p + 300:=(zafo  p c).1
theorem zafn  (ys:List UInt8) (p:Int) (b:Nat) {e_:Exit} {S_:St} (x:Au) (p':Int) (he_:e_ = .ret ∨ e_ = .normal)
    (h1:(Ql Try.prog S_ Try.f40.results.toList).1 ∧ dat (resD (Ql Try.prog S_ Try.f40.results.toList).2.1) = Ug x ∧ (Ql Try.prog S_ Try.f40.results.toList).2.2.H b = some [li cY ys,.int .i64 p']) (hg:zaao x) (h2:p ≤ p' ∧ p' ≤ p + 300) :
    retR Try.prog Try.f40 (fun c=>((zaaf p c).1.2,one b [li cY ys,.int .i64 (zaaf p c).2])) e_ S_ :=
  zafw (good:=zadv) (enc:=fun x:(Au) × D=>x.2) (cells:=fun q=>[li cY ys,.int .i64 q]) (x,resD (Ql Try.prog S_ Try.f40.results.toList).2.1) p' he_ ⟨h1.1,rfl,h1.2.2⟩ ⟨hg,h1.2.1⟩ h2
set_option maxHeartbeats 16000000 in
theorem zalk (ys:List UInt8) (p:Int) (b:Nat)  (hl:ys.length ≤ 2000) (h0_:0 ≤ p) (hp_:p + 300 ≤ 1000000)  : SpecR Try.prog 40 [.ptr b 0] (one b [li cY ys,.int .i64 p]) (fun c=>((zaaf p c).1.2,one b [li cY ys,.int .i64 (zaaf p c).2])):=by
  refine SpecR.of_walk Try.func40 rfl (by simp [Try.f40]) fun B=>?_
  (repeat' (first
 | refine Qu ?_
 | refine Qc (id:=0) Zn [] (by kernel_rfl) ?_;simp [-zg,-zd,↓Qb,↓Qa,go_sem]
 | refine Qc (id:=1) Zn [] (by kernel_rfl) ?_;simp [-zg,-zd,↓Qb,↓Qa,go_sem,hl,(show 0 ≤ p by omega),(show p ≤ 1000000 by omega),(show 0 ≤ p + 1 by omega),(show p + 1 ≤ 1000000 by omega)];try ((refine AW_merge (MA b ys p) ?_ fun S' hM=>?_;rotate_left;(obtain ⟨p0,hq1,hq2,h0,h2,h3⟩:=hM;refine AW_less (S':=⟨upd (upd (fun _=>.any) 0 (.ptr b 0)) 2 (.box [.nil,.nil,.nil]),upd (fun _=>none) b (some [.list ys.length (cat cY ys),.int .i64 p0])⟩) (MA.sub h0 h2 h3) ?_)))
 | refine Qc (id:=2) Zn [] (by kernel_rfl) ?_;simp [-zg,-zd,↓Qb,↓Qa,go_sem,hl,(show 0 ≤ p + 1 by omega),(show p + 1 ≤ 1000000 by omega),(show 0 ≤ p + 1 + 1 by omega),(show p + 1 + 1 ≤ 1000000 by omega),(show p + 1 + 100 ≤ 1000000 by omega)];try ((intro c2 c2');(have z0:=l5Formula_ok (p + 1) c2);(generalize Vu (p + 1) c2 = z at *);(obtain ⟨z1,z2,z3⟩:=z0);(obtain ⟨⟨fk,fv,fs⟩,p2⟩:=z);(dsimp only at z1 z2 z3);(simp only [Tree.k_mk,Tree.v_mk,Tree.ks_mk]);(have y0:=zahk fk fv fs c2');(generalize zaav fk fv fs c2' = y at *);(obtain ⟨⟨xa,xb,xc⟩,okt⟩:=y);(simp only [zaad] at y0);(obtain ⟨y1,y2,y3,y4⟩:=y0);(refine Xv 3 ?_);(simp [go_sem]))
 | refine Qc (id:=3) Zn [20] (by kernel_rfl) ?_;simp [-zg,-zd,↓Qb,↓Qa,go_sem];try (refine ⟨fun s3a=>?_,fun s3a=>?_⟩ <;> (try simp [B_iff,B_not] at s3a) <;> try (refine ⟨fun s3b=>?_,fun s3b=>?_⟩ <;> (try simp [B_iff,B_not] at s3b)))
 | refine Qc (id:=4) Zn [] (by kernel_rfl) ?_;simp [-zg,-zd,↓Qb,↓Qa,go_sem]
 | refine Qc (id:=5) Zn [] (by kernel_rfl) ?_;simp [-zg,-zd,↓Qb,↓Qa,go_sem,hl,(show 0 ≤ p0 by omega),(show p0 ≤ 1000000 by omega),(show 0 ≤ p0 + 1 by omega),(show p0 + 1 ≤ 1000000 by omega)];try ((have hr:=Un ys (p:=p0) (by omega) (xs:=[3,2,4,1,5]) (lo:=1) (hi:=5) (by simp) (by simp));(generalize numI ys p0 [3,2,4,1,5] = nn at *);(obtain ⟨n1,hn1⟩:∃ n1:Nat,nn = (n1:Int):=⟨nn.toNat,by omega⟩);(subst hn1))
 | refine Qc (id:=6) Zn [] (by kernel_rfl) ?_;simp [-zg,-zd,↓Qb,↓Qa,go_sem,make_cB,(by omega:(n1:Int) ≤ 281474976710656),(by omega:(n1:Int) ≤ 9223372036854775807),(by omega:(0:Int) ≤ (n1:Int))];try ((refine AW_boxNilM 6 rfl ?_);(refine Xu 6 rfl fun ab hab=>?_);(have nba:¬ b = ab:=(by rintro rfl;simp [upd] at hab));(clear hab);(refine Xs ab 1 (all:=[.fr 1 0 [],.fr 1 n1 (cat cB (zrP n1 false)),.fr 4 0 []]) (by simp [upd]) rfl fun yb cy jy hyb hcy hdy=>?_);(have nby:¬ b = yb:=(by rintro rfl;simp [upd,nba] at hyb));(have nay:¬ ab = yb:=(by rintro rfl;simp [upd] at hyb));(clear hyb);(refine Qq (fun H1=>LA1 b ab yb ys n1 cy jy p0 ⟨0,[],zrP n1 false,p0 + 1,H1⟩) ⟨Nat.zero_le _,Nat.le_refl _,by simp,by dsimp only;omega,by dsimp only;omega,by simp [upd,nba,zS nba,nby,zS nby,nay,zS nay],by simp [upd,nba,zS nba,nby,zS nby,nay,zS nay,Xg],by simp [upd]⟩ fun H2 hL=>?_))
 | refine Qc (id:=7) Zn [] (by kernel_rfl) ?_;simp [-zg,-zd,↓Qb,↓Qa,go_sem]
 | ((obtain ⟨g1,g2,g3,g4,g5,g6,g7,g8⟩:=id hq));refine Qc (id:=8) Zn [] (by kernel_rfl) ?_;simp [-zg,-zd,↓Qb,↓Qa,go_sem]
 | refine Xq (id:=10) Zn mixed [(ab,[.fr 1 q.js.length (cat cI q.js),.sl yb 1 0 n1 cy,.fr 4 0 []])] [] [] (by kernel_rfl) (by kernel_rfl) (by simp [-zg,-zd,↓Qb,↓Qa,go_sem,g6,g7,g8,hl,nba,zS nba,nby,zS nby,nay,zS nay,(show 0 ≤ q.q by omega),(show q.q ≤ 1000000 by omega),(show 0 ≤ q.q + 1 by omega),(show q.q + 1 ≤ 1000000 by omega),(show q.k < n1 by omega),(show q.k < n1 + jy by omega),(show q.k + 1 ≤ n1 + jy by omega),(show q.k < q.qs.length by omega),g3]) (by simp [-zg,-zd,↓Qb,↓Qa,go_sem,g6,g7,g8,hl,nba,zS nba,nby,zS nby,nay,zS nay,(show 0 ≤ q.q by omega),(show q.q ≤ 1000000 by omega),(show 0 ≤ q.q + 1 by omega),(show q.q + 1 ≤ 1000000 by omega),(show q.k < n1 by omega),(show q.k < n1 + jy by omega),(show q.k + 1 ≤ n1 + jy by omega),(show q.k < q.qs.length by omega),g3]) ?_;simp [-zg,-zd,↓Qb,↓Qa,go_sem,g6,g7,g8,hl,nba,zS nba,nby,zS nby,nay,zS nay,(show 0 ≤ q.q by omega),(show q.q ≤ 1000000 by omega),(show 0 ≤ q.q + 1 by omega),(show q.q + 1 ≤ 1000000 by omega),(show q.k < n1 by omega),(show q.k < n1 + jy by omega),(show q.k + 1 ≤ n1 + jy by omega),(show q.k < q.qs.length by omega),g3];try ((generalize decide (pkI ys q.q 3 = 0) = ac at *);(refine Qq (fun H1=>H1 b = some [.list ys.length (cat cY ys),.int .i64 (q.q + 1)] ∧ H1 ab = some [.fr 1 q.js.length (cat cI q.js),.sl yb 1 0 n1 cy,.fr 4 0 []] ∧ H1 yb = some (cat cB (q.qs.set q.k ac) ++ zrP jy .any)) ⟨by simp [upd,nba,zS nba,nby,zS nby,nay,zS nay],by simp [upd,nba,zS nba,nby,zS nby,nay,zS nay,g7],by simp [upd,nba,zS nba,nby,zS nby,nay,zS nay]⟩ fun H2 ⟨v1,v2,v3⟩=>?_))
 | refine Qc (id:=11) Zn [47,52] (by kernel_rfl) ?_;simp [-zg,-zd,↓Qb,↓Qa,go_sem,v1,hl,(show 0 ≤ q.q + 1 by omega),(show q.q + 1 ≤ 1000000 by omega),(show 0 ≤ q.q + 1 + 1 by omega),(show q.q + 1 + 1 ≤ 1000000 by omega),(show 0 ≤ q.q + 1 + 1 + 1 by omega),(show q.q + 1 + 1 + 1 ≤ 1000000 by omega)];try (refine ⟨fun s11a=>?_,fun s11a=>?_⟩ <;> (try simp [B_iff,B_not] at s11a) <;> try (refine ⟨fun s11b=>?_,fun s11b=>?_⟩ <;> (try simp [B_iff,B_not] at s11b) <;> try (refine ⟨fun s11c=>?_,fun s11c=>?_⟩ <;> (try simp [B_iff,B_not] at s11c))))
 | (first | (refine Qq (fun H1=>LB b ab yb ys n1 cy jy p0 ⟨q.k,q.js,q.qs.set q.k ac,q.q + 1 + 1 + 1,H1⟩) ?_ fun H3 hB=>?_;(focus (refine ⟨?_,?_,?_,?_,?_,?_,?_,?_⟩ <;> first | omega | (dsimp only;omega) | (simp;done) | (simp;omega) | (simp [upd,nba,zS nba,nby,zS nby,nay,zS nay,v1,v2,v3];done)));obtain ⟨q2,hq2⟩:∃ x,q.q + 1 + 1 + 1 = x:=⟨_,rfl⟩;rw [hq2] at hB) | (refine Qq (fun H1=>LB b ab yb ys n1 cy jy p0 ⟨q.k,q.js,q.qs.set q.k ac,q.q + 1 + 1,H1⟩) ?_ fun H3 hB=>?_;(focus (refine ⟨?_,?_,?_,?_,?_,?_,?_,?_⟩ <;> first | omega | (dsimp only;omega) | (simp;done) | (simp;omega) | (simp [upd,nba,zS nba,nby,zS nby,nay,zS nay,v1,v2,v3];done)));obtain ⟨q2,hq2⟩:∃ x,q.q + 1 + 1 = x:=⟨_,rfl⟩;rw [hq2] at hB) | (refine Qq (fun H1=>LB b ab yb ys n1 cy jy p0 ⟨q.k,q.js,q.qs.set q.k ac,q.q + 1,H1⟩) ?_ fun H3 hB=>?_;(focus (refine ⟨?_,?_,?_,?_,?_,?_,?_,?_⟩ <;> first | omega | (dsimp only;omega) | (simp;done) | (simp;omega) | (simp [upd,nba,zS nba,nby,zS nby,nay,zS nay,v1,v2,v3];done)));obtain ⟨q2,hq2⟩:∃ x,q.q + 1 = x:=⟨_,rfl⟩;rw [hq2] at hB));refine Qc (id:=12) Zn [] (by kernel_rfl) ?_;simp [-zg,-zd,↓Qb,↓Qa,go_sem,(show H3 ab = some [.fr 1 q.js.length (cat cI q.js),.sl yb 1 0 n1 cy,.fr 4 0 []] from hB.2.2.2.2.2.2.1),(show q.js.length ≤ 9223372036854775806 by omega),(show 2 * (q.js.length + 1) * 8 ≤ 281474976710656 by omega),Ja];try ((refine Qq (fun H1=>LA1 b ab yb ys n1 cy jy p0 ⟨q.k + 1,q.js ++ [(q.k:Int)],q.qs.set q.k ac,q2,H1⟩) ⟨by have:=hB.1;dsimp only;omega,by simp;omega,hB.2.2.1,by have:=hB.2.2.2.1;dsimp only at this ⊢;omega,by have:=hB.2.2.2.2.1;dsimp only at this ⊢;omega,by have:=hB.2.2.2.2.2.1;simpa [upd,nba,zS nba,nby,zS nby,nay,zS nay] using this,by simp [upd],by have:=hB.2.2.2.2.2.2.2;simpa [upd,nba,zS nba,nby,zS nby,nay,zS nay] using this⟩ fun H4 hz=>?_);(obtain ⟨zz,hzz⟩:∃ zz:LA,zz = ⟨q.k + 1,q.js ++ [(q.k:Int)],q.qs.set q.k ac,q2,H4⟩:=⟨_,rfl⟩);(rw [← hzz] at hz);(have z1:(q.k:Int) + 1 = (zz.k:Int):=(by rw [hzz];dsimp only;omega));(have z4:H4 = zz.H:=(by rw [hzz]));(rw [z4]);(clear hzz hB))
 | (first | (have z9:=z1) | ((first | (refine Qq (fun H1=>LB b ab yb ys n1 cy jy p0 ⟨q.k,q.js,q.qs.set q.k ac,q.q + 1 + 1 + 1,H1⟩) ?_ fun H3 hB=>?_;(focus (refine ⟨?_,?_,?_,?_,?_,?_,?_,?_⟩ <;> first | omega | (dsimp only;omega) | (simp;done) | (simp;omega) | (simp [upd,nba,zS nba,nby,zS nby,nay,zS nay,v1,v2,v3];done)));obtain ⟨q2,hq2⟩:∃ x,q.q + 1 + 1 + 1 = x:=⟨_,rfl⟩;rw [hq2] at hB) | (refine Qq (fun H1=>LB b ab yb ys n1 cy jy p0 ⟨q.k,q.js,q.qs.set q.k ac,q.q + 1 + 1,H1⟩) ?_ fun H3 hB=>?_;(focus (refine ⟨?_,?_,?_,?_,?_,?_,?_,?_⟩ <;> first | omega | (dsimp only;omega) | (simp;done) | (simp;omega) | (simp [upd,nba,zS nba,nby,zS nby,nay,zS nay,v1,v2,v3];done)));obtain ⟨q2,hq2⟩:∃ x,q.q + 1 + 1 = x:=⟨_,rfl⟩;rw [hq2] at hB) | (refine Qq (fun H1=>LB b ab yb ys n1 cy jy p0 ⟨q.k,q.js,q.qs.set q.k ac,q.q + 1,H1⟩) ?_ fun H3 hB=>?_;(focus (refine ⟨?_,?_,?_,?_,?_,?_,?_,?_⟩ <;> first | omega | (dsimp only;omega) | (simp;done) | (simp;omega) | (simp [upd,nba,zS nba,nby,zS nby,nay,zS nay,v1,v2,v3];done)));obtain ⟨q2,hq2⟩:∃ x,q.q + 1 = x:=⟨_,rfl⟩;rw [hq2] at hB));(obtain ⟨zz,hzz⟩:∃ zz:LA,zz = ⟨q.k + 1,q.js,q.qs.set q.k ac,q2,H3⟩:=⟨_,rfl⟩);(have hz:LA1 b ab yb ys n1 cy jy p0 zz:=(by rw [hzz];exact hB.skip));(have z1:(q.k:Int) + 1 = (zz.k:Int):=(by rw [hzz];dsimp only;omega));(have z4:H3 = zz.H:=(by rw [hzz]));(rw [z4]);(clear hzz hB)));refine Qc (id:=9) Zn [] (by kernel_rfl) ?_;simp [-zg,-zd,↓Qb,↓Qa,go_sem,wrapS (k:=q.k) (by omega)]
 | ((obtain ⟨g1,g2,g3,g4,g5,g6,g7,g8⟩:=hq));refine Qc (id:=13) Zn [] (by kernel_rfl) ?_;simp [-zg,-zd,↓Qb,↓Qa,go_sem,g6,hl,(show 0 ≤ q.q by omega),(show q.q ≤ 1000000 by omega),(show 0 ≤ q.q + 1 by omega),(show q.q + 1 ≤ 1000000 by omega)];try ((have hr2:=Un ys (p:=q.q) (by omega) (xs:=[6,4,8,3,10]) (lo:=3) (hi:=10) (by simp) (by simp));(generalize numI ys q.q [6,4,8,3,10] = mm at *);(refine Qq (fun H1=>LE2 b ab yb ys n1 cy jy q.q q.js q.qs ⟨[],mm,q.q + 1,H1⟩) ⟨by dsimp only;omega,by simp;omega,SmallT.nil,by dsimp only;omega,by dsimp only;omega,by simp [upd,nba,zS nba,nby,zS nby,nay,zS nay],by simp [upd,nba,zS nba,nby,zS nby,nay,zS nay,g7,Xg],by simp [upd,nba,zS nba,nby,zS nby,nay,zS nay,g8]⟩ fun H2 hE=>?_))
 | ((obtain ⟨e1,e2,e3,e4,e5,e6,e7,e8⟩:=id hr));refine Qc (id:=14) Zn [] (by kernel_rfl) ?_;simp [-zg,-zd,↓Qb,↓Qa,go_sem]
 | refine Qc (id:=16) Zn [] (by kernel_rfl) ?_;simp [-zg,-zd,↓Qb,↓Qa,go_sem,e6,hl,(show 0 ≤ r.q by omega),(show r.q ≤ 1000000 by omega),(show 0 ≤ r.q + 1 by omega),(show r.q + 1 ≤ 1000000 by omega)];try ((generalize numI ys r.q [1,3,0,2,7] = care at *);(refine Qq (fun H1=>H1 b = some [.list ys.length (cat cY ys),.int .i64 (r.q + 1)] ∧ H1 ab = some [.fr 1 q.js.length (cat cI q.js),.sl yb 1 0 n1 cy,.fr 4 r.es.length (cat cT r.es)] ∧ H1 yb = some (cat cB q.qs ++ zrP jy .any)) ⟨by simp [upd,nba,zS nba,nby,zS nby,nay,zS nay],by simp [upd,nba,zS nba,nby,zS nby,nay,zS nay,e7],by simp [upd,nba,zS nba,nby,zS nby,nay,zS nay,e8]⟩ fun H3 ⟨v1,v2,v3⟩=>?_))
 | ((refine Xs ab 2 (all:=[.fr 1 q.js.length (cat cI q.js),.sl yb 1 0 n1 cy,.fr 4 r.es.length (cat cT r.es)]) v2 rfl fun zb cz jz hzb hcz hdz=>?_);(have nbz:¬ b = zb:=(by rintro rfl;simp [upd,nba,v1] at hzb));(have naz:¬ ab = zb:=(by rintro rfl;simp [upd,v2] at hzb));(have nyz:¬ yb = zb:=(by rintro rfl;simp [upd,v3,zS nay] at hzb));(clear hzb));refine Xq (id:=17) Zn mixed [(ab,[.fr 1 q.js.length (cat cI q.js),.sl yb 1 0 n1 cy,.sl zb 4 0 r.es.length cz])] [] [0,9,5] (by kernel_rfl) (by kernel_rfl) (by simp [-zg,-zd,↓Qb,↓Qa,go_sem,v1,hl,nba,zS nba,nby,zS nby,nay,zS nay,nbz,zS nbz,naz,zS naz,nyz,zS nyz,(show 0 ≤ r.q + 1 by omega),(show r.q + 1 ≤ 1000000 by omega),(show 0 ≤ r.q + 1 + 1 by omega),(show r.q + 1 + 1 ≤ 1000000 by omega),(show 0 ≤ r.q + 1 + 1 + 1 by omega),(show r.q + 1 + 1 + 1 ≤ 1000000 by omega),(show 0 ≤ r.q + 1 + 1 + 1 + 1 by omega),(show r.q + 1 + 1 + 1 + 1 ≤ 1000000 by omega),(show (n1:Int) ≤ 1000000 by omega),(show r.es.length ≤ 9223372036854775806 by omega),(show 2 * (r.es.length + 1) * 32 ≤ 281474976710656 by omega),hdz]) (by simp [-zg,-zd,↓Qb,↓Qa,go_sem,v1,hl,nba,zS nba,nby,zS nby,nay,zS nay,nbz,zS nbz,naz,zS naz,nyz,zS nyz,(show 0 ≤ r.q + 1 by omega),(show r.q + 1 ≤ 1000000 by omega),(show 0 ≤ r.q + 1 + 1 by omega),(show r.q + 1 + 1 ≤ 1000000 by omega),(show 0 ≤ r.q + 1 + 1 + 1 by omega),(show r.q + 1 + 1 + 1 ≤ 1000000 by omega),(show 0 ≤ r.q + 1 + 1 + 1 + 1 by omega),(show r.q + 1 + 1 + 1 + 1 ≤ 1000000 by omega),(show (n1:Int) ≤ 1000000 by omega),(show r.es.length ≤ 9223372036854775806 by omega),(show 2 * (r.es.length + 1) * 32 ≤ 281474976710656 by omega),hdz]) ?_;simp [-zg,-zd,↓Qb,↓Qa,go_sem,v1,hl,nba,zS nba,nby,zS nby,nay,zS nay,nbz,zS nbz,naz,zS naz,nyz,zS nyz,(show 0 ≤ r.q + 1 by omega),(show r.q + 1 ≤ 1000000 by omega),(show 0 ≤ r.q + 1 + 1 by omega),(show r.q + 1 + 1 ≤ 1000000 by omega),(show 0 ≤ r.q + 1 + 1 + 1 by omega),(show r.q + 1 + 1 + 1 ≤ 1000000 by omega),(show 0 ≤ r.q + 1 + 1 + 1 + 1 by omega),(show r.q + 1 + 1 + 1 + 1 ≤ 1000000 by omega),(show (n1:Int) ≤ 1000000 by omega),(show r.es.length ≤ 9223372036854775806 by omega),(show 2 * (r.es.length + 1) * 32 ≤ 281474976710656 by omega),hdz];try ((have hsm:bitsD .and .i64 (pkI ys (r.q + 1 + 1) 8) care ≤ 9223372036854775807:=bitsA_le _ _);(refine Qq (fun H1=>LE2 b ab yb ys n1 cy jy q.q q.js q.qs ⟨r.es ++ [(pkI ys (r.q + 1) n1,care,bitsD .and .i64 (pkI ys (r.q + 1 + 1) 8) care,pkI ys (r.q + 1 + 1 + 1) n1)],r.m - 1,r.q + 1 + 1 + 1 + 1,H1⟩) ⟨by dsimp only;omega,by simp;omega,e3.snoc hsm,by dsimp only;omega,by dsimp only;omega,by simp [upd,nba,zS nba,nby,zS nby,nay,zS nay,nbz,zS nbz,naz,zS naz],by simp [upd,nba,zS nba,nby,zS nby,nay,zS nay,nbz,zS nbz,naz,zS naz,snoc_cT],by simp [upd,nba,zS nba,nby,zS nby,nay,zS nay,nbz,zS nbz,naz,zS naz,nyz,zS nyz,v3]⟩ fun H4 hE4=>?_);(generalize ((pkI ys (r.q + 1) n1,care,bitsD .and .i64 (pkI ys (r.q + 1 + 1) 8) care,pkI ys (r.q + 1 + 1 + 1) n1):Tr4) = ed at *))
 | refine Qc (id:=15) Zn [] (by kernel_rfl) ?_;simp [-zg,-zd,↓Qb,↓Qa,go_sem,Qw (x:=r.m - 1) (by omega) (by omega)]
 | ((obtain ⟨e1,e2,e3,e4,e5,e6,e7,e8⟩:=hr);(refine Zh ab 1 (b':=yb) (sz:=1) (m:=n1) (cp:=cy) (all:=[.fr 1 q.js.length (cat cI q.js),.sl yb 1 0 n1 cy,.fr 4 r.es.length (cat cT r.es)]) (cs:=cat cB q.qs ++ zrP jy .any) e7 rfl nay e8 (by omega) (by simp [Qx];omega) (by simp [Qx];omega) ?_);(simp only [Nat.mul_one,Zg (f:=cB) q.qs (zrP jy D.any) (n:=n1) g3.symm]));refine Qc (id:=18) Zn [] (by kernel_rfl) ?_;simp [-zg,-zd,↓Qb,↓Qa,go_sem,nba,zS nba,nby,zS nby,nay,zS nay]
 | refine Qd (c:=.tmp 12) ?_;simp [-zg,-zd,↓Qb,↓Qa,go_sem];try first | (refine ⟨?_,?_⟩ <;> refine zA ?_) | (refine ⟨fun c12=>?_,fun c12=>?_⟩ <;> (try simp [B_iff,B_not] at c12))
 | refine Qd (c:=.tmp 25) ?_;simp [-zg,-zd,↓Qb,↓Qa,go_sem];try first | (refine ⟨?_,?_⟩ <;> refine zA ?_) | (refine ⟨fun c25=>?_,fun c25=>?_⟩ <;> (try simp [B_iff,B_not] at c25))
 | refine Qd (c:=.tmp 35) ?_;simp [-zg,-zd,↓Qb,↓Qa,go_sem];try first | (refine ⟨?_,?_⟩ <;> refine zA ?_) | (refine ⟨fun c35=>?_,fun c35=>?_⟩ <;> (try simp [B_iff,B_not] at c35))
 | refine Qd (c:=.tmp 56) ?_;simp [-zg,-zd,↓Qb,↓Qa,go_sem];try first | (refine ⟨?_,?_⟩ <;> refine zA ?_) | (refine ⟨fun c56=>?_,fun c56=>?_⟩ <;> (try simp [B_iff,B_not] at c56))
 | refine Qd (c:=.tmp 67) ?_;simp [-zg,-zd,↓Qb,↓Qa,go_sem];try first | (refine ⟨?_,?_⟩ <;> refine zA ?_) | (refine ⟨fun c67=>?_,fun c67=>?_⟩ <;> (try simp [B_iff,B_not] at c67))
 | (refine Qe (id:=0) (Qz (ι:=LA) (fun q:LA=>⟨(upd (upd (upd (upd (upd (fun _=>.any) 0 (.ptr b 0)) 2 (.box [.nil,.nil,.nil])) 5 (.int .i64 (n1:Int))) 6 (.ptr ab 0)) 7 (.int .i64 (q.k:Int))),q.H⟩) (fun q=>LA1 b ab yb ys n1 cy jy p0 q) (fun q=>n1 - q.k) (⟨0,[],zrP n1 false,p0 + 1,H2⟩) ?_ ?_ ?_);exact hL;((repeat' (first | exact Qg (by assumption) | exact Qi | refine Qf ?_ ?_ | refine Qh ?_)) <;> simp [-zg,-zd,↓Qb,↓Qa,go_sem]);rintro q hq)
 | (refine ⟨zz,hz,by first | omega | (simp;done) | (simp;omega),?_⟩;((repeat' (first | exact Qg (by assumption) | exact Qi | refine Qf ?_ ?_ | refine Qh ?_)) <;> simp [-zg,-zd,↓Qb,↓Qa,go_sem,z1]))
 | (refine Qe (id:=2) (Qz (ι:=LE) (fun r:LE=>⟨(upd (upd (upd (upd (upd (fun _=>.any) 0 (.ptr b 0)) 2 (.box [.nil,.nil,.nil])) 5 (.int .i64 (n1:Int))) 6 (.ptr ab 0)) 8 (.int .i64 r.m)),r.H⟩) (fun r=>LE2 b ab yb ys n1 cy jy q.q q.js q.qs r) (fun r=>r.m.toNat) (⟨[],mm,q.q + 1,H2⟩) ?_ ?_ ?_);exact hE;((repeat' (first | exact Qg (by assumption) | exact Qi | refine Qf ?_ ?_ | refine Qh ?_)) <;> simp [-zg,-zd,↓Qb,↓Qa,go_sem]);rintro r hr)
 | (refine ⟨⟨r.es ++ [ed],r.m - 1,r.q + 1 + 1 + 1 + 1,H4⟩,hE4,by first | omega | (simp;done) | (simp;omega),?_⟩;((repeat' (first | exact Qg (by assumption) | exact Qi | refine Qf ?_ ?_ | refine Qh ?_)) <;> simp [-zg,-zd,↓Qb,↓Qa,go_sem]))
 | (refine Qe ?_)
 | (refine Qt ?_;simp [-zg,-zd,↓Qb,↓Qa,go_sem])
 | (refine Qs ?_;simp [-zg,-zd,↓Qb,↓Qa,go_sem])
 | (refine Qv ?_;try simp [-zg,-zd,↓Qb,↓Qa,go_sem,Try.results40])
 | (intro hx;refine zA ?_)
 | (intro hx;change retR _ _ _ _ _)
 | (refine ⟨?_,?_⟩ <;> refine zA ?_)
 | (intro hx;constructor <;> intro hs)
 | (constructor <;> intro hs)
 | (refine ⟨?_,fun hs=>?_⟩;refine zA ?_)
 | (refine ⟨fun hs=>?_,?_⟩;rotate_left;refine zA ?_;rotate_left)))
  all_goals (first
 | (refine ⟨p + 1,by omega,by omega,?_,?_,?_⟩ <;> simp [upd,go_sem];done)
 | (refine ⟨p2,by omega,by omega,?_,?_,?_⟩ <;> simp [upd,go_sem];done)
 | (refine zafn _ _ _ ((xa,xb,xc)) (p2) ?_ ?_ ?_ ?_;(first | exact Or.inl rfl | exact Or.inr rfl);(focus (simp [-zg,-zd,↓Qb,↓Qa,go_sem,Try.results40,dat,Xd,li,Zj];done));(focus ((exact ⟨by dsimp only;omega,by dsimp only;omega,by dsimp only;omega,y4⟩);done));(focus (refine ⟨?_,?_⟩ <;> omega)))
 | (refine zafn _ _ _ ((q.js,q.qs,r.es)) (r.q) ?_ ?_ ?_ ?_;(first | exact Or.inl rfl | exact Or.inr rfl);(focus (simp [-zg,-zd,↓Qb,↓Qa,go_sem,Try.results40,dat,Xd,li,Zj,e6,g3,nba,zS nba,nby,zS nby,nay,zS nay];done));(focus ((exact ⟨by dsimp only;omega,by dsimp only;omega,by dsimp only;omega,e3⟩);done));(focus (refine ⟨?_,?_⟩ <;> omega)))
 | skip)
@[go_sem] def zafz:Con:=.rel fun args H=>match args with
  | [.ptr b 0]=>match H b with
    | some [.list m cs,.int .i64 p]=>((Is cY m cs) ∧ (m ≤ 2000) ∧ (0 ≤ p) ∧ (p + 300 ≤ 1000000),fun c=>(Ug (Xk p c).1,upd H b (some [.list m cs,.int .i64 (Xk p c).2])))
    | _=>(False,fun _=>(.any,H))
  | _=>(False,fun _=>(.any,H))
theorem zane:ConOk Try.prog 40 zafz:=by
  refine ⟨Qp Try.func40 (by decide) rfl,fun args H h=>?_⟩
  revert h
  dsimp only
  split
  · split
    · rename_i hH
      intro h
      obtain ⟨⟨ys,rfl,rfl⟩,hl,h0_,hp_⟩:=h
      try simp only [Qr] at *
      exact SpecR.enc ((zalk ys _ _ hl h0_ hp_ ).frame hH).shut fun c=>Prod.ext (zafo  _ _).2.symm rfl
    · intro h;exact h.elim
  · intro h
    exact h.elim
@[go_sem] def Γy27:FuncId → Con:=ext Γy26 40 zafz
theorem Zt:∀ g,ConOk Try.prog g (Γy27 g):=Qo Zn zane

end
end Go.Proofs.Ytnfldmfamnhpcaa.Vm

