import Derived.Test.YtiilmjojffjhlaaGreatDoorY7
/-
  Draws: automata. No conditions.
-/
namespace Go.Proofs.YtiilmjojffjhlaaGreatDoor.Vm
open Go
open List renaming getD_eq_getElem?_getD → zg,drop_one → zd,replicate → zrP
open Ne renaming symm → zS
noncomputable section
set_option linter.unusedVariables false
set_option linter.unusedSimpArgs false
set_option maxRecDepth 200000

theorem bitsA_le (x y:Int):bitsD .and .i64 x y ≤ 9223372036854775807:=by
  show IntKind.i64.wrap _ ≤ _
  unfold IntKind.wrap;simp [IntKind.bits,IntKind.signed];split <;> omega
abbrev Au:=List Int × List Bool × List Tr4
@[go_sem] def sA (x:Au):D:=.st [li cI x.1,li cB x.2.1,li cT x.2.2]
def AuS (x:Au):Prop:=x.1.length ≤ 5000 ∧ x.2.1.length ≤ 5000 ∧ x.2.2.length ≤ 5000 ∧ SmallT x.2.2
theorem AuS.nil:AuS ([],[],[]):=⟨by simp,by simp,by simp,SmallT.nil⟩
structure LA where
  k:Nat
  js:List Int
  qs:List Bool
  q:Int
  H:Hp
def LA1 (b ab yb:Nat) (ys:List UInt8) (n1 cy jy:Nat) (p0:Int) (q:LA):Prop:=q.k ≤ n1 ∧ q.js.length ≤ q.k ∧ q.qs.length = n1 ∧ p0 + 1 ≤ q.q ∧ q.q ≤ p0 + 1 + 3 * q.k ∧ q.H b = some [.list ys.length (cat cY ys),.int .i64 (q.q)] ∧ q.H ab = some [.fr 1 q.js.length (cat cI q.js),.sl yb 1 0 n1 cy,.fr 4 0 []] ∧ q.H yb = some (cat cB q.qs ++ zrP jy .any)
def LB (b ab yb:Nat) (ys:List UInt8) (n1 cy jy:Nat) (p0:Int) (q:LA):Prop:=q.k < n1 ∧ q.js.length ≤ q.k ∧ q.qs.length = n1 ∧ p0 + 1 ≤ q.q ∧ q.q ≤ p0 + 1 + 3 * q.k + 3 ∧ q.H b = some [.list ys.length (cat cY ys),.int .i64 (q.q)] ∧ q.H ab = some [.fr 1 q.js.length (cat cI q.js),.sl yb 1 0 n1 cy,.fr 4 0 []] ∧ q.H yb = some (cat cB q.qs ++ zrP jy .any)
theorem LB.skip {b ab yb:Nat} {ys:List UInt8} {n1 cy jy:Nat} {p0:Int} {k:Nat} {js:List Int} {qs:List Bool} {q2:Int} {H:Hp} (h:LB b ab yb ys n1 cy jy p0 ⟨k,js,qs,q2,H⟩):LA1 b ab yb ys n1 cy jy p0 ⟨k + 1,js,qs,q2,H⟩:=by
  obtain ⟨h1,h2,h3,h4,h5,h6,h7,h8⟩:=h
  dsimp only at h1 h2 h3 h4 h5 h6 h7 h8
  exact ⟨by dsimp only;omega,by dsimp only;omega,h3,h4,by dsimp only;omega,h6,h7,h8⟩
def MA (b:Nat) (ys:List UInt8) (p:Int) (S:St):Prop:=∃ p0:Int,p + 1 ≤ p0 ∧ p0 ≤ p + 101 ∧ S.T 0 = .ptr b 0 ∧ S.T 2 = .box [.nil,.nil,.nil] ∧ S.H b = some [.list ys.length (cat cY ys),.int .i64 p0]
theorem MA.sub {b:Nat} {ys:List UInt8} {p0:Int} {S:St} (h0:S.T 0 = .ptr b 0) (h2:S.T 2 = .box [.nil,.nil,.nil]) (h3:S.H b = some [.list ys.length (cat cY ys),.int .i64 p0]):Sub S ⟨upd (upd (fun _=>.any) 0 (.ptr b 0)) 2 (.box [.nil,.nil,.nil]),upd (fun _=>none) b (some [.list ys.length (cat cY ys),.int .i64 p0])⟩ :=
  Qj (Qj (Qk fun b' cs h=>by
    by_cases e:b' = b
    · subst e;rw [Qh] at h;rw [h3];exact h
    · rw [Qd e] at h;cases h) h0) h2
theorem AW_merge {P:Program} {B:Base} {n:Nat} {S:St} {c:Code} {K:St → Prop} {Q:Exit → St → Prop} (M:St → Prop) (h1:AW P B n c (Exit.thenA M Q) S) (h2:∀ S',M S' → K S'):AW P B n c (Exit.thenA K Q) S :=
  AW_mono h1 fun e S' hq=>by
    cases e with
    | normal=>exact h2 S' hq
    | _=>exact hq
structure LE where
  es:List Tr4
  m:Int
  q:Int
  H:Hp
def LE2 (b ab yb:Nat) (ys:List UInt8) (n1 cy jy:Nat) (q0:Int) (js:List Int) (qs:List Bool) (r:LE):Prop:=(0 ≤ r.m ∧ r.m ≤ 10) ∧ (r.es.length:Int) + r.m ≤ 10 ∧ SmallT r.es ∧ q0 + 1 ≤ r.q ∧ r.q ≤ q0 + 1 + 4 * (10 - r.m) ∧ r.H b = some [.list ys.length (cat cY ys),.int .i64 (r.q)] ∧ r.H ab = some [.fr 1 js.length (cat cI js),.sl yb 1 0 n1 cy,.fr 4 r.es.length (cat cT r.es)] ∧ r.H yb = some (cat cB qs ++ zrP jy .any)
theorem AW_boxNilM {P:Program} {B:Base} {n:Nat} {S:St} {c:Code} {Q:Exit → St → Prop} (t:Nat) {d:D} (hT:S.T t = .box [.nil,d,.nil]) (h:AW P B n c Q ⟨upd S.T t (.box [.fr 1 0 [],d,.fr 4 0 []]),S.H⟩):AW P B n c Q S :=
  zamg t hT (fun μ I w vs f hr=>by
    simp only [RepL] at hr ⊢
    obtain ⟨v,vs',f1,f2,e1,e2,r1,v2,vs2,g1,g2,e3,e4,r2,v3,vs3,g3,g4,e5,e6,r3,r4⟩:=hr
    exact ⟨v,vs',f1,f2,e1,e2,zado r1,v2,vs2,g1,g2,e3,e4,r2,v3,vs3,g3,g4,e5,e6,zado r3,r4⟩) (fun N hb=>by simp only [bndL,bnd] at hb ⊢;exact ⟨trivial,hb.2.1,trivial,trivial⟩) h

@[go_sem] def Vo:Au → D:=sA
theorem zalh (x:Au):dat (Vo x) = Vo x:=by simp [go_sem]
def zaaz  : Au → Prop:=fun x=>AuS x
def zaeb  (x:(Au) × D):Prop:=zaaz x.1 ∧ dat x.2 = Vo x.1
def zaah  (p:Int) (c:Any):((Au) × D) × Int:=dsel (zaeb) ((([],[],[]):Au),Vo (([],[],[]))) 300 p c
def Xn  (p:Int) (c:Any):(Au) × Int:=((zaah p c).1.1,(zaah p c).2)
theorem zaga   (p:Int) (c:Any):(zaaz (Xn p c).1 ∧ p ≤ (Xn p c).2 ∧ (Xn p c).2 ≤ p + 300) ∧ dat (zaah p c).1.2 = Vo (Xn p c).1:=by
  have hx:zaaz (([],[],[])):=AuS.nil
  have h:=dsel_ok (good:=zaeb) (x0:=((([],[],[]):Au),Vo (([],[],[])))) ⟨hx,zalh _⟩ (K:=300) (by omega) (p:=p) c
  exact ⟨⟨h.1.1,h.2.1,h.2.2⟩,h.1.2⟩
theorem zahg   (p:Int) (c:Any):zaaz (Xn p c).1 ∧ p ≤ (Xn p c).2 ∧ (Xn p c).2 ≤ p + 300:=(zaga  p c).1
theorem zafz  (ys:List UInt8) (p:Int) (b:Nat) {e_:Exit} {S_:St} (x:Au) (p':Int) (he_:e_ = .ret ∨ e_ = .normal)
    (h1:(Qg Tryz.prog S_ Tryz.f61.results.toList).1 ∧ dat (resD (Qg Tryz.prog S_ Tryz.f61.results.toList).2.1) = Vo x ∧ (Qg Tryz.prog S_ Tryz.f61.results.toList).2.2.H b = some [li cY ys,.int .i64 p']) (hg:zaaz x) (h2:p ≤ p' ∧ p' ≤ p + 300) :
    retR Tryz.prog Tryz.f61 (fun c=>((zaah p c).1.2,one b [li cY ys,.int .i64 (zaah p c).2])) e_ S_ :=
  ret_draw (good:=zaeb) (enc:=fun x:(Au) × D=>x.2) (cells:=fun q=>[li cY ys,.int .i64 q]) (x,resD (Qg Tryz.prog S_ Tryz.f61.results.toList).2.1) p' he_ ⟨h1.1,rfl,h1.2.2⟩ ⟨hg,h1.2.1⟩ h2
set_option maxHeartbeats 16000000 in
theorem zalg (ys:List UInt8) (p:Int) (b:Nat)  (hl:ys.length ≤ 2000) (h0_:0 ≤ p) (hp_:p + 300 ≤ 1000000)  : SpecR Tryz.prog 61 [.ptr b 0] (one b [li cY ys,.int .i64 p]) (fun c=>((zaah p c).1.2,one b [li cY ys,.int .i64 (zaah p c).2])):=by
  refine SpecR.of_walk Tryz.func61 rfl (by simp [Tryz.f61]) fun B=>?_
  (repeat' (first
 | refine Qs ?_
 | refine Qc (id:=0) Xs [] (by kernel_rfl) ?_;simp [-zg,-zd,↓Qb,↓Qa,go_sem]
 | refine Qc (id:=1) Xs [] (by kernel_rfl) ?_;simp [-zg,-zd,↓Qb,↓Qa,go_sem,hl,(show 0 ≤ p by omega),(show p ≤ 1000000 by omega),(show 0 ≤ p + 1 by omega),(show p + 1 ≤ 1000000 by omega)];try ((refine AW_merge (MA b ys p) ?_ fun S' hM=>?_;rotate_left;(obtain ⟨p0,hq1,hq2,h0,h2,h3⟩:=hM;refine AW_less (S':=⟨upd (upd (fun _=>.any) 0 (.ptr b 0)) 2 (.box [.nil,.nil,.nil]),upd (fun _=>none) b (some [.list ys.length (cat cY ys),.int .i64 p0])⟩) (MA.sub h0 h2 h3) ?_)))
 | refine Qc (id:=2) Xs [] (by kernel_rfl) ?_;simp [-zg,-zd,↓Qb,↓Qa,go_sem,hl,(show 0 ≤ p + 1 by omega),(show p + 1 ≤ 1000000 by omega),(show 0 ≤ p + 1 + 1 by omega),(show p + 1 + 1 ≤ 1000000 by omega),(show p + 1 + 100 ≤ 1000000 by omega)];try ((intro c2 c2');(have z0:=l5Formula_ok (p + 1) c2);(generalize Jx (p + 1) c2 = z at *);(obtain ⟨z1,z2,z3⟩:=z0);(obtain ⟨⟨fk,fv,fs⟩,p2⟩:=z);(dsimp only at z1 z2 z3);(simp only [Tree.k_mk,Tree.v_mk,Tree.ks_mk]);(have y0:=zahr fk fv fs c2');(generalize zabd fk fv fs c2' = y at *);(obtain ⟨⟨xa,xb,xc⟩,okt⟩:=y);(simp only [zaae] at y0);(obtain ⟨y1,y2,y3,y4⟩:=y0);(refine Xw 3 ?_);(simp [go_sem]))
 | refine Qc (id:=3) Xs [20] (by kernel_rfl) ?_;simp [-zg,-zd,↓Qb,↓Qa,go_sem];try (refine ⟨fun s3a=>?_,fun s3a=>?_⟩ <;> (try simp [B_iff,B_not] at s3a) <;> try (refine ⟨fun s3b=>?_,fun s3b=>?_⟩ <;> (try simp [B_iff,B_not] at s3b)))
 | refine Qc (id:=4) Xs [] (by kernel_rfl) ?_;simp [-zg,-zd,↓Qb,↓Qa,go_sem]
 | refine Qc (id:=5) Xs [] (by kernel_rfl) ?_;simp [-zg,-zd,↓Qb,↓Qa,go_sem,hl,(show 0 ≤ p0 by omega),(show p0 ≤ 1000000 by omega),(show 0 ≤ p0 + 1 by omega),(show p0 + 1 ≤ 1000000 by omega)];try ((have hr:=zadp ys (p:=p0) (by omega) (xs:=[3,2,4,1,5]) (lo:=1) (hi:=5) (by simp) (by simp));(generalize numI ys p0 [3,2,4,1,5] = nn at *);(obtain ⟨n1,hn1⟩:∃ n1:Nat,nn = (n1:Int):=⟨nn.toNat,by omega⟩);(subst hn1))
 | refine Qc (id:=6) Xs [] (by kernel_rfl) ?_;simp [-zg,-zd,↓Qb,↓Qa,go_sem,make_cB,(by omega:(n1:Int) ≤ 281474976710656),(by omega:(n1:Int) ≤ 9223372036854775807),(by omega:(0:Int) ≤ (n1:Int))];try ((refine AW_boxNilM 6 rfl ?_);(refine Jd 6 rfl fun ab hab=>?_);(have nba:¬ b = ab:=(by rintro rfl;simp [upd] at hab));(clear hab);(refine Zo ab 1 (all:=[.fr 1 0 [],.fr 1 n1 (cat cB (zrP n1 false)),.fr 4 0 []]) (by simp [upd]) rfl fun yb cy jy hyb hcy hdy=>?_);(have nby:¬ b = yb:=(by rintro rfl;simp [upd,nba] at hyb));(have nay:¬ ab = yb:=(by rintro rfl;simp [upd] at hyb));(clear hyb);(refine Qx (fun H1=>LA1 b ab yb ys n1 cy jy p0 ⟨0,[],zrP n1 false,p0 + 1,H1⟩) ⟨Nat.zero_le _,Nat.le_refl _,by simp,by dsimp only;omega,by dsimp only;omega,by simp [upd,nba,zS nba,nby,zS nby,nay,zS nay],by simp [upd,nba,zS nba,nby,zS nby,nay,zS nay,Xh],by simp [upd]⟩ fun H2 hL=>?_))
 | refine Qc (id:=7) Xs [] (by kernel_rfl) ?_;simp [-zg,-zd,↓Qb,↓Qa,go_sem]
 | ((obtain ⟨g1,g2,g3,g4,g5,g6,g7,g8⟩:=id hq));refine Qc (id:=8) Xs [] (by kernel_rfl) ?_;simp [-zg,-zd,↓Qb,↓Qa,go_sem]
 | refine Zs (id:=10) Xs mixed [(ab,[.fr 1 q.js.length (cat cI q.js),.sl yb 1 0 n1 cy,.fr 4 0 []])] [] [] (by kernel_rfl) (by kernel_rfl) (by simp [-zg,-zd,↓Qb,↓Qa,go_sem,g6,g7,g8,hl,nba,zS nba,nby,zS nby,nay,zS nay,(show 0 ≤ q.q by omega),(show q.q ≤ 1000000 by omega),(show 0 ≤ q.q + 1 by omega),(show q.q + 1 ≤ 1000000 by omega),(show q.k < n1 by omega),(show q.k < n1 + jy by omega),(show q.k + 1 ≤ n1 + jy by omega),(show q.k < q.qs.length by omega),g3]) (by simp [-zg,-zd,↓Qb,↓Qa,go_sem,g6,g7,g8,hl,nba,zS nba,nby,zS nby,nay,zS nay,(show 0 ≤ q.q by omega),(show q.q ≤ 1000000 by omega),(show 0 ≤ q.q + 1 by omega),(show q.q + 1 ≤ 1000000 by omega),(show q.k < n1 by omega),(show q.k < n1 + jy by omega),(show q.k + 1 ≤ n1 + jy by omega),(show q.k < q.qs.length by omega),g3]) ?_;simp [-zg,-zd,↓Qb,↓Qa,go_sem,g6,g7,g8,hl,nba,zS nba,nby,zS nby,nay,zS nay,(show 0 ≤ q.q by omega),(show q.q ≤ 1000000 by omega),(show 0 ≤ q.q + 1 by omega),(show q.q + 1 ≤ 1000000 by omega),(show q.k < n1 by omega),(show q.k < n1 + jy by omega),(show q.k + 1 ≤ n1 + jy by omega),(show q.k < q.qs.length by omega),g3];try ((generalize decide (pkI ys q.q 3 = 0) = ac at *);(refine Qx (fun H1=>H1 b = some [.list ys.length (cat cY ys),.int .i64 (q.q + 1)] ∧ H1 ab = some [.fr 1 q.js.length (cat cI q.js),.sl yb 1 0 n1 cy,.fr 4 0 []] ∧ H1 yb = some (cat cB (q.qs.set q.k ac) ++ zrP jy .any)) ⟨by simp [upd,nba,zS nba,nby,zS nby,nay,zS nay],by simp [upd,nba,zS nba,nby,zS nby,nay,zS nay,g7],by simp [upd,nba,zS nba,nby,zS nby,nay,zS nay]⟩ fun H2 ⟨v1,v2,v3⟩=>?_))
 | refine Qc (id:=11) Xs [47,52] (by kernel_rfl) ?_;simp [-zg,-zd,↓Qb,↓Qa,go_sem,v1,hl,(show 0 ≤ q.q + 1 by omega),(show q.q + 1 ≤ 1000000 by omega),(show 0 ≤ q.q + 1 + 1 by omega),(show q.q + 1 + 1 ≤ 1000000 by omega),(show 0 ≤ q.q + 1 + 1 + 1 by omega),(show q.q + 1 + 1 + 1 ≤ 1000000 by omega)];try (refine ⟨fun s11a=>?_,fun s11a=>?_⟩ <;> (try simp [B_iff,B_not] at s11a) <;> try (refine ⟨fun s11b=>?_,fun s11b=>?_⟩ <;> (try simp [B_iff,B_not] at s11b) <;> try (refine ⟨fun s11c=>?_,fun s11c=>?_⟩ <;> (try simp [B_iff,B_not] at s11c))))
 | (first | (refine Qx (fun H1=>LB b ab yb ys n1 cy jy p0 ⟨q.k,q.js,q.qs.set q.k ac,q.q + 1 + 1 + 1,H1⟩) ?_ fun H3 hB=>?_;(focus (refine ⟨?_,?_,?_,?_,?_,?_,?_,?_⟩ <;> first | omega | (dsimp only;omega) | (simp;done) | (simp;omega) | (simp [upd,nba,zS nba,nby,zS nby,nay,zS nay,v1,v2,v3];done)));obtain ⟨q2,hq2⟩:∃ x,q.q + 1 + 1 + 1 = x:=⟨_,rfl⟩;rw [hq2] at hB) | (refine Qx (fun H1=>LB b ab yb ys n1 cy jy p0 ⟨q.k,q.js,q.qs.set q.k ac,q.q + 1 + 1,H1⟩) ?_ fun H3 hB=>?_;(focus (refine ⟨?_,?_,?_,?_,?_,?_,?_,?_⟩ <;> first | omega | (dsimp only;omega) | (simp;done) | (simp;omega) | (simp [upd,nba,zS nba,nby,zS nby,nay,zS nay,v1,v2,v3];done)));obtain ⟨q2,hq2⟩:∃ x,q.q + 1 + 1 = x:=⟨_,rfl⟩;rw [hq2] at hB) | (refine Qx (fun H1=>LB b ab yb ys n1 cy jy p0 ⟨q.k,q.js,q.qs.set q.k ac,q.q + 1,H1⟩) ?_ fun H3 hB=>?_;(focus (refine ⟨?_,?_,?_,?_,?_,?_,?_,?_⟩ <;> first | omega | (dsimp only;omega) | (simp;done) | (simp;omega) | (simp [upd,nba,zS nba,nby,zS nby,nay,zS nay,v1,v2,v3];done)));obtain ⟨q2,hq2⟩:∃ x,q.q + 1 = x:=⟨_,rfl⟩;rw [hq2] at hB));refine Qc (id:=12) Xs [] (by kernel_rfl) ?_;simp [-zg,-zd,↓Qb,↓Qa,go_sem,(show H3 ab = some [.fr 1 q.js.length (cat cI q.js),.sl yb 1 0 n1 cy,.fr 4 0 []] from hB.2.2.2.2.2.2.1),(show q.js.length ≤ 9223372036854775806 by omega),(show 2 * (q.js.length + 1) * 8 ≤ 281474976710656 by omega),snoc_cI];try ((refine Qx (fun H1=>LA1 b ab yb ys n1 cy jy p0 ⟨q.k + 1,q.js ++ [(q.k:Int)],q.qs.set q.k ac,q2,H1⟩) ⟨by have:=hB.1;dsimp only;omega,by simp;omega,hB.2.2.1,by have:=hB.2.2.2.1;dsimp only at this ⊢;omega,by have:=hB.2.2.2.2.1;dsimp only at this ⊢;omega,by have:=hB.2.2.2.2.2.1;simpa [upd,nba,zS nba,nby,zS nby,nay,zS nay] using this,by simp [upd],by have:=hB.2.2.2.2.2.2.2;simpa [upd,nba,zS nba,nby,zS nby,nay,zS nay] using this⟩ fun H4 hz=>?_);(obtain ⟨zz,hzz⟩:∃ zz:LA,zz = ⟨q.k + 1,q.js ++ [(q.k:Int)],q.qs.set q.k ac,q2,H4⟩:=⟨_,rfl⟩);(rw [← hzz] at hz);(have z1:(q.k:Int) + 1 = (zz.k:Int):=(by rw [hzz];dsimp only;omega));(have z4:H4 = zz.H:=(by rw [hzz]));(rw [z4]);(clear hzz hB))
 | (first | (have z9:=z1) | ((first | (refine Qx (fun H1=>LB b ab yb ys n1 cy jy p0 ⟨q.k,q.js,q.qs.set q.k ac,q.q + 1 + 1 + 1,H1⟩) ?_ fun H3 hB=>?_;(focus (refine ⟨?_,?_,?_,?_,?_,?_,?_,?_⟩ <;> first | omega | (dsimp only;omega) | (simp;done) | (simp;omega) | (simp [upd,nba,zS nba,nby,zS nby,nay,zS nay,v1,v2,v3];done)));obtain ⟨q2,hq2⟩:∃ x,q.q + 1 + 1 + 1 = x:=⟨_,rfl⟩;rw [hq2] at hB) | (refine Qx (fun H1=>LB b ab yb ys n1 cy jy p0 ⟨q.k,q.js,q.qs.set q.k ac,q.q + 1 + 1,H1⟩) ?_ fun H3 hB=>?_;(focus (refine ⟨?_,?_,?_,?_,?_,?_,?_,?_⟩ <;> first | omega | (dsimp only;omega) | (simp;done) | (simp;omega) | (simp [upd,nba,zS nba,nby,zS nby,nay,zS nay,v1,v2,v3];done)));obtain ⟨q2,hq2⟩:∃ x,q.q + 1 + 1 = x:=⟨_,rfl⟩;rw [hq2] at hB) | (refine Qx (fun H1=>LB b ab yb ys n1 cy jy p0 ⟨q.k,q.js,q.qs.set q.k ac,q.q + 1,H1⟩) ?_ fun H3 hB=>?_;(focus (refine ⟨?_,?_,?_,?_,?_,?_,?_,?_⟩ <;> first | omega | (dsimp only;omega) | (simp;done) | (simp;omega) | (simp [upd,nba,zS nba,nby,zS nby,nay,zS nay,v1,v2,v3];done)));obtain ⟨q2,hq2⟩:∃ x,q.q + 1 = x:=⟨_,rfl⟩;rw [hq2] at hB));(obtain ⟨zz,hzz⟩:∃ zz:LA,zz = ⟨q.k + 1,q.js,q.qs.set q.k ac,q2,H3⟩:=⟨_,rfl⟩);(have hz:LA1 b ab yb ys n1 cy jy p0 zz:=(by rw [hzz];exact hB.skip));(have z1:(q.k:Int) + 1 = (zz.k:Int):=(by rw [hzz];dsimp only;omega));(have z4:H3 = zz.H:=(by rw [hzz]));(rw [z4]);(clear hzz hB)));refine Qc (id:=9) Xs [] (by kernel_rfl) ?_;simp [-zg,-zd,↓Qb,↓Qa,go_sem,wrapS (k:=q.k) (by omega)]
 | ((obtain ⟨g1,g2,g3,g4,g5,g6,g7,g8⟩:=hq));refine Qc (id:=13) Xs [] (by kernel_rfl) ?_;simp [-zg,-zd,↓Qb,↓Qa,go_sem,g6,hl,(show 0 ≤ q.q by omega),(show q.q ≤ 1000000 by omega),(show 0 ≤ q.q + 1 by omega),(show q.q + 1 ≤ 1000000 by omega)];try ((have hr2:=zadp ys (p:=q.q) (by omega) (xs:=[6,4,8,3,10]) (lo:=3) (hi:=10) (by simp) (by simp));(generalize numI ys q.q [6,4,8,3,10] = mm at *);(refine Qx (fun H1=>LE2 b ab yb ys n1 cy jy q.q q.js q.qs ⟨[],mm,q.q + 1,H1⟩) ⟨by dsimp only;omega,by simp;omega,SmallT.nil,by dsimp only;omega,by dsimp only;omega,by simp [upd,nba,zS nba,nby,zS nby,nay,zS nay],by simp [upd,nba,zS nba,nby,zS nby,nay,zS nay,g7,Xh],by simp [upd,nba,zS nba,nby,zS nby,nay,zS nay,g8]⟩ fun H2 hE=>?_))
 | ((obtain ⟨e1,e2,e3,e4,e5,e6,e7,e8⟩:=id hr));refine Qc (id:=14) Xs [] (by kernel_rfl) ?_;simp [-zg,-zd,↓Qb,↓Qa,go_sem]
 | refine Qc (id:=16) Xs [] (by kernel_rfl) ?_;simp [-zg,-zd,↓Qb,↓Qa,go_sem,e6,hl,(show 0 ≤ r.q by omega),(show r.q ≤ 1000000 by omega),(show 0 ≤ r.q + 1 by omega),(show r.q + 1 ≤ 1000000 by omega)];try ((generalize numI ys r.q [1,3,0,2,7] = care at *);(refine Qx (fun H1=>H1 b = some [.list ys.length (cat cY ys),.int .i64 (r.q + 1)] ∧ H1 ab = some [.fr 1 q.js.length (cat cI q.js),.sl yb 1 0 n1 cy,.fr 4 r.es.length (cat cT r.es)] ∧ H1 yb = some (cat cB q.qs ++ zrP jy .any)) ⟨by simp [upd,nba,zS nba,nby,zS nby,nay,zS nay],by simp [upd,nba,zS nba,nby,zS nby,nay,zS nay,e7],by simp [upd,nba,zS nba,nby,zS nby,nay,zS nay,e8]⟩ fun H3 ⟨v1,v2,v3⟩=>?_))
 | ((refine Zo ab 2 (all:=[.fr 1 q.js.length (cat cI q.js),.sl yb 1 0 n1 cy,.fr 4 r.es.length (cat cT r.es)]) v2 rfl fun zb cz jz hzb hcz hdz=>?_);(have nbz:¬ b = zb:=(by rintro rfl;simp [upd,nba,v1] at hzb));(have naz:¬ ab = zb:=(by rintro rfl;simp [upd,v2] at hzb));(have nyz:¬ yb = zb:=(by rintro rfl;simp [upd,v3,zS nay] at hzb));(clear hzb));refine Zs (id:=17) Xs mixed [(ab,[.fr 1 q.js.length (cat cI q.js),.sl yb 1 0 n1 cy,.sl zb 4 0 r.es.length cz])] [] [0,9,5] (by kernel_rfl) (by kernel_rfl) (by simp [-zg,-zd,↓Qb,↓Qa,go_sem,v1,hl,nba,zS nba,nby,zS nby,nay,zS nay,nbz,zS nbz,naz,zS naz,nyz,zS nyz,(show 0 ≤ r.q + 1 by omega),(show r.q + 1 ≤ 1000000 by omega),(show 0 ≤ r.q + 1 + 1 by omega),(show r.q + 1 + 1 ≤ 1000000 by omega),(show 0 ≤ r.q + 1 + 1 + 1 by omega),(show r.q + 1 + 1 + 1 ≤ 1000000 by omega),(show 0 ≤ r.q + 1 + 1 + 1 + 1 by omega),(show r.q + 1 + 1 + 1 + 1 ≤ 1000000 by omega),(show (n1:Int) ≤ 1000000 by omega),(show r.es.length ≤ 9223372036854775806 by omega),(show 2 * (r.es.length + 1) * 32 ≤ 281474976710656 by omega),hdz]) (by simp [-zg,-zd,↓Qb,↓Qa,go_sem,v1,hl,nba,zS nba,nby,zS nby,nay,zS nay,nbz,zS nbz,naz,zS naz,nyz,zS nyz,(show 0 ≤ r.q + 1 by omega),(show r.q + 1 ≤ 1000000 by omega),(show 0 ≤ r.q + 1 + 1 by omega),(show r.q + 1 + 1 ≤ 1000000 by omega),(show 0 ≤ r.q + 1 + 1 + 1 by omega),(show r.q + 1 + 1 + 1 ≤ 1000000 by omega),(show 0 ≤ r.q + 1 + 1 + 1 + 1 by omega),(show r.q + 1 + 1 + 1 + 1 ≤ 1000000 by omega),(show (n1:Int) ≤ 1000000 by omega),(show r.es.length ≤ 9223372036854775806 by omega),(show 2 * (r.es.length + 1) * 32 ≤ 281474976710656 by omega),hdz]) ?_;simp [-zg,-zd,↓Qb,↓Qa,go_sem,v1,hl,nba,zS nba,nby,zS nby,nay,zS nay,nbz,zS nbz,naz,zS naz,nyz,zS nyz,(show 0 ≤ r.q + 1 by omega),(show r.q + 1 ≤ 1000000 by omega),(show 0 ≤ r.q + 1 + 1 by omega),(show r.q + 1 + 1 ≤ 1000000 by omega),(show 0 ≤ r.q + 1 + 1 + 1 by omega),(show r.q + 1 + 1 + 1 ≤ 1000000 by omega),(show 0 ≤ r.q + 1 + 1 + 1 + 1 by omega),(show r.q + 1 + 1 + 1 + 1 ≤ 1000000 by omega),(show (n1:Int) ≤ 1000000 by omega),(show r.es.length ≤ 9223372036854775806 by omega),(show 2 * (r.es.length + 1) * 32 ≤ 281474976710656 by omega),hdz];try ((have hsm:bitsD .and .i64 (pkI ys (r.q + 1 + 1) 8) care ≤ 9223372036854775807:=bitsA_le _ _);(refine Qx (fun H1=>LE2 b ab yb ys n1 cy jy q.q q.js q.qs ⟨r.es ++ [(pkI ys (r.q + 1) n1,care,bitsD .and .i64 (pkI ys (r.q + 1 + 1) 8) care,pkI ys (r.q + 1 + 1 + 1) n1)],r.m - 1,r.q + 1 + 1 + 1 + 1,H1⟩) ⟨by dsimp only;omega,by simp;omega,e3.snoc hsm,by dsimp only;omega,by dsimp only;omega,by simp [upd,nba,zS nba,nby,zS nby,nay,zS nay,nbz,zS nbz,naz,zS naz],by simp [upd,nba,zS nba,nby,zS nby,nay,zS nay,nbz,zS nbz,naz,zS naz,snoc_cT],by simp [upd,nba,zS nba,nby,zS nby,nay,zS nay,nbz,zS nbz,naz,zS naz,nyz,zS nyz,v3]⟩ fun H4 hE4=>?_);(generalize ((pkI ys (r.q + 1) n1,care,bitsD .and .i64 (pkI ys (r.q + 1 + 1) 8) care,pkI ys (r.q + 1 + 1 + 1) n1):Tr4) = ed at *))
 | refine Qc (id:=15) Xs [] (by kernel_rfl) ?_;simp [-zg,-zd,↓Qb,↓Qa,go_sem,wrap_in (x:=r.m - 1) (by omega) (by omega)]
 | ((obtain ⟨e1,e2,e3,e4,e5,e6,e7,e8⟩:=hr);(refine Vs ab 1 (b':=yb) (sz:=1) (m:=n1) (cp:=cy) (all:=[.fr 1 q.js.length (cat cI q.js),.sl yb 1 0 n1 cy,.fr 4 r.es.length (cat cT r.es)]) (cs:=cat cB q.qs ++ zrP jy .any) e7 rfl nay e8 (by omega) (by simp [Qv];omega) (by simp [Qv];omega) ?_);(simp only [Nat.mul_one,Jj (f:=cB) q.qs (zrP jy D.any) (n:=n1) g3.symm]));refine Qc (id:=18) Xs [] (by kernel_rfl) ?_;simp [-zg,-zd,↓Qb,↓Qa,go_sem,nba,zS nba,nby,zS nby,nay,zS nay]
 | refine Qe (c:=.tmp 12) ?_;simp [-zg,-zd,↓Qb,↓Qa,go_sem];try first | (refine ⟨?_,?_⟩ <;> refine zA ?_) | (refine ⟨fun c12=>?_,fun c12=>?_⟩ <;> (try simp [B_iff,B_not] at c12))
 | refine Qe (c:=.tmp 25) ?_;simp [-zg,-zd,↓Qb,↓Qa,go_sem];try first | (refine ⟨?_,?_⟩ <;> refine zA ?_) | (refine ⟨fun c25=>?_,fun c25=>?_⟩ <;> (try simp [B_iff,B_not] at c25))
 | refine Qe (c:=.tmp 35) ?_;simp [-zg,-zd,↓Qb,↓Qa,go_sem];try first | (refine ⟨?_,?_⟩ <;> refine zA ?_) | (refine ⟨fun c35=>?_,fun c35=>?_⟩ <;> (try simp [B_iff,B_not] at c35))
 | refine Qe (c:=.tmp 56) ?_;simp [-zg,-zd,↓Qb,↓Qa,go_sem];try first | (refine ⟨?_,?_⟩ <;> refine zA ?_) | (refine ⟨fun c56=>?_,fun c56=>?_⟩ <;> (try simp [B_iff,B_not] at c56))
 | refine Qe (c:=.tmp 67) ?_;simp [-zg,-zd,↓Qb,↓Qa,go_sem];try first | (refine ⟨?_,?_⟩ <;> refine zA ?_) | (refine ⟨fun c67=>?_,fun c67=>?_⟩ <;> (try simp [B_iff,B_not] at c67))
 | (refine Qf (id:=0) (Qz (ι:=LA) (fun q:LA=>⟨(upd (upd (upd (upd (upd (fun _=>.any) 0 (.ptr b 0)) 2 (.box [.nil,.nil,.nil])) 5 (.int .i64 (n1:Int))) 6 (.ptr ab 0)) 7 (.int .i64 (q.k:Int))),q.H⟩) (fun q=>LA1 b ab yb ys n1 cy jy p0 q) (fun q=>n1 - q.k) (⟨0,[],zrP n1 false,p0 + 1,H2⟩) ?_ ?_ ?_);exact hL;((repeat' (first | exact Qk (by assumption) | exact Qm | refine Qj ?_ ?_ | refine Ql ?_)) <;> simp [-zg,-zd,↓Qb,↓Qa,go_sem]);rintro q hq)
 | (refine ⟨zz,hz,by first | omega | (simp;done) | (simp;omega),?_⟩;((repeat' (first | exact Qk (by assumption) | exact Qm | refine Qj ?_ ?_ | refine Ql ?_)) <;> simp [-zg,-zd,↓Qb,↓Qa,go_sem,z1]))
 | (refine Qf (id:=2) (Qz (ι:=LE) (fun r:LE=>⟨(upd (upd (upd (upd (upd (fun _=>.any) 0 (.ptr b 0)) 2 (.box [.nil,.nil,.nil])) 5 (.int .i64 (n1:Int))) 6 (.ptr ab 0)) 8 (.int .i64 r.m)),r.H⟩) (fun r=>LE2 b ab yb ys n1 cy jy q.q q.js q.qs r) (fun r=>r.m.toNat) (⟨[],mm,q.q + 1,H2⟩) ?_ ?_ ?_);exact hE;((repeat' (first | exact Qk (by assumption) | exact Qm | refine Qj ?_ ?_ | refine Ql ?_)) <;> simp [-zg,-zd,↓Qb,↓Qa,go_sem]);rintro r hr)
 | (refine ⟨⟨r.es ++ [ed],r.m - 1,r.q + 1 + 1 + 1 + 1,H4⟩,hE4,by first | omega | (simp;done) | (simp;omega),?_⟩;((repeat' (first | exact Qk (by assumption) | exact Qm | refine Qj ?_ ?_ | refine Ql ?_)) <;> simp [-zg,-zd,↓Qb,↓Qa,go_sem]))
 | (refine Qf ?_)
 | (refine Qr ?_;simp [-zg,-zd,↓Qb,↓Qa,go_sem])
 | (refine Qq ?_;simp [-zg,-zd,↓Qb,↓Qa,go_sem])
 | (refine Qt ?_;try simp [-zg,-zd,↓Qb,↓Qa,go_sem,Tryz.results61])
 | (intro hx;refine zA ?_)
 | (intro hx;change retR _ _ _ _ _)
 | (refine ⟨?_,?_⟩ <;> refine zA ?_)
 | (intro hx;constructor <;> intro hs)
 | (constructor <;> intro hs)
 | (refine ⟨?_,fun hs=>?_⟩;refine zA ?_)
 | (refine ⟨fun hs=>?_,?_⟩;rotate_left;refine zA ?_;rotate_left)))
  all_goals (first
 | (refine ⟨p + 1,by omega,by omega,?_,?_,?_⟩ <;> simp [upd,go_sem];done)
 | (refine ⟨p2,by omega,by omega,?_,?_,?_⟩ <;> simp [upd,go_sem];done)
 | (refine zafz _ _ _ ((xa,xb,xc)) (p2) ?_ ?_ ?_ ?_;(first | exact Or.inl rfl | exact Or.inr rfl);(focus (simp [-zg,-zd,↓Qb,↓Qa,go_sem,Tryz.results61,dat,datL_map,li,Vc];done));(focus ((exact ⟨by dsimp only;omega,by dsimp only;omega,by dsimp only;omega,y4⟩);done));(focus (refine ⟨?_,?_⟩ <;> omega)))
 | (refine zafz _ _ _ ((q.js,q.qs,r.es)) (r.q) ?_ ?_ ?_ ?_;(first | exact Or.inl rfl | exact Or.inr rfl);(focus (simp [-zg,-zd,↓Qb,↓Qa,go_sem,Tryz.results61,dat,datL_map,li,Vc,e6,g3,nba,zS nba,nby,zS nby,nay,zS nay];done));(focus ((exact ⟨by dsimp only;omega,by dsimp only;omega,by dsimp only;omega,e3⟩);done));(focus (refine ⟨?_,?_⟩ <;> omega)))
 | skip)
@[go_sem] def zagi:Con:=.rel fun args H=>match args with
  | [.ptr b 0]=>match H b with
    | some [.list m cs,.int .i64 p]=>((Is cY m cs) ∧ (m ≤ 2000) ∧ (0 ≤ p) ∧ (p + 300 ≤ 1000000),fun c=>(Vo (Xn p c).1,upd H b (some [.list m cs,.int .i64 (Xn p c).2])))
    | _=>(False,fun _=>(.any,H))
  | _=>(False,fun _=>(.any,H))
theorem zamp:ConOk Tryz.prog 61 zagi:=by
  refine ⟨Qo Tryz.func61 (by decide) rfl,fun args H h=>?_⟩
  revert h
  dsimp only
  split
  · split
    · rename_i hH
      intro h
      obtain ⟨⟨ys,rfl,rfl⟩,hl,h0_,hp_⟩:=h
      try simp only [Qp] at *
      exact SpecR.enc ((zalg ys _ _ hl h0_ hp_ ).frame hH).shut fun c=>Prod.ext (zaga  _ _).2.symm rfl
    · intro h;exact h.elim
  · intro h
    exact h.elim
@[go_sem] def Γy27:FuncId → Con:=ext Γy26 61 zagi
theorem Xy:∀ g,ConOk Tryz.prog g (Γy27 g):=Qn Xs zamp


theorem SmallT.cons {x:Tr4} {xs:List Tr4}:SmallT (x :: xs) ↔ x.2.2.1 ≤ 9223372036854775807 ∧ SmallT xs:=by
  constructor
  · intro h
    exact ⟨h 0 (by simp),fun i hi=>h (i + 1) (by simp;omega)⟩
  · rintro ⟨h1,h2⟩ i hi
    cases i with
    | zero=>exact h1
    | succ i=>exact h2 i (by simpa using hi)
theorem set_cT:∀ (c:List Tr4) (ys:List D) (i:Nat) (v:Int),i < c.length * 4 → ∃ c':List Tr4,c'.length = c.length ∧ (SmallT c → v ≤ 9223372036854775807 → SmallT c') ∧ (cat cT c ++ ys).set i (.int .i64 v) = cat cT c' ++ ys
  | [],ys,i,v,h=>by simp at h
  | x :: c,ys,0,v,h=>⟨(v,x.2) :: c,by simp,fun k _=>by rw [SmallT.cons] at k ⊢;exact k,rfl⟩
  | x :: c,ys,1,v,h=>⟨(x.1,v,x.2.2) :: c,by simp,fun k _=>by rw [SmallT.cons] at k ⊢;exact k,rfl⟩
  | x :: c,ys,2,v,h=>⟨(x.1,x.2.1,v,x.2.2.2) :: c,by simp,fun k hv=>by rw [SmallT.cons] at k ⊢;exact ⟨hv,k.2⟩,rfl⟩
  | x :: c,ys,3,v,h=>⟨(x.1,x.2.1,x.2.2.1,v) :: c,by simp,fun k _=>by rw [SmallT.cons] at k ⊢;exact k,rfl⟩
  | x :: c,ys,i + 4,v,h=>by
    obtain ⟨c',h1,h2,h3⟩:=set_cT c ys i v (by simp only [List.length_cons] at h;omega)
    refine ⟨x :: c',by simp [h1],fun k hv=>?_,?_⟩
    · rw [SmallT.cons] at k ⊢;exact ⟨k.1,h2 k.2 hv⟩
    · show (cT x ++ cat cT c ++ ys).set (i + 4) _ = cT x ++ cat cT c' ++ ys
      rw [List.append_assoc,List.append_assoc,← h3]
      rfl
def LM (b ab zb:Nat) (ys:List UInt8) (a:List Int) (e:List Bool) (g:List Tr4) (cz jz:Nat) (q:Int) (H:Hp):Prop:=H b = some [.list ys.length (cat cY ys),.int .i64 (q)] ∧ H ab = some [.fr 1 a.length (cat cI a),.fr 1 e.length (cat cB e),.sl zb 4 0 g.length cz] ∧ H zb = some (cat cT g ++ zrP jz .any)

@[go_sem] def Vq:Au → D:=sA
theorem l7Mutate_flat (x:Au):dat (Vq x) = Vq x:=by simp [go_sem]
def zabz (a:List Int) (e:List Bool) (g:List Tr4):Au → Prop:=fun x=>x.1.length ≤ 5001 ∧ x.2.1.length ≤ 5000 ∧ x.2.2.length ≤ 5000 ∧ SmallT x.2.2
def zaid (a:List Int) (e:List Bool) (g:List Tr4) (x:(Au) × D):Prop:=zabz a e g x.1 ∧ dat x.2 = Vq x.1
def zaay (a:List Int) (e:List Bool) (g:List Tr4) (p:Int) (c:Any):((Au) × D) × Int:=dsel (zaid a e g) ((([],[],[]):Au),Vq (([],[],[]))) 3 p c
def Jy (a:List Int) (e:List Bool) (g:List Tr4) (p:Int) (c:Any):(Au) × Int:=((zaay a e g p c).1.1,(zaay a e g p c).2)
theorem zalc (a:List Int) (e:List Bool) (g:List Tr4) (hS:AuS (a,e,g)) (p:Int) (c:Any):(zabz a e g (Jy a e g p c).1 ∧ p ≤ (Jy a e g p c).2 ∧ (Jy a e g p c).2 ≤ p + 3) ∧ dat (zaay a e g p c).1.2 = Vq (Jy a e g p c).1:=by
  have hx:zabz a e g (([],[],[])):=⟨by simp,by simp,by simp,SmallT.nil⟩
  have h:=dsel_ok (good:=zaid a e g) (x0:=((([],[],[]):Au),Vq (([],[],[])))) ⟨hx,l7Mutate_flat _⟩ (K:=3) (by omega) (p:=p) c
  exact ⟨⟨h.1.1,h.2.1,h.2.2⟩,h.1.2⟩
theorem l7Mutate_ok (a:List Int) (e:List Bool) (g:List Tr4) (hS:AuS (a,e,g)) (p:Int) (c:Any):zabz a e g (Jy a e g p c).1 ∧ p ≤ (Jy a e g p c).2 ∧ (Jy a e g p c).2 ≤ p + 3:=(zalc a e g hS p c).1
theorem zaea (a:List Int) (e:List Bool) (g:List Tr4) (ys:List UInt8) (p:Int) (b:Nat) {e_:Exit} {S_:St} (x:Au) (p':Int) (he_:e_ = .ret ∨ e_ = .normal)
    (h1:(Qg Tryz.prog S_ Tryz.f77.results.toList).1 ∧ dat (resD (Qg Tryz.prog S_ Tryz.f77.results.toList).2.1) = Vq x ∧ (Qg Tryz.prog S_ Tryz.f77.results.toList).2.2.H b = some [li cY ys,.int .i64 p']) (hg:zabz a e g x) (h2:p ≤ p' ∧ p' ≤ p + 3) :
    retR Tryz.prog Tryz.f77 (fun c=>((zaay a e g p c).1.2,one b [li cY ys,.int .i64 (zaay a e g p c).2])) e_ S_ :=
  ret_draw (good:=zaid a e g) (enc:=fun x:(Au) × D=>x.2) (cells:=fun q=>[li cY ys,.int .i64 q]) (x,resD (Qg Tryz.prog S_ Tryz.f77.results.toList).2.1) p' he_ ⟨h1.1,rfl,h1.2.2⟩ ⟨hg,h1.2.1⟩ h2
set_option maxHeartbeats 16000000 in
theorem l7Mutate_spec (ys:List UInt8) (p:Int) (b:Nat) (a:List Int) (e:List Bool) (g:List Tr4) (hl:ys.length ≤ 2000) (h0_:0 ≤ p) (hp_:p + 3 ≤ 1000000) (hS:AuS (a,e,g)):SpecR Tryz.prog 77 [.ptr b 0,.st [li cI a,li cB e,li cT g]] (one b [li cY ys,.int .i64 p]) (fun c=>((zaay a e g p c).1.2,one b [li cY ys,.int .i64 (zaay a e g p c).2])):=by
  refine SpecR.of_walk Tryz.func77 rfl (by simp [Tryz.f77]) fun B=>?_
  obtain ⟨s1,s2,s3,s4⟩:=hS;dsimp only at s1 s2 s3 s4
  all_goals (repeat' (first
 | refine Qs ?_
 | refine Qc (id:=0) Xy [] (by kernel_rfl) ?_;simp [-zg,-zd,↓Qb,↓Qa,go_sem];try (refine Xw 3 ?_;simp [go_sem])
 | refine Xx (id:=1) Xy mixed [] [3] (by kernel_rfl) (by kernel_rfl) (by simp [-zg,-zd,↓Qb,↓Qa,go_sem,(show a.length ≤ 9223372036854775807 by omega),(show 2 * a.length * 8 ≤ 281474976710656 by omega),(show e.length ≤ 9223372036854775807 by omega),(show 2 * e.length * 1 ≤ 281474976710656 by omega),(show 2 * e.length ≤ 281474976710656 by omega),(show g.length ≤ 9223372036854775807 by omega),(show 2 * g.length * 32 ≤ 281474976710656 by omega)]) ?_;simp [-zg,-zd,↓Qb,↓Qa,go_sem,(show a.length ≤ 9223372036854775807 by omega),(show 2 * a.length * 8 ≤ 281474976710656 by omega),(show e.length ≤ 9223372036854775807 by omega),(show 2 * e.length * 1 ≤ 281474976710656 by omega),(show 2 * e.length ≤ 281474976710656 by omega),(show g.length ≤ 9223372036854775807 by omega),(show 2 * g.length * 32 ≤ 281474976710656 by omega)];try ((refine Jd 5 rfl fun ab hab=>?_);(have nba:¬ b = ab:=(by rintro rfl;simp [upd] at hab));(clear hab);(refine Zo ab 2 (all:=[.fr 1 a.length (cat cI a),.fr 1 e.length (cat cB e),.fr 4 g.length (cat cT g)]) (by simp [upd]) rfl fun zb cz jz hzb hcz hdz=>?_);(have nbz:¬ b = zb:=(by rintro rfl;simp [upd,nba] at hzb));(have naz:¬ ab = zb:=(by rintro rfl;simp [upd] at hzb));(clear hzb);(refine Qx (fun H1=>LM b ab zb ys a e g cz jz p H1) ⟨by simp [upd,nba,zS nba,nbz,zS nbz,naz,zS naz],by simp [upd,nba,zS nba,nbz,zS nbz,naz,zS naz],by simp [upd]⟩ fun H1 ⟨w1,w2,w3⟩=>?_))
 | refine Qc (id:=2) Xy [] (by kernel_rfl) ?_;simp [-zg,-zd,↓Qb,↓Qa,go_sem,w1,hl,(show 0 ≤ p by omega),(show p ≤ 1000000 by omega),(show 0 ≤ p + 1 by omega),(show p + 1 ≤ 1000000 by omega)];try ((generalize pkI ys p 40 = kk at *);(refine Qx (fun H2=>LM b ab zb ys a e g cz jz (p + 1) H2) ⟨by simp [upd,nba,zS nba,nbz,zS nbz,naz,zS naz],by simp [upd,nba,zS nba,nbz,zS nbz,naz,zS naz,w2],by simp [upd,nba,zS nba,nbz,zS nbz,naz,zS naz,w3]⟩ fun H2 ⟨w1,w2,w3⟩=>?_))
 | refine Qc (id:=3) Xy [] (by kernel_rfl) ?_;simp [-zg,-zd,↓Qb,↓Qa,go_sem]
 | ((refine Zo ab 0 (all:=[.fr 1 a.length (cat cI a),.fr 1 e.length (cat cB e),.sl zb 4 0 g.length cz]) w2 rfl fun xb cx jx hxb hcx hdx=>?_);(have nbx:¬ b = xb:=(by rintro rfl;simp [upd,nba,w1] at hxb));(have nax:¬ ab = xb:=(by rintro rfl;simp [upd,w2] at hxb));(have nzx:¬ zb = xb:=(by rintro rfl;simp [upd,zS naz,w3] at hxb));(clear hxb));refine Zs (id:=4) Xy mixed [(ab,[.sl xb 1 0 a.length cx,.fr 1 e.length (cat cB e),.sl zb 4 0 g.length cz])] [] [] (by kernel_rfl) (by kernel_rfl) (by simp [-zg,-zd,↓Qb,↓Qa,go_sem,w1,hl,nba,zS nba,nbz,zS nbz,naz,zS naz,nbx,zS nbx,nax,zS nax,nzx,zS nzx,(show 0 ≤ p + 1 by omega),(show p + 1 ≤ 1000000 by omega),(show 0 ≤ p + 1 + 1 by omega),(show p + 1 + 1 ≤ 1000000 by omega),(show a.length ≤ 9223372036854775806 by omega),(show 2 * (a.length + 1) * 8 ≤ 281474976710656 by omega),(show cx ≤ a.length + jx by omega)]) (by simp [-zg,-zd,↓Qb,↓Qa,go_sem,w1,hl,nba,zS nba,nbz,zS nbz,naz,zS naz,nbx,zS nbx,nax,zS nax,nzx,zS nzx,(show 0 ≤ p + 1 by omega),(show p + 1 ≤ 1000000 by omega),(show 0 ≤ p + 1 + 1 by omega),(show p + 1 + 1 ≤ 1000000 by omega),(show a.length ≤ 9223372036854775806 by omega),(show 2 * (a.length + 1) * 8 ≤ 281474976710656 by omega),(show cx ≤ a.length + jx by omega)]) ?_;simp [-zg,-zd,↓Qb,↓Qa,go_sem,w1,hl,nba,zS nba,nbz,zS nbz,naz,zS naz,nbx,zS nbx,nax,zS nax,nzx,zS nzx,(show 0 ≤ p + 1 by omega),(show p + 1 ≤ 1000000 by omega),(show 0 ≤ p + 1 + 1 by omega),(show p + 1 + 1 ≤ 1000000 by omega),(show a.length ≤ 9223372036854775806 by omega),(show 2 * (a.length + 1) * 8 ≤ 281474976710656 by omega),(show cx ≤ a.length + jx by omega)];try ((generalize numI ys (p + 1) [0,-1,64,3] = vv at *);(refine Qx (fun H3=>LM b ab zb ys (a ++ [vv]) e g cz jz (p + 1 + 1) H3) ⟨by simp [upd,nba,zS nba,nbz,zS nbz,naz,zS naz,nbx,zS nbx,nax,zS nax],by simp [upd,nba,zS nba,nbz,zS nbz,naz,zS naz,nax,zS nax,snoc_cI],by simp [upd,nba,zS nba,nbz,zS nbz,naz,zS naz,nzx,zS nzx,w3]⟩ fun H3 hM=>?_))
 | refine Qc (id:=5) Xy [] (by kernel_rfl) ?_;simp [-zg,-zd,↓Qb,↓Qa,go_sem]
 | refine Qc (id:=6) Xy [] (by kernel_rfl) ?_;simp [-zg,-zd,↓Qb,↓Qa,go_sem,w2]
 | ((have hc0:0 < g.length:=(by omega)));refine Zs (id:=7) Xy mixed [(ab,[.fr 1 a.length (cat cI a),.fr 1 e.length (cat cB e),.sl zb 4 0 g.length cz])] [] [] (by kernel_rfl) (by kernel_rfl) (by simp [-zg,-zd,↓Qb,↓Qa,go_sem,w1,w2,w3,hl,nba,zS nba,nbz,zS nbz,naz,zS naz,(show 0 ≤ p + 1 by omega),(show p + 1 ≤ 1000000 by omega),(show 0 ≤ p + 1 + 1 by omega),(show p + 1 + 1 ≤ 1000000 by omega),hc0,(show 4 ≤ g.length * 4 + jz by omega),(show 2 < g.length * 4 + jz by omega),(show 3 ≤ g.length * 4 + jz by omega)]) (by simp [-zg,-zd,↓Qb,↓Qa,go_sem,w1,w2,w3,hl,nba,zS nba,nbz,zS nbz,naz,zS naz,(show 0 ≤ p + 1 by omega),(show p + 1 ≤ 1000000 by omega),(show 0 ≤ p + 1 + 1 by omega),(show p + 1 + 1 ≤ 1000000 by omega),hc0,(show 4 ≤ g.length * 4 + jz by omega),(show 2 < g.length * 4 + jz by omega),(show 3 ≤ g.length * 4 + jz by omega)]) ?_;simp [-zg,-zd,↓Qb,↓Qa,go_sem,w1,w2,w3,hl,nba,zS nba,nbz,zS nbz,naz,zS naz,(show 0 ≤ p + 1 by omega),(show p + 1 ≤ 1000000 by omega),(show 0 ≤ p + 1 + 1 by omega),(show p + 1 + 1 ≤ 1000000 by omega),hc0,(show 4 ≤ g.length * 4 + jz by omega),(show 2 < g.length * 4 + jz by omega),(show 3 ≤ g.length * 4 + jz by omega)];try ((have hrv:=zadp ys (p:=p + 1) (by omega) (xs:=[8,-1,7]) (lo:=-1) (hi:=8) (by simp) (by simp));(generalize numI ys (p + 1) [8,-1,7] = vv at *);(obtain ⟨g',hc1,hc2,hc3⟩:=set_cT g (zrP jz D.any) 2 vv (by omega));(have hc4:stSeg (cat cT g ++ zrP jz D.any) (2) [.int .i64 vv] = cat cT g' ++ zrP jz D.any:=hc3);(refine Qx (fun H1=>LM b ab zb ys a e g' cz jz (p + 1 + 1) H1) ⟨by simp [upd,nba,zS nba,nbz,zS nbz,naz,zS naz],by simp [upd,nba,zS nba,nbz,zS nbz,naz,zS naz,w2,hc1],by simp [upd,nba,zS nba,nbz,zS nbz,naz,zS naz,hc4]⟩ fun H2 hM=>?_))
 | refine Qc (id:=8) Xy [] (by kernel_rfl) ?_;simp [-zg,-zd,↓Qb,↓Qa,go_sem]
 | refine Qc (id:=9) Xy [] (by kernel_rfl) ?_;simp [-zg,-zd,↓Qb,↓Qa,go_sem,w2]
 | ((have hc0:0 < g.length:=(by omega)));refine Zs (id:=10) Xy mixed [(ab,[.fr 1 a.length (cat cI a),.fr 1 e.length (cat cB e),.sl zb 4 0 g.length cz])] [] [] (by kernel_rfl) (by kernel_rfl) (by simp [-zg,-zd,↓Qb,↓Qa,go_sem,w1,w2,w3,hl,nba,zS nba,nbz,zS nbz,naz,zS naz,(show 0 ≤ p + 1 by omega),(show p + 1 ≤ 1000000 by omega),(show 0 ≤ p + 1 + 1 by omega),(show p + 1 + 1 ≤ 1000000 by omega),hc0,(show 4 ≤ g.length * 4 + jz by omega),(show 3 < g.length * 4 + jz by omega)]) (by simp [-zg,-zd,↓Qb,↓Qa,go_sem,w1,w2,w3,hl,nba,zS nba,nbz,zS nbz,naz,zS naz,(show 0 ≤ p + 1 by omega),(show p + 1 ≤ 1000000 by omega),(show 0 ≤ p + 1 + 1 by omega),(show p + 1 + 1 ≤ 1000000 by omega),hc0,(show 4 ≤ g.length * 4 + jz by omega),(show 3 < g.length * 4 + jz by omega)]) ?_;simp [-zg,-zd,↓Qb,↓Qa,go_sem,w1,w2,w3,hl,nba,zS nba,nbz,zS nbz,naz,zS naz,(show 0 ≤ p + 1 by omega),(show p + 1 ≤ 1000000 by omega),(show 0 ≤ p + 1 + 1 by omega),(show p + 1 + 1 ≤ 1000000 by omega),hc0,(show 4 ≤ g.length * 4 + jz by omega),(show 3 < g.length * 4 + jz by omega)];try ((have hrv:=zadp ys (p:=p + 1) (by omega) (xs:=[-1,0,64,9223372036854775807]) (lo:=-1) (hi:=9223372036854775807) (by simp) (by simp));(generalize numI ys (p + 1) [-1,0,64,9223372036854775807] = vv at *);(obtain ⟨g',hc1,hc2,hc3⟩:=set_cT g (zrP jz D.any) 3 vv (by omega));(have hc4:stSeg (cat cT g ++ zrP jz D.any) (3) [.int .i64 vv] = cat cT g' ++ zrP jz D.any:=hc3);(refine Qx (fun H1=>LM b ab zb ys a e g' cz jz (p + 1 + 1) H1) ⟨by simp [upd,nba,zS nba,nbz,zS nbz,naz,zS naz],by simp [upd,nba,zS nba,nbz,zS nbz,naz,zS naz,w2,hc1],by simp [upd,nba,zS nba,nbz,zS nbz,naz,zS naz,hc4]⟩ fun H2 hM=>?_))
 | refine Qc (id:=11) Xy [] (by kernel_rfl) ?_;simp [-zg,-zd,↓Qb,↓Qa,go_sem]
 | refine Qc (id:=12) Xy [] (by kernel_rfl) ?_;simp [-zg,-zd,↓Qb,↓Qa,go_sem]
 | refine Qc (id:=13) Xy [] (by kernel_rfl) ?_;simp [-zg,-zd,↓Qb,↓Qa,go_sem]
 | refine Qc (id:=14) Xy [] (by kernel_rfl) ?_;simp [-zg,-zd,↓Qb,↓Qa,go_sem,w2]
 | ((have hc0:0 < g.length:=(by omega)));refine Zs (id:=15) Xy mixed [(ab,[.fr 1 a.length (cat cI a),.fr 1 e.length (cat cB e),.sl zb 4 0 g.length cz])] [] [5] (by kernel_rfl) (by kernel_rfl) (by simp [-zg,-zd,↓Qb,↓Qa,go_sem,w1,w2,w3,hl,nba,zS nba,nbz,zS nbz,naz,zS naz,(show 0 ≤ p + 1 by omega),(show p + 1 ≤ 1000000 by omega),(show 0 ≤ p + 1 + 1 by omega),(show p + 1 + 1 ≤ 1000000 by omega),hc0,wrap_in (x:=(g.length:Int) - 1) (by omega) (by omega),(show 0 ≤ (g.length:Int) - 1 by omega),(show (g.length:Int) - 1 < (g.length:Int) by omega),(show ((g.length:Int) - 1).toNat = g.length - 1 by omega),(show (g.length - 1) * 4 + 4 ≤ g.length * 4 + jz by omega),(show (g.length - 1) * 4 + 1 < g.length * 4 + jz by omega),(show (1:Int) ≤ (g.length:Int) by omega),(show (g.length - 1) * 4 + 1 + 1 ≤ g.length * 4 + jz by omega),(show g.length - 1 < g.length by omega)]) (by simp [-zg,-zd,↓Qb,↓Qa,go_sem,w1,w2,w3,hl,nba,zS nba,nbz,zS nbz,naz,zS naz,(show 0 ≤ p + 1 by omega),(show p + 1 ≤ 1000000 by omega),(show 0 ≤ p + 1 + 1 by omega),(show p + 1 + 1 ≤ 1000000 by omega),hc0,wrap_in (x:=(g.length:Int) - 1) (by omega) (by omega),(show 0 ≤ (g.length:Int) - 1 by omega),(show (g.length:Int) - 1 < (g.length:Int) by omega),(show ((g.length:Int) - 1).toNat = g.length - 1 by omega),(show (g.length - 1) * 4 + 4 ≤ g.length * 4 + jz by omega),(show (g.length - 1) * 4 + 1 < g.length * 4 + jz by omega),(show (1:Int) ≤ (g.length:Int) by omega),(show (g.length - 1) * 4 + 1 + 1 ≤ g.length * 4 + jz by omega),(show g.length - 1 < g.length by omega)]) ?_;simp [-zg,-zd,↓Qb,↓Qa,go_sem,w1,w2,w3,hl,nba,zS nba,nbz,zS nbz,naz,zS naz,(show 0 ≤ p + 1 by omega),(show p + 1 ≤ 1000000 by omega),(show 0 ≤ p + 1 + 1 by omega),(show p + 1 + 1 ≤ 1000000 by omega),hc0,wrap_in (x:=(g.length:Int) - 1) (by omega) (by omega),(show 0 ≤ (g.length:Int) - 1 by omega),(show (g.length:Int) - 1 < (g.length:Int) by omega),(show ((g.length:Int) - 1).toNat = g.length - 1 by omega),(show (g.length - 1) * 4 + 4 ≤ g.length * 4 + jz by omega),(show (g.length - 1) * 4 + 1 < g.length * 4 + jz by omega),(show (1:Int) ≤ (g.length:Int) by omega),(show (g.length - 1) * 4 + 1 + 1 ≤ g.length * 4 + jz by omega),(show g.length - 1 < g.length by omega)];try ((have hrv:=zadp ys (p:=p + 1) (by omega) (xs:=[8,-1,0]) (lo:=-1) (hi:=8) (by simp) (by simp));(generalize numI ys (p + 1) [8,-1,0] = vv at *);(obtain ⟨g',hc1,hc2,hc3⟩:=set_cT g (zrP jz D.any) ((g.length - 1) * 4 + 1) vv (by omega));(have hc4:stSeg (cat cT g ++ zrP jz D.any) (((g.length - 1) * 4 + 1)) [.int .i64 vv] = cat cT g' ++ zrP jz D.any:=hc3);(refine Qx (fun H1=>LM b ab zb ys a e g' cz jz (p + 1 + 1) H1) ⟨by simp [upd,nba,zS nba,nbz,zS nbz,naz,zS naz],by simp [upd,nba,zS nba,nbz,zS nbz,naz,zS naz,w2,hc1],by simp [upd,nba,zS nba,nbz,zS nbz,naz,zS naz,hc4]⟩ fun H2 hM=>?_))
 | (first | (obtain ⟨t1,t2,t3⟩:=hM;refine Vs ab 2 (b':=zb) (sz:=4) (m:=g'.length) (cp:=cz) (all:=[.fr 1 a.length (cat cI a),.fr 1 e.length (cat cB e),.sl zb 4 0 g'.length cz]) (cs:=cat cT g' ++ zrP jz .any) t2 rfl naz t3 (by omega) (by simp [Qv]) (by simp [Qv,hc1];omega) ?_;simp only [Vr (f:=cT)]) | (obtain ⟨t1,t2,t3⟩:=hM;obtain ⟨a',ha'⟩:∃ a',a ++ [vv] = a':=⟨_,rfl⟩;have hal:a'.length = a.length + 1:=(by rw [← ha'];simp);rw [ha'] at t2;refine Vs ab 2 (b':=zb) (sz:=4) (m:=g.length) (cp:=cz) (all:=[.fr 1 a'.length (cat cI a'),.fr 1 e.length (cat cB e),.sl zb 4 0 g.length cz]) (cs:=cat cT g ++ zrP jz .any) t2 rfl naz t3 (by omega) (by simp [Qv]) (by simp [Qv];omega) ?_;simp only [Vr (f:=cT)]) | (have t1:=w1;refine Vs ab 2 (b':=zb) (sz:=4) (m:=g.length) (cp:=cz) (all:=[.fr 1 a.length (cat cI a),.fr 1 e.length (cat cB e),.sl zb 4 0 g.length cz]) (cs:=cat cT g ++ zrP jz .any) w2 rfl naz w3 (by omega) (by simp [Qv]) (by simp [Qv];omega) ?_;simp only [Vr (f:=cT)]));refine Qc (id:=16) Xy [] (by kernel_rfl) ?_;simp [-zg,-zd,↓Qb,↓Qa,go_sem,nba,zS nba,nbz,zS nbz,naz,zS naz]
 | refine Qe (c:=.tmp 21) ?_;simp [-zg,-zd,↓Qb,↓Qa,go_sem];try first | (refine ⟨?_,?_⟩ <;> refine zA ?_) | (refine ⟨fun c21=>?_,fun c21=>?_⟩ <;> (try simp [B_iff,B_not] at c21))
 | refine Qe (c:=.tmp 31) ?_;simp [-zg,-zd,↓Qb,↓Qa,go_sem];try first | (refine ⟨?_,?_⟩ <;> refine zA ?_) | (refine ⟨fun c31=>?_,fun c31=>?_⟩ <;> (try simp [B_iff,B_not] at c31))
 | refine Qe (c:=.tmp 36) ?_;simp [-zg,-zd,↓Qb,↓Qa,go_sem];try first | (refine ⟨?_,?_⟩ <;> refine zA ?_) | (refine ⟨fun c36=>?_,fun c36=>?_⟩ <;> (try simp [B_iff,B_not] at c36))
 | refine Qe (c:=.tmp 44) ?_;simp [-zg,-zd,↓Qb,↓Qa,go_sem];try first | (refine ⟨?_,?_⟩ <;> refine zA ?_) | (refine ⟨fun c44=>?_,fun c44=>?_⟩ <;> (try simp [B_iff,B_not] at c44))
 | refine Qe (c:=.tmp 49) ?_;simp [-zg,-zd,↓Qb,↓Qa,go_sem];try first | (refine ⟨?_,?_⟩ <;> refine zA ?_) | (refine ⟨fun c49=>?_,fun c49=>?_⟩ <;> (try simp [B_iff,B_not] at c49))
 | refine Qe (c:=.tmp 57) ?_;simp [-zg,-zd,↓Qb,↓Qa,go_sem];try first | (refine ⟨?_,?_⟩ <;> refine zA ?_) | (refine ⟨fun c57=>?_,fun c57=>?_⟩ <;> (try simp [B_iff,B_not] at c57))
 | refine Qe (c:=.tmp 60) ?_;simp [-zg,-zd,↓Qb,↓Qa,go_sem];try first | (refine ⟨?_,?_⟩ <;> refine zA ?_) | (refine ⟨fun c60=>?_,fun c60=>?_⟩ <;> (try simp [B_iff,B_not] at c60))
 | refine Qe (c:=.tmp 65) ?_;simp [-zg,-zd,↓Qb,↓Qa,go_sem];try first | (refine ⟨?_,?_⟩ <;> refine zA ?_) | (refine ⟨fun c65=>?_,fun c65=>?_⟩ <;> (try simp [B_iff,B_not] at c65))
 | (refine Qf ?_)
 | (refine Qr ?_;simp [-zg,-zd,↓Qb,↓Qa,go_sem])
 | (refine Qq ?_;simp [-zg,-zd,↓Qb,↓Qa,go_sem])
 | (refine Qt ?_;try simp [-zg,-zd,↓Qb,↓Qa,go_sem,Tryz.results77])
 | (intro hx;refine zA ?_)
 | (intro hx;change retR _ _ _ _ _)
 | (refine ⟨?_,?_⟩ <;> refine zA ?_)
 | (intro hx;constructor <;> intro hs)
 | (constructor <;> intro hs)
 | (refine ⟨?_,fun hs=>?_⟩;refine zA ?_)
 | (refine ⟨fun hs=>?_,?_⟩;rotate_left;refine zA ?_;rotate_left)
 | ((fail_if_success change retR _ _ _ _ _);(exfalso;omega))))
  all_goals (first
 | (refine zaea _ _ _ _ _ _ (([],[],[])) (p + 1) ?_ ?_ ?_ ?_;(first | exact Or.inl rfl | exact Or.inr rfl);(focus (simp [-zg,-zd,↓Qb,↓Qa,go_sem,Tryz.results77,dat,datL,datL_map,li,Xh,w1,nba,zS nba,nbz,zS nbz,naz,zS naz];done));(focus ((exact ⟨by simp,by simp,by simp,SmallT.nil⟩);done));(focus (refine ⟨?_,?_⟩ <;> omega)))
 | (refine zaea _ _ _ _ _ _ ((a,e,g')) (p + 1 + 1) ?_ ?_ ?_ ?_;(first | exact Or.inl rfl | exact Or.inr rfl);(focus (simp [-zg,-zd,↓Qb,↓Qa,go_sem,Tryz.results77,dat,datL_map,li,Vc,t1,nba,zS nba,nbz,zS nbz,naz,zS naz];done));(focus ((exact ⟨by dsimp only;omega,by dsimp only;omega,by dsimp only;omega,hc2 s4 (by omega)⟩);done));(focus (refine ⟨?_,?_⟩ <;> omega)))
 | (refine zaea _ _ _ _ _ _ ((a',e,g)) (p + 1 + 1) ?_ ?_ ?_ ?_;(first | exact Or.inl rfl | exact Or.inr rfl);(focus (simp [-zg,-zd,↓Qb,↓Qa,go_sem,Tryz.results77,dat,datL_map,li,Vc,t1,nba,zS nba,nbz,zS nbz,naz,zS naz];done));(focus ((exact ⟨by dsimp only;omega,by dsimp only;omega,by dsimp only;omega,s4⟩);done));(focus (refine ⟨?_,?_⟩ <;> omega)))
 | (refine zaea _ _ _ _ _ _ ((a,e,g)) (p + 1) ?_ ?_ ?_ ?_;(first | exact Or.inl rfl | exact Or.inr rfl);(focus (simp [-zg,-zd,↓Qb,↓Qa,go_sem,Tryz.results77,dat,datL_map,li,Vc,t1,nba,zS nba,nbz,zS nbz,naz,zS naz];done));(focus ((exact ⟨by dsimp only;omega,by dsimp only;omega,by dsimp only;omega,s4⟩);done));(focus (refine ⟨?_,?_⟩ <;> omega)))
 | skip)
@[go_sem] def l7MutateC:Con:=.rel fun args H=>match args with
  | [.ptr b 0,.st [.list n_a c_a,.list n_e c_e,.list n_g c_g]]=>match H b with
    | some [.list m cs,.int .i64 p]=>((Is cY m cs) ∧ (m ≤ 2000) ∧ (0 ≤ p) ∧ (p + 3 ≤ 1000000) ∧ (Is cI n_a c_a) ∧ (Is cB n_e c_e) ∧ (Is cT n_g c_g) ∧ (AuS ((de cI c_a),(de cB c_e),(de cT c_g))),fun c=>(Vq (Jy (de cI c_a) (de cB c_e) (de cT c_g) p c).1,upd H b (some [.list m cs,.int .i64 (Jy (de cI c_a) (de cB c_e) (de cT c_g) p c).2])))
    | _=>(False,fun _=>(.any,H))
  | _=>(False,fun _=>(.any,H))
theorem l7MutateC_ok:ConOk Tryz.prog 77 l7MutateC:=by
  refine ⟨Qo Tryz.func77 (by decide) rfl,fun args H h=>?_⟩
  revert h
  dsimp only
  split
  · split
    · rename_i hH
      intro h
      obtain ⟨⟨ys,rfl,rfl⟩,hl,h0_,hp_,⟨a,rfl,rfl⟩,⟨e,rfl,rfl⟩,⟨g,rfl,rfl⟩,hS⟩:=h
      try simp only [Qp] at *
      exact SpecR.enc ((l7Mutate_spec ys _ _ a e g hl h0_ hp_ hS).frame hH).shut fun c=>Prod.ext (zalc _ _ _ hS _ _).2.symm rfl
    · intro h;exact h.elim
  · intro h
    exact h.elim
@[go_sem] def Γy28:FuncId → Con:=ext Γy27 77 l7MutateC
theorem Γy28_ok:∀ g,ConOk Tryz.prog g (Γy28 g):=Qn Xy l7MutateC_ok

theorem AuS.of {x:Au} (h:x.1.length ≤ 5000 ∧ x.2.1.length ≤ 5000 ∧ x.2.2.length ≤ 5000 ∧ SmallT x.2.2):AuS x:=h
def AuM (x:Au):Prop:=x.1.length ≤ 5001 ∧ x.2.1.length ≤ 5000 ∧ x.2.2.length ≤ 5000 ∧ SmallT x.2.2
theorem AuM.nil:AuM ([],[],[]):=⟨by simp,by simp,by simp,SmallT.nil⟩

@[go_sem] def Uc:Au → D:=sA
theorem zaer (x:Au):dat (Uc x) = Uc x:=by simp [go_sem]
def zaaj (xs:List UInt8):Au → Prop:=fun x=>AuM x
def zaan (xs:List UInt8) (x:(Au) × D):Prop:=zaaj xs x.1 ∧ dat x.2 = Uc x.1
def zaai (xs:List UInt8) (c:Any):(Au) × D:=sel (zaan xs) ((([],[],[]):Au),Uc (([],[],[]))) c
def zaal (xs:List UInt8) (c:Any):Au:=(zaai xs c).1
theorem zacd (xs:List UInt8)  (c:Any):zaan xs (zaai xs c):=by
  have hx:zaaj xs (([],[],[])):=AuM.nil
  exact Zi (p:=zaan xs) (x0:=((([],[],[]):Au),Uc (([],[],[])))) ⟨hx,zaer _⟩ c
theorem zafy (xs:List UInt8)  (c:Any):zaaj xs (zaal xs c):=(zacd xs  c).1
theorem zafg (xs:List UInt8) {e_:Exit} {S_:St} (x:Au) (he_:e_ = .ret ∨ e_ = .normal)
    (h1:(Qg Tryz.prog S_ Tryz.f52.results.toList).1 ∧ dat (resD (Qg Tryz.prog S_ Tryz.f52.results.toList).2.1) = Uc x) (hg:zaaj xs x) :
    retR Tryz.prog Tryz.f52 (fun c=>((zaai xs c).2,fun _=>none)) e_ S_ :=
  Ze (good:=zaan xs) (enc:=fun x:(Au) × D=>x.2) (x,resD (Qg Tryz.prog S_ Tryz.f52.results.toList).2.1) he_ ⟨h1.1,rfl⟩ ⟨hg,h1.2⟩
set_option maxHeartbeats 8000000 in
theorem zaeq (xs:List UInt8)  : SpecR Tryz.prog 52 [li cY xs] (fun _=>none) (fun c=>((zaai xs c).2,fun _=>none)):=by
  refine SpecR.of_walk Tryz.func52 rfl (by simp [Tryz.f52]) fun B=>?_
  have hl:=cut_len xs
  all_goals (repeat' (first
 | refine Qs ?_
 | refine Qc (id:=0) Γy28_ok [] (by kernel_rfl) ?_;simp [-zg,-zd,↓Qb,↓Qa,go_sem]
 | refine Qc (id:=1) Γy28_ok [] (by kernel_rfl) ?_;simp [-zg,-zd,↓Qb,↓Qa,go_sem];try (refine Jd 3 rfl fun b hb=>?_;clear hb)
 | ((have u2:∀ c,AuS (Xn 0 c).1 ∧ 0 ≤ (Xn 0 c).2 ∧ (Xn 0 c).2 ≤ 300:=(fun c=>by have h:=zahg 0 c;exact ⟨h.1,by omega,by omega⟩));(have u3:∀ c,AuS ((Xn 0 c).1.1,(Xn 0 c).1.2.1,(Xn 0 c).1.2.2) ∧ 0 ≤ (Xn 0 c).2 ∧ (Xn 0 c).2 + 3 ≤ 1000000:=(fun c=>⟨(u2 c).1,(u2 c).2.1,by have:=(u2 c).2.2;omega⟩)));refine Qc (id:=2) Γy28_ok [] (by kernel_rfl) ?_;simp [-zg,-zd,↓Qb,↓Qa,go_sem,hl,u3];try ((intro c2 c2');(have h2:=(u2 c2).1);(generalize (Xn 0 c2) = z at *);(obtain ⟨⟨za,zb,zc⟩,pz⟩:=z);(dsimp only at h2 ⊢);(have h3:=l7Mutate_ok za zb zc h2 pz c2');(generalize Jy za zb zc pz c2' = w at *);(obtain ⟨⟨wa,wb,wc⟩,pw⟩:=w);(have h4:AuM (wa,wb,wc):=h3.1))
 | (refine Qf ?_)
 | (refine Qr ?_;simp [-zg,-zd,↓Qb,↓Qa,go_sem])
 | (refine Qq ?_;simp [-zg,-zd,↓Qb,↓Qa,go_sem])
 | (refine Qt ?_;try simp [-zg,-zd,↓Qb,↓Qa,go_sem,Tryz.results52])
 | (intro hx;refine zA ?_)
 | (intro hx;change retR _ _ _ _ _)
 | (refine ⟨?_,?_⟩ <;> refine zA ?_)
 | (intro hx;constructor <;> intro hs)
 | (constructor <;> intro hs)
 | (refine ⟨?_,fun hs=>?_⟩;refine zA ?_)
 | (refine ⟨fun hs=>?_,?_⟩;rotate_left;refine zA ?_;rotate_left)))
  all_goals (first
 | (refine zafg _ ((wa,wb,wc)) ?_ ?_ ?_;(first | exact Or.inl rfl | exact Or.inr rfl);(focus (simp [-zg,-zd,↓Qb,↓Qa,go_sem,Tryz.results52,dat,datL_map,li];done));(focus ((exact h4);done)))
 | skip)
@[go_sem] def zabl:Con:=.rel fun args H=>match args with
  | [.list n_xs c_xs]=>((Is cY n_xs c_xs),fun c=>(Uc (zaal (de cY c_xs) c),H))
  | _=>(False,fun _=>(.any,H))
theorem zafh:ConOk Tryz.prog 52 zabl:=by
  refine ⟨Qo Tryz.func52 (by decide) rfl,fun args H h=>?_⟩
  revert h
  dsimp only
  split
  · intro h
    obtain ⟨xs,rfl,rfl⟩:=h
    try simp only [Qp] at *
    exact SpecR.enc ((SpecR.frame0 (zaeq xs ) (H:=H)).shut) fun c=>Prod.ext (zacd _  c).2.symm rfl
  · intro h
    exact h.elim
@[go_sem] def Γy29:FuncId → Con:=ext Γy28 52 zabl
theorem Γy29_ok:∀ g,ConOk Tryz.prog g (Γy29 g):=Qn Γy28_ok zafh

end
end Go.Proofs.YtiilmjojffjhlaaGreatDoor.Vm

