import Derived.Test.YtiilmjojffjhlaaGreatDoorYE7
/-
  Draws: automata. No conditions.
-/
namespace Go.Proofs.YtiilmjojffjhlaaGreatDoor.Vm
open Go
open List renaming getD_eq_getElem?_getD → zg,drop_one → zd,replicate → zrP
open Ne renaming symm → zS
noncomputable section
set_option linter.unusedVariables false
set_option linter.unusedSimpArgs false
set_option maxRecDepth 200000

theorem bitsA_le (x y:Int):bitsD .and .i64 x y ≤ 9223372036854775807:=by
  show IntKind.i64.wrap _ ≤ _
  unfold IntKind.wrap;simp [IntKind.bits,IntKind.signed];split <;> omega
abbrev Au:=List Int × List Bool × List Tr4
@[go_sem] def sA (x:Au):D:=.st [li cI x.1,li cB x.2.1,li cT x.2.2]
def AuS (x:Au):Prop:=x.1.length ≤ 5000 ∧ x.2.1.length ≤ 5000 ∧ x.2.2.length ≤ 5000 ∧ SmallT x.2.2
theorem AuS.nil:AuS ([],[],[]):=⟨by simp,by simp,by simp,SmallT.nil⟩
structure LA where
  k:Nat
  js:List Int
  qs:List Bool
  q:Int
  H:Hp
def LA1 (b ab yb:Nat) (ys:List UInt8) (n1 cy jy:Nat) (p0:Int) (q:LA):Prop:=q.k ≤ n1 ∧ q.js.length ≤ q.k ∧ q.qs.length = n1 ∧ p0 + 1 ≤ q.q ∧ q.q ≤ p0 + 1 + 3 * q.k ∧ q.H b = some [.list ys.length (cat cY ys),.int .i64 (q.q)] ∧ q.H ab = some [.fr 1 q.js.length (cat cI q.js),.sl yb 1 0 n1 cy,.fr 4 0 []] ∧ q.H yb = some (cat cB q.qs ++ zrP jy .any)
def LB (b ab yb:Nat) (ys:List UInt8) (n1 cy jy:Nat) (p0:Int) (q:LA):Prop:=q.k < n1 ∧ q.js.length ≤ q.k ∧ q.qs.length = n1 ∧ p0 + 1 ≤ q.q ∧ q.q ≤ p0 + 1 + 3 * q.k + 3 ∧ q.H b = some [.list ys.length (cat cY ys),.int .i64 (q.q)] ∧ q.H ab = some [.fr 1 q.js.length (cat cI q.js),.sl yb 1 0 n1 cy,.fr 4 0 []] ∧ q.H yb = some (cat cB q.qs ++ zrP jy .any)
theorem LB.skip {b ab yb:Nat} {ys:List UInt8} {n1 cy jy:Nat} {p0:Int} {k:Nat} {js:List Int} {qs:List Bool} {q2:Int} {H:Hp} (h:LB b ab yb ys n1 cy jy p0 ⟨k,js,qs,q2,H⟩):LA1 b ab yb ys n1 cy jy p0 ⟨k + 1,js,qs,q2,H⟩:=by
  obtain ⟨h1,h2,h3,h4,h5,h6,h7,h8⟩:=h
  dsimp only at h1 h2 h3 h4 h5 h6 h7 h8
  exact ⟨by dsimp only;omega,by dsimp only;omega,h3,h4,by dsimp only;omega,h6,h7,h8⟩
def MA (b:Nat) (ys:List UInt8) (p:Int) (S:St):Prop:=∃ p0:Int,p + 1 ≤ p0 ∧ p0 ≤ p + 101 ∧ S.T 0 = .ptr b 0 ∧ S.T 2 = .box [.nil,.nil,.nil] ∧ S.H b = some [.list ys.length (cat cY ys),.int .i64 p0]
theorem MA.sub {b:Nat} {ys:List UInt8} {p0:Int} {S:St} (h0:S.T 0 = .ptr b 0) (h2:S.T 2 = .box [.nil,.nil,.nil]) (h3:S.H b = some [.list ys.length (cat cY ys),.int .i64 p0]):Sub S ⟨upd (upd (fun _=>.any) 0 (.ptr b 0)) 2 (.box [.nil,.nil,.nil]),upd (fun _=>none) b (some [.list ys.length (cat cY ys),.int .i64 p0])⟩ :=
  Qf (Qf (Qg fun b' cs h=>by
    by_cases e:b' = b
    · subst e;rw [Qu] at h;rw [h3];exact h
    · rw [Ql e] at h;cases h) h0) h2
theorem AW_merge {P:Program} {B:Base} {n:Nat} {S:St} {c:Code} {K:St → Prop} {Q:Exit → St → Prop} (M:St → Prop) (h1:AW P B n c (Exit.thenA M Q) S) (h2:∀ S',M S' → K S'):AW P B n c (Exit.thenA K Q) S :=
  AW_mono h1 fun e S' hq=>by
    cases e with
    | normal=>exact h2 S' hq
    | _=>exact hq
structure LE where
  es:List Tr4
  m:Int
  q:Int
  H:Hp
def LE2 (b ab yb:Nat) (ys:List UInt8) (n1 cy jy:Nat) (q0:Int) (js:List Int) (qs:List Bool) (r:LE):Prop:=(0 ≤ r.m ∧ r.m ≤ 10) ∧ (r.es.length:Int) + r.m ≤ 10 ∧ SmallT r.es ∧ q0 + 1 ≤ r.q ∧ r.q ≤ q0 + 1 + 4 * (10 - r.m) ∧ r.H b = some [.list ys.length (cat cY ys),.int .i64 (r.q)] ∧ r.H ab = some [.fr 1 js.length (cat cI js),.sl yb 1 0 n1 cy,.fr 4 r.es.length (cat cT r.es)] ∧ r.H yb = some (cat cB qs ++ zrP jy .any)
theorem AW_boxNilM {P:Program} {B:Base} {n:Nat} {S:St} {c:Code} {Q:Exit → St → Prop} (t:Nat) {d:D} (hT:S.T t = .box [.nil,d,.nil]) (h:AW P B n c Q ⟨upd S.T t (.box [.fr 1 0 [],d,.fr 4 0 []]),S.H⟩):AW P B n c Q S :=
  Yn t hT (fun μ I w vs f hr=>by
    simp only [RepL] at hr ⊢
    obtain ⟨v,vs',f1,f2,e1,e2,r1,v2,vs2,g1,g2,e3,e4,r2,v3,vs3,g3,g4,e5,e6,r3,r4⟩:=hr
    exact ⟨v,vs',f1,f2,e1,e2,Jw r1,v2,vs2,g1,g2,e3,e4,r2,v3,vs3,g3,g4,e5,e6,Jw r3,r4⟩) (fun N hb=>by simp only [bndL,bnd] at hb ⊢;exact ⟨trivial,hb.2.1,trivial,trivial⟩) h

@[go_sem] def zaau:Au → D:=fun x=>.st [fr 1 cI x.1,fr 1 cB x.2.1,fr 4 cT x.2.2]
def zabn  : Au → Prop:=fun x=>AuS x
def zahc  (x:(Au) × D):Prop:=zabn x.1 ∧ x.2 = zaau x.1
def zaaq  (p:Int) (c:Any):((Au) × D) × Int:=dsel (zahc) ((([],[],[]):Au),zaau (([],[],[]))) 300 p c
def Vf  (p:Int) (c:Any):(Au) × Int:=((zaaq p c).1.1,(zaaq p c).2)
theorem zajp   (p:Int) (c:Any):(zabn (Vf p c).1 ∧ p ≤ (Vf p c).2 ∧ (Vf p c).2 ≤ p + 300) ∧ (zaaq p c).1.2 = zaau (Vf p c).1:=by
  have hx:zabn (([],[],[])):=AuS.nil
  have h:=Zy (good:=zahc) (x0:=((([],[],[]):Au),zaau (([],[],[])))) ⟨hx,rfl⟩ (K:=300) (by omega) (p:=p) c
  exact ⟨⟨h.1.1,h.2.1,h.2.2⟩,h.1.2⟩
theorem l7Automaton_ok   (p:Int) (c:Any):zabn (Vf p c).1 ∧ p ≤ (Vf p c).2 ∧ (Vf p c).2 ≤ p + 300:=(zajp  p c).1
theorem zajo  (ys:List UInt8) (p:Int) (b:Nat) {e_:Exit} {S_:St} (x:Au) (p':Int) (he_:e_ = .ret ∨ e_ = .normal)
    (h1:(Qd Tryz.prog S_ Tryz.f61.results.toList).1 ∧ (resD (Qd Tryz.prog S_ Tryz.f61.results.toList).2.1) = zaau x ∧ (Qd Tryz.prog S_ Tryz.f61.results.toList).2.2.H b = some [li cY ys,.int .i64 p']) (hg:zabn x) (h2:p ≤ p' ∧ p' ≤ p + 300) :
    retR Tryz.prog Tryz.f61 (fun c=>((zaaq p c).1.2,one b [li cY ys,.int .i64 (zaaq p c).2])) e_ S_ :=
  Zw (good:=zahc) (enc:=fun x:(Au) × D=>x.2) (cells:=fun q=>[li cY ys,.int .i64 q]) (x,resD (Qd Tryz.prog S_ Tryz.f61.results.toList).2.1) p' he_ ⟨h1.1,rfl,h1.2.2⟩ ⟨hg,h1.2.1⟩ h2
set_option maxHeartbeats 16000000 in
theorem zaqr (ys:List UInt8) (p:Int) (b:Nat)  (hl:ys.length ≤ 2000) (h0_:0 ≤ p) (hp_:p + 300 ≤ 1000000)  : SpecR Tryz.prog 61 [.ptr b 0] (one b [li cY ys,.int .i64 p]) (fun c=>((zaaq p c).1.2,one b [li cY ys,.int .i64 (zaaq p c).2])):=by
  refine SpecR.of_walk Tryz.func61 rfl (by simp [Tryz.f61]) fun B=>?_
  (repeat' (first
 | refine Qt ?_
 | refine Qc (id:=1) Zg [] (by kernel_rfl) ?_;simp [-zg,-zd,↓Qb,↓Qa,go_sem,hl,(show 0 ≤ p by omega),(show p ≤ 1000000 by omega),(show 0 ≤ p + 1 by omega),(show p + 1 ≤ 1000000 by omega)];try ((refine AW_merge (MA b ys p) ?_ fun S' hM=>?_;rotate_left;(obtain ⟨p0,hq1,hq2,h0,h2,h3⟩:=hM;refine AW_less (S':=⟨upd (upd (fun _=>.any) 0 (.ptr b 0)) 2 (.box [.nil,.nil,.nil]),upd (fun _=>none) b (some [.list ys.length (cat cY ys),.int .i64 p0])⟩) (MA.sub h0 h2 h3) ?_)))
 | refine Qc (id:=2) Zg [] (by kernel_rfl) ?_;simp [-zg,-zd,↓Qb,↓Qa,go_sem,hl,(show 0 ≤ p + 1 by omega),(show p + 1 ≤ 1000000 by omega),(show 0 ≤ p + 1 + 1 by omega),(show p + 1 + 1 ≤ 1000000 by omega),(show p + 1 + 100 ≤ 1000000 by omega)];try ((intro c2 c2');(have z0:=l5Formula_ok (p + 1) c2);(generalize Vh (p + 1) c2 = z at *);(obtain ⟨z1,z2,z3⟩:=z0);(obtain ⟨⟨fk,fv,fs⟩,p2⟩:=z);(dsimp only at z1 z2 z3);(simp only [Tree.k_mk,Tree.v_mk,Tree.ks_mk]);(have y0:=zafn fk fv fs c2');(generalize Jc fk fv fs c2' = y at *);(obtain ⟨⟨xa,xb,xc⟩,okt⟩:=y);(simp only [zaal] at y0);(obtain ⟨y1,y2,y3,y4,-⟩:=y0);(refine Xs 3 rfl fun tb htb=>?_);(have nbt:¬ b = tb:=(by rintro rfl;simp [upd] at htb));(clear htb);(refine Xw tb 1 (all:=[.fr 1 xa.length (cat cI xa),.fr 1 xb.length (cat cB xb),.fr 4 xc.length (cat cT xc)]) (by simp [upd]) rfl fun xbb cy0 jy0 hyb0 hcy0 hdy0=>?_);(have nbx:¬ b = xbb:=(by rintro rfl;simp [upd,nbt] at hyb0));(have ntx:¬ tb = xbb:=(by rintro rfl;simp [upd] at hyb0));(clear hyb0);(refine Qp (fun H1=>H1 b = some [.list ys.length (cat cY ys),.int .i64 p2] ∧ H1 tb = some [.fr 1 xa.length (cat cI xa),.sl xbb 1 0 xb.length cy0,.fr 4 xc.length (cat cT xc)] ∧ H1 xbb = some (cat cB xb ++ zrP jy0 .any)) ⟨by simp [upd,nbt,zS nbt,nbx,zS nbx,ntx,zS ntx],by simp [upd,nbt,zS nbt,nbx,zS nbx,ntx,zS ntx],by simp [upd]⟩ fun H1 ⟨v1,v2,v3⟩=>?_))
 | refine Qc (id:=3) Zg [20] (by kernel_rfl) ?_;simp [-zg,-zd,↓Qb,↓Qa,go_sem,v1,v2,v3,nbt,zS nbt,nbx,zS nbx,ntx,zS ntx];try (refine ⟨fun s3a=>?_,fun s3a=>?_⟩ <;> (try simp [B_iff,B_not] at s3a) <;> try (refine ⟨fun s3b=>?_,fun s3b=>?_⟩ <;> (try simp [B_iff,B_not] at s3b)))
 | ((refine Xu tb 1 (b':=xbb) (sz:=1) (m:=xb.length) (cp:=cy0) (all:=[.fr 1 xa.length (cat cI xa),.sl xbb 1 0 xb.length cy0,.fr 4 xc.length (cat cT xc)]) (cs:=cat cB xb ++ zrP jy0 .any) v2 rfl ntx v3 (by omega) (by simp [Qv]) (by simp [Qv];omega) ?_);(simp only [Nat.mul_one,Zf]));refine Qc (id:=4) Zg [] (by kernel_rfl) ?_;simp [-zg,-zd,↓Qb,↓Qa,go_sem,v1,nbt,zS nbt,nbx,zS nbx,ntx,zS ntx]
 | refine Qc (id:=5) Zg [] (by kernel_rfl) ?_;simp [-zg,-zd,↓Qb,↓Qa,go_sem,hl,(show 0 ≤ p0 by omega),(show p0 ≤ 1000000 by omega),(show 0 ≤ p0 + 1 by omega),(show p0 + 1 ≤ 1000000 by omega)];try ((have hr:=Jx ys (p:=p0) (by omega) (xs:=[3,2,4,1,5]) (lo:=1) (hi:=5) (by simp) (by simp));(generalize numI ys p0 [3,2,4,1,5] = nn at *);(obtain ⟨n1,hn1⟩:∃ n1:Nat,nn = (n1:Int):=⟨nn.toNat,by omega⟩);(subst hn1))
 | refine Qc (id:=6) Zg [] (by kernel_rfl) ?_;simp [-zg,-zd,↓Qb,↓Qa,go_sem,make_cB,(by omega:(n1:Int) ≤ 281474976710656),(by omega:(n1:Int) ≤ 9223372036854775807),(by omega:(0:Int) ≤ (n1:Int))];try ((refine AW_boxNilM 6 rfl ?_);(refine Xs 6 rfl fun ab hab=>?_);(have nba:¬ b = ab:=(by rintro rfl;simp [upd] at hab));(clear hab);(refine Xw ab 1 (all:=[.fr 1 0 [],.fr 1 n1 (cat cB (zrP n1 false)),.fr 4 0 []]) (by simp [upd]) rfl fun yb cy jy hyb hcy hdy=>?_);(have nby:¬ b = yb:=(by rintro rfl;simp [upd,nba] at hyb));(have nay:¬ ab = yb:=(by rintro rfl;simp [upd] at hyb));(clear hyb);(refine Qp (fun H1=>LA1 b ab yb ys n1 cy jy p0 ⟨0,[],zrP n1 false,p0 + 1,H1⟩) ⟨Nat.zero_le _,Nat.le_refl _,by simp,by dsimp only;omega,by dsimp only;omega,by simp [upd,nba,zS nba,nby,zS nby,nay,zS nay],by simp [upd,nba,zS nba,nby,zS nby,nay,zS nay,Xb],by simp [upd]⟩ fun H2 hL=>?_))
 | ((obtain ⟨g1,g2,g3,g4,g5,g6,g7,g8⟩:=id hq));refine Qc (id:=8) Zg [] (by kernel_rfl) ?_;simp [-zg,-zd,↓Qb,↓Qa,go_sem]
 | refine Xr (id:=10) Zg mixed [(ab,[.fr 1 q.js.length (cat cI q.js),.sl yb 1 0 n1 cy,.fr 4 0 []])] [] [] (by kernel_rfl) (by kernel_rfl) ?_ ?_ ?_ <;> simp [-zg,-zd,↓Qb,↓Qa,go_sem,g6,g7,g8,hl,nba,zS nba,nby,zS nby,nay,zS nay,(show 0 ≤ q.q by omega),(show q.q ≤ 1000000 by omega),(show 0 ≤ q.q + 1 by omega),(show q.q + 1 ≤ 1000000 by omega),(show q.k < n1 by omega),(show q.k < n1 + jy by omega),(show q.k + 1 ≤ n1 + jy by omega),(show q.k < q.qs.length by omega),g3];try ((generalize decide (pkI ys q.q 3 = 0) = ac at *);(refine Qp (fun H1=>H1 b = some [.list ys.length (cat cY ys),.int .i64 (q.q + 1)] ∧ H1 ab = some [.fr 1 q.js.length (cat cI q.js),.sl yb 1 0 n1 cy,.fr 4 0 []] ∧ H1 yb = some (cat cB (q.qs.set q.k ac) ++ zrP jy .any)) ⟨by simp [upd,nba,zS nba,nby,zS nby,nay,zS nay],by simp [upd,nba,zS nba,nby,zS nby,nay,zS nay,g7],by simp [upd,nba,zS nba,nby,zS nby,nay,zS nay]⟩ fun H2 ⟨v1,v2,v3⟩=>?_))
 | refine Qc (id:=11) Zg [47,52] (by kernel_rfl) ?_;simp [-zg,-zd,↓Qb,↓Qa,go_sem,v1,hl,(show 0 ≤ q.q + 1 by omega),(show q.q + 1 ≤ 1000000 by omega),(show 0 ≤ q.q + 1 + 1 by omega),(show q.q + 1 + 1 ≤ 1000000 by omega),(show 0 ≤ q.q + 1 + 1 + 1 by omega),(show q.q + 1 + 1 + 1 ≤ 1000000 by omega)];try (refine ⟨fun s11a=>?_,fun s11a=>?_⟩ <;> (try simp [B_iff,B_not] at s11a) <;> try (refine ⟨fun s11b=>?_,fun s11b=>?_⟩ <;> (try simp [B_iff,B_not] at s11b) <;> try (refine ⟨fun s11c=>?_,fun s11c=>?_⟩ <;> (try simp [B_iff,B_not] at s11c))))
 | (first | (refine Qp (fun H1=>LB b ab yb ys n1 cy jy p0 ⟨q.k,q.js,q.qs.set q.k ac,q.q + 1 + 1 + 1,H1⟩) ?_ fun H3 hB=>?_;(focus (refine ⟨?_,?_,?_,?_,?_,?_,?_,?_⟩ <;> first | omega | (dsimp only;omega) | (simp;done) | (simp;omega) | (simp [upd,nba,zS nba,nby,zS nby,nay,zS nay,v1,v2,v3];done)));obtain ⟨q2,hq2⟩:∃ x,q.q + 1 + 1 + 1 = x:=⟨_,rfl⟩;rw [hq2] at hB) | (refine Qp (fun H1=>LB b ab yb ys n1 cy jy p0 ⟨q.k,q.js,q.qs.set q.k ac,q.q + 1 + 1,H1⟩) ?_ fun H3 hB=>?_;(focus (refine ⟨?_,?_,?_,?_,?_,?_,?_,?_⟩ <;> first | omega | (dsimp only;omega) | (simp;done) | (simp;omega) | (simp [upd,nba,zS nba,nby,zS nby,nay,zS nay,v1,v2,v3];done)));obtain ⟨q2,hq2⟩:∃ x,q.q + 1 + 1 = x:=⟨_,rfl⟩;rw [hq2] at hB) | (refine Qp (fun H1=>LB b ab yb ys n1 cy jy p0 ⟨q.k,q.js,q.qs.set q.k ac,q.q + 1,H1⟩) ?_ fun H3 hB=>?_;(focus (refine ⟨?_,?_,?_,?_,?_,?_,?_,?_⟩ <;> first | omega | (dsimp only;omega) | (simp;done) | (simp;omega) | (simp [upd,nba,zS nba,nby,zS nby,nay,zS nay,v1,v2,v3];done)));obtain ⟨q2,hq2⟩:∃ x,q.q + 1 = x:=⟨_,rfl⟩;rw [hq2] at hB));refine Qc (id:=12) Zg [] (by kernel_rfl) ?_;simp [-zg,-zd,↓Qb,↓Qa,go_sem,(show H3 ab = some [.fr 1 q.js.length (cat cI q.js),.sl yb 1 0 n1 cy,.fr 4 0 []] from hB.2.2.2.2.2.2.1),(show q.js.length ≤ 9223372036854775806 by omega),(show 2 * (q.js.length + 1) * 8 ≤ 281474976710656 by omega),Vd];try ((refine Qp (fun H1=>LA1 b ab yb ys n1 cy jy p0 ⟨q.k + 1,q.js ++ [(q.k:Int)],q.qs.set q.k ac,q2,H1⟩) ⟨by have:=hB.1;dsimp only;omega,by simp;omega,hB.2.2.1,by have:=hB.2.2.2.1;dsimp only at this ⊢;omega,by have:=hB.2.2.2.2.1;dsimp only at this ⊢;omega,by have:=hB.2.2.2.2.2.1;simpa [upd,nba,zS nba,nby,zS nby,nay,zS nay] using this,by simp [upd],by have:=hB.2.2.2.2.2.2.2;simpa [upd,nba,zS nba,nby,zS nby,nay,zS nay] using this⟩ fun H4 hz=>?_);(obtain ⟨zz,hzz⟩:∃ zz:LA,zz = ⟨q.k + 1,q.js ++ [(q.k:Int)],q.qs.set q.k ac,q2,H4⟩:=⟨_,rfl⟩);(rw [← hzz] at hz);(have z1:(q.k:Int) + 1 = (zz.k:Int):=(by rw [hzz];dsimp only;omega));(have z4:H4 = zz.H:=(by rw [hzz]));(rw [z4]);(clear hzz hB))
 | (first | (have z9:=z1) | ((first | (refine Qp (fun H1=>LB b ab yb ys n1 cy jy p0 ⟨q.k,q.js,q.qs.set q.k ac,q.q + 1 + 1 + 1,H1⟩) ?_ fun H3 hB=>?_;(focus (refine ⟨?_,?_,?_,?_,?_,?_,?_,?_⟩ <;> first | omega | (dsimp only;omega) | (simp;done) | (simp;omega) | (simp [upd,nba,zS nba,nby,zS nby,nay,zS nay,v1,v2,v3];done)));obtain ⟨q2,hq2⟩:∃ x,q.q + 1 + 1 + 1 = x:=⟨_,rfl⟩;rw [hq2] at hB) | (refine Qp (fun H1=>LB b ab yb ys n1 cy jy p0 ⟨q.k,q.js,q.qs.set q.k ac,q.q + 1 + 1,H1⟩) ?_ fun H3 hB=>?_;(focus (refine ⟨?_,?_,?_,?_,?_,?_,?_,?_⟩ <;> first | omega | (dsimp only;omega) | (simp;done) | (simp;omega) | (simp [upd,nba,zS nba,nby,zS nby,nay,zS nay,v1,v2,v3];done)));obtain ⟨q2,hq2⟩:∃ x,q.q + 1 + 1 = x:=⟨_,rfl⟩;rw [hq2] at hB) | (refine Qp (fun H1=>LB b ab yb ys n1 cy jy p0 ⟨q.k,q.js,q.qs.set q.k ac,q.q + 1,H1⟩) ?_ fun H3 hB=>?_;(focus (refine ⟨?_,?_,?_,?_,?_,?_,?_,?_⟩ <;> first | omega | (dsimp only;omega) | (simp;done) | (simp;omega) | (simp [upd,nba,zS nba,nby,zS nby,nay,zS nay,v1,v2,v3];done)));obtain ⟨q2,hq2⟩:∃ x,q.q + 1 = x:=⟨_,rfl⟩;rw [hq2] at hB));(obtain ⟨zz,hzz⟩:∃ zz:LA,zz = ⟨q.k + 1,q.js,q.qs.set q.k ac,q2,H3⟩:=⟨_,rfl⟩);(have hz:LA1 b ab yb ys n1 cy jy p0 zz:=(by rw [hzz];exact hB.skip));(have z1:(q.k:Int) + 1 = (zz.k:Int):=(by rw [hzz];dsimp only;omega));(have z4:H3 = zz.H:=(by rw [hzz]));(rw [z4]);(clear hzz hB)));refine Qc (id:=9) Zg [] (by kernel_rfl) ?_;simp [-zg,-zd,↓Qb,↓Qa,go_sem,wrapS (k:=q.k) (by omega)]
 | ((obtain ⟨g1,g2,g3,g4,g5,g6,g7,g8⟩:=hq));refine Qc (id:=13) Zg [] (by kernel_rfl) ?_;simp [-zg,-zd,↓Qb,↓Qa,go_sem,g6,hl,(show 0 ≤ q.q by omega),(show q.q ≤ 1000000 by omega),(show 0 ≤ q.q + 1 by omega),(show q.q + 1 ≤ 1000000 by omega)];try ((have hr2:=Jx ys (p:=q.q) (by omega) (xs:=[6,4,8,3,10]) (lo:=3) (hi:=10) (by simp) (by simp));(generalize numI ys q.q [6,4,8,3,10] = mm at *);(refine Qp (fun H1=>LE2 b ab yb ys n1 cy jy q.q q.js q.qs ⟨[],mm,q.q + 1,H1⟩) ⟨by dsimp only;omega,by simp;omega,SmallT.nil,by dsimp only;omega,by dsimp only;omega,by simp [upd,nba,zS nba,nby,zS nby,nay,zS nay],by simp [upd,nba,zS nba,nby,zS nby,nay,zS nay,g7,Xb],by simp [upd,nba,zS nba,nby,zS nby,nay,zS nay,g8]⟩ fun H2 hE=>?_))
 | ((obtain ⟨e1,e2,e3,e4,e5,e6,e7,e8⟩:=id hr));refine Qc (id:=14) Zg [] (by kernel_rfl) ?_;simp [-zg,-zd,↓Qb,↓Qa,go_sem]
 | refine Qc (id:=16) Zg [] (by kernel_rfl) ?_;simp [-zg,-zd,↓Qb,↓Qa,go_sem,e6,hl,(show 0 ≤ r.q by omega),(show r.q ≤ 1000000 by omega),(show 0 ≤ r.q + 1 by omega),(show r.q + 1 ≤ 1000000 by omega)];try ((generalize numI ys r.q [1,3,0,2,7] = care at *);(refine Qp (fun H1=>H1 b = some [.list ys.length (cat cY ys),.int .i64 (r.q + 1)] ∧ H1 ab = some [.fr 1 q.js.length (cat cI q.js),.sl yb 1 0 n1 cy,.fr 4 r.es.length (cat cT r.es)] ∧ H1 yb = some (cat cB q.qs ++ zrP jy .any)) ⟨by simp [upd,nba,zS nba,nby,zS nby,nay,zS nay],by simp [upd,nba,zS nba,nby,zS nby,nay,zS nay,e7],by simp [upd,nba,zS nba,nby,zS nby,nay,zS nay,e8]⟩ fun H3 ⟨v1,v2,v3⟩=>?_))
 | ((refine Xw ab 2 (all:=[.fr 1 q.js.length (cat cI q.js),.sl yb 1 0 n1 cy,.fr 4 r.es.length (cat cT r.es)]) v2 rfl fun zb cz jz hzb hcz hdz=>?_);(have nbz:¬ b = zb:=(by rintro rfl;simp [upd,nba,v1] at hzb));(have naz:¬ ab = zb:=(by rintro rfl;simp [upd,v2] at hzb));(have nyz:¬ yb = zb:=(by rintro rfl;simp [upd,v3,zS nay] at hzb));(clear hzb));refine Xr (id:=17) Zg mixed [(ab,[.fr 1 q.js.length (cat cI q.js),.sl yb 1 0 n1 cy,.sl zb 4 0 r.es.length cz])] [] [0,9,5] (by kernel_rfl) (by kernel_rfl) ?_ ?_ ?_ <;> simp [-zg,-zd,↓Qb,↓Qa,go_sem,v1,hl,nba,zS nba,nby,zS nby,nay,zS nay,nbz,zS nbz,naz,zS naz,nyz,zS nyz,(show 0 ≤ r.q + 1 by omega),(show r.q + 1 ≤ 1000000 by omega),(show 0 ≤ r.q + 1 + 1 by omega),(show r.q + 1 + 1 ≤ 1000000 by omega),(show 0 ≤ r.q + 1 + 1 + 1 by omega),(show r.q + 1 + 1 + 1 ≤ 1000000 by omega),(show 0 ≤ r.q + 1 + 1 + 1 + 1 by omega),(show r.q + 1 + 1 + 1 + 1 ≤ 1000000 by omega),(show (n1:Int) ≤ 1000000 by omega),(show r.es.length ≤ 9223372036854775806 by omega),(show 2 * (r.es.length + 1) * 32 ≤ 281474976710656 by omega),hdz];try ((have hsm:bitsD .and .i64 (pkI ys (r.q + 1 + 1) 8) care ≤ 9223372036854775807:=bitsA_le _ _);(refine Qp (fun H1=>LE2 b ab yb ys n1 cy jy q.q q.js q.qs ⟨r.es ++ [(pkI ys (r.q + 1) n1,care,bitsD .and .i64 (pkI ys (r.q + 1 + 1) 8) care,pkI ys (r.q + 1 + 1 + 1) n1)],r.m - 1,r.q + 1 + 1 + 1 + 1,H1⟩) ⟨by dsimp only;omega,by simp;omega,e3.snoc hsm,by dsimp only;omega,by dsimp only;omega,by simp [upd,nba,zS nba,nby,zS nby,nay,zS nay,nbz,zS nbz,naz,zS naz],by simp [upd,nba,zS nba,nby,zS nby,nay,zS nay,nbz,zS nbz,naz,zS naz,snoc_cTy],by simp [upd,nba,zS nba,nby,zS nby,nay,zS nay,nbz,zS nbz,naz,zS naz,nyz,zS nyz,v3]⟩ fun H4 hE4=>?_);(generalize ((pkI ys (r.q + 1) n1,care,bitsD .and .i64 (pkI ys (r.q + 1 + 1) 8) care,pkI ys (r.q + 1 + 1 + 1) n1):Tr4) = ed at *))
 | refine Qc (id:=15) Zg [] (by kernel_rfl) ?_;simp [-zg,-zd,↓Qb,↓Qa,go_sem,Xa (x:=r.m - 1) (by omega) (by omega)]
 | ((obtain ⟨e1,e2,e3,e4,e5,e6,e7,e8⟩:=hr);(refine Xu ab 1 (b':=yb) (sz:=1) (m:=n1) (cp:=cy) (all:=[.fr 1 q.js.length (cat cI q.js),.sl yb 1 0 n1 cy,.fr 4 r.es.length (cat cT r.es)]) (cs:=cat cB q.qs ++ zrP jy .any) e7 rfl nay e8 (by omega) (by simp [Qv];omega) (by simp [Qv];omega) ?_);(simp only [Nat.mul_one,Zt (f:=cB) q.qs (zrP jy D.any) (n:=n1) g3.symm]));refine Qc (id:=18) Zg [] (by kernel_rfl) ?_;simp [-zg,-zd,↓Qb,↓Qa,go_sem,nba,zS nba,nby,zS nby,nay,zS nay]
 | (refine Qe (id:=0) (Qw (ι:=LA) (fun q:LA=>⟨(upd (upd (upd (upd (upd (fun _=>.any) 0 (.ptr b 0)) 2 (.box [.nil,.nil,.nil])) 5 (.int .i64 (n1:Int))) 6 (.ptr ab 0)) 7 (.int .i64 (q.k:Int))),q.H⟩) (fun q=>LA1 b ab yb ys n1 cy jy p0 q) (fun q=>n1 - q.k) (⟨0,[],zrP n1 false,p0 + 1,H2⟩) ?_ ?_ ?_);exact hL;((repeat' (first | exact Qg (by assumption) | exact Qi | refine Qf ?_ ?_ | refine Qh ?_)) <;> simp [-zg,-zd,↓Qb,↓Qa,go_sem]);rintro q hq)
 | (refine ⟨zz,hz,by first | omega | (simp;done) | (simp;omega),?_⟩;((repeat' (first | exact Qg (by assumption) | exact Qi | refine Qf ?_ ?_ | refine Qh ?_)) <;> simp [-zg,-zd,↓Qb,↓Qa,go_sem,z1]))
 | (refine Qe (id:=2) (Qw (ι:=LE) (fun r:LE=>⟨(upd (upd (upd (upd (upd (fun _=>.any) 0 (.ptr b 0)) 2 (.box [.nil,.nil,.nil])) 5 (.int .i64 (n1:Int))) 6 (.ptr ab 0)) 8 (.int .i64 r.m)),r.H⟩) (fun r=>LE2 b ab yb ys n1 cy jy q.q q.js q.qs r) (fun r=>r.m.toNat) (⟨[],mm,q.q + 1,H2⟩) ?_ ?_ ?_);exact hE;((repeat' (first | exact Qg (by assumption) | exact Qi | refine Qf ?_ ?_ | refine Qh ?_)) <;> simp [-zg,-zd,↓Qb,↓Qa,go_sem]);rintro r hr)
 | (refine ⟨⟨r.es ++ [ed],r.m - 1,r.q + 1 + 1 + 1 + 1,H4⟩,hE4,by first | omega | (simp;done) | (simp;omega),?_⟩;((repeat' (first | exact Qg (by assumption) | exact Qi | refine Qf ?_ ?_ | refine Qh ?_)) <;> simp [-zg,-zd,↓Qb,↓Qa,go_sem]))
 | (refine Qe ?_)
 | (refine Qs ?_;simp [-zg,-zd,↓Qb,↓Qa,go_sem])
 | (refine Qr ?_;simp [-zg,-zd,↓Qb,↓Qa,go_sem])
 | (refine Qq ?_;try simp [-zg,-zd,↓Qb,↓Qa,go_sem,Tryz.results61])
 | (intro hx;refine zA ?_)
 | (intro hx;change retR _ _ _ _ _)
 | (refine ⟨?_,?_⟩ <;> refine zA ?_)
 | (intro hx;constructor <;> intro hs)
 | (constructor <;> intro hs)
 | (refine ⟨?_,fun hs=>?_⟩;refine zA ?_)
 | (refine ⟨fun hs=>?_,?_⟩;rotate_left;refine zA ?_;rotate_left)
 | (refine Qj ?_;simp [-zg,-zd,↓Qb,↓Qa,go_sem];try first | (refine ⟨?_,?_⟩ <;> refine zA ?_) | (refine ⟨fun c0z=>?_,fun c0z=>?_⟩ <;> (try simp [B_iff,B_not] at c0z)))
 | (refine Qc Zg [] (by kernel_rfl) ?_;simp [-zg,-zd,↓Qb,↓Qa,go_sem])
 | fail))
  all_goals (first
 | (refine ⟨p + 1,by omega,by omega,?_,?_,?_⟩ <;> simp [upd,go_sem];done)
 | (refine ⟨p2,by omega,by omega,?_,?_,?_⟩ <;> simp [upd,go_sem,v1];done)
 | (refine zajo _ _ _ ((xa,xb,xc)) (p2) ?_ ?_ ?_ ?_;(first | exact Or.inl rfl | exact Or.inr rfl);(focus (simp [-zg,-zd,↓Qb,↓Qa,go_sem,Tryz.results61,v1,nbt,zS nbt,nbx,zS nbx,ntx,zS ntx];done));(focus ((exact ⟨by dsimp only;omega,by dsimp only;omega,by dsimp only;omega,y4⟩);done));(focus (refine ⟨?_,?_⟩ <;> omega)))
 | (refine zajo _ _ _ ((q.js,q.qs,r.es)) (r.q) ?_ ?_ ?_ ?_;(first | exact Or.inl rfl | exact Or.inr rfl);(focus (simp [-zg,-zd,↓Qb,↓Qa,go_sem,Tryz.results61,e6,g3,nba,zS nba,nby,zS nby,nay,zS nay];done));(focus ((exact ⟨by dsimp only;omega,by dsimp only;omega,by dsimp only;omega,e3⟩);done));(focus (refine ⟨?_,?_⟩ <;> omega)))
 | skip)
@[go_sem] def zakd:Con:=.rel fun args H=>match args with
  | [.ptr b 0]=>match H b with
    | some [.list m cs,.int .i64 p]=>((Is cY m cs) ∧ (m ≤ 2000) ∧ (0 ≤ p) ∧ (p + 300 ≤ 1000000),fun c=>(zaau (Vf p c).1,upd H b (some [.list m cs,.int .i64 (Vf p c).2])))
    | _=>(False,fun _=>(.any,H))
  | _=>(False,fun _=>(.any,H))
theorem zasy:ConOk Tryz.prog 61 zakd:=by
  refine ⟨Qo Tryz.func61 (by decide) rfl,fun args H h=>?_⟩
  revert h
  dsimp only
  split
  · split
    · rename_i hH
      intro h
      obtain ⟨⟨ys,rfl,rfl⟩,hl,h0_,hp_⟩:=h
      try simp only [Qm] at *
      exact SpecR.enc ((zaqr ys _ _ hl h0_ hp_ ).frame hH) fun c=>Prod.ext (zajp  _ _).2.symm rfl
    · intro h;exact h.elim
  · intro h
    exact h.elim
@[go_sem] def Γy27:FuncId → Con:=ext Γy26 61 zakd
theorem Jh:∀ g,ConOk Tryz.prog g (Γy27 g):=Qn Zg zasy


theorem SmallT.cons {x:Tr4} {xs:List Tr4}:SmallT (x :: xs) ↔ x.2.2.1 ≤ 9223372036854775807 ∧ SmallT xs:=by
  constructor
  · intro h
    exact ⟨h 0 (by simp),fun i hi=>h (i + 1) (by simp;omega)⟩
  · rintro ⟨h1,h2⟩ i hi
    cases i with
    | zero=>exact h1
    | succ i=>exact h2 i (by simpa using hi)
theorem set_cT:∀ (c:List Tr4) (ys:List D) (i:Nat) (v:Int),i < c.length * 4 → ∃ c':List Tr4,c'.length = c.length ∧ (SmallT c → v ≤ 9223372036854775807 → SmallT c') ∧ (cat cT c ++ ys).set i (.int .i64 v) = cat cT c' ++ ys
  | [],ys,i,v,h=>by simp at h
  | x :: c,ys,0,v,h=>⟨(v,x.2) :: c,by simp,fun k _=>by rw [SmallT.cons] at k ⊢;exact k,rfl⟩
  | x :: c,ys,1,v,h=>⟨(x.1,v,x.2.2) :: c,by simp,fun k _=>by rw [SmallT.cons] at k ⊢;exact k,rfl⟩
  | x :: c,ys,2,v,h=>⟨(x.1,x.2.1,v,x.2.2.2) :: c,by simp,fun k hv=>by rw [SmallT.cons] at k ⊢;exact ⟨hv,k.2⟩,rfl⟩
  | x :: c,ys,3,v,h=>⟨(x.1,x.2.1,x.2.2.1,v) :: c,by simp,fun k _=>by rw [SmallT.cons] at k ⊢;exact k,rfl⟩
  | x :: c,ys,i + 4,v,h=>by
    obtain ⟨c',h1,h2,h3⟩:=set_cT c ys i v (by simp only [List.length_cons] at h;omega)
    refine ⟨x :: c',by simp [h1],fun k hv=>?_,?_⟩
    · rw [SmallT.cons] at k ⊢;exact ⟨k.1,h2 k.2 hv⟩
    · show (cT x ++ cat cT c ++ ys).set (i + 4) _ = cT x ++ cat cT c' ++ ys
      rw [List.append_assoc,List.append_assoc,← h3]
      rfl
def LM (b ab zb:Nat) (ys:List UInt8) (a:List Int) (e:List Bool) (g:List Tr4) (cz jz:Nat) (q:Int) (H:Hp):Prop:=H b = some [.list ys.length (cat cY ys),.int .i64 (q)] ∧ H ab = some [.fr 1 a.length (cat cI a),.fr 1 e.length (cat cB e),.sl zb 4 0 g.length cz] ∧ H zb = some (cat cT g ++ zrP jz .any)

@[go_sem] def Uj:Au → D:=sA
theorem l7Mutate_flat (x:Au):dat (Uj x) = Uj x:=by simp [go_sem]
def zacn (a:List Int) (e:List Bool) (g:List Tr4):Au → Prop:=fun x=>x.1.length ≤ 5001 ∧ x.2.1.length ≤ 5000 ∧ x.2.2.length ≤ 5000 ∧ SmallT x.2.2
def zamr (a:List Int) (e:List Bool) (g:List Tr4) (x:(Au) × D):Prop:=zacn a e g x.1 ∧ dat x.2 = Uj x.1
def zabm (a:List Int) (e:List Bool) (g:List Tr4) (p:Int) (c:Any):((Au) × D) × Int:=dsel (zamr a e g) ((([],[],[]):Au),Uj (([],[],[]))) 3 p c
def Vj (a:List Int) (e:List Bool) (g:List Tr4) (p:Int) (c:Any):(Au) × Int:=((zabm a e g p c).1.1,(zabm a e g p c).2)
theorem zaqn (a:List Int) (e:List Bool) (g:List Tr4) (hS:AuS (a,e,g)) (p:Int) (c:Any):(zacn a e g (Vj a e g p c).1 ∧ p ≤ (Vj a e g p c).2 ∧ (Vj a e g p c).2 ≤ p + 3) ∧ dat (zabm a e g p c).1.2 = Uj (Vj a e g p c).1:=by
  have hx:zacn a e g (([],[],[])):=⟨by simp,by simp,by simp,SmallT.nil⟩
  have h:=Zy (good:=zamr a e g) (x0:=((([],[],[]):Au),Uj (([],[],[])))) ⟨hx,l7Mutate_flat _⟩ (K:=3) (by omega) (p:=p) c
  exact ⟨⟨h.1.1,h.2.1,h.2.2⟩,h.1.2⟩
theorem l7Mutate_ok (a:List Int) (e:List Bool) (g:List Tr4) (hS:AuS (a,e,g)) (p:Int) (c:Any):zacn a e g (Vj a e g p c).1 ∧ p ≤ (Vj a e g p c).2 ∧ (Vj a e g p c).2 ≤ p + 3:=(zaqn a e g hS p c).1
theorem zahb (a:List Int) (e:List Bool) (g:List Tr4) (ys:List UInt8) (p:Int) (b:Nat) {e_:Exit} {S_:St} (x:Au) (p':Int) (he_:e_ = .ret ∨ e_ = .normal)
    (h1:(Qd Tryz.prog S_ Tryz.f77.results.toList).1 ∧ dat (resD (Qd Tryz.prog S_ Tryz.f77.results.toList).2.1) = Uj x ∧ (Qd Tryz.prog S_ Tryz.f77.results.toList).2.2.H b = some [li cY ys,.int .i64 p']) (hg:zacn a e g x) (h2:p ≤ p' ∧ p' ≤ p + 3) :
    retR Tryz.prog Tryz.f77 (fun c=>((zabm a e g p c).1.2,one b [li cY ys,.int .i64 (zabm a e g p c).2])) e_ S_ :=
  Zw (good:=zamr a e g) (enc:=fun x:(Au) × D=>x.2) (cells:=fun q=>[li cY ys,.int .i64 q]) (x,resD (Qd Tryz.prog S_ Tryz.f77.results.toList).2.1) p' he_ ⟨h1.1,rfl,h1.2.2⟩ ⟨hg,h1.2.1⟩ h2
set_option maxHeartbeats 16000000 in
theorem l7Mutate_spec (ys:List UInt8) (p:Int) (b:Nat) (a:List Int) (e:List Bool) (g:List Tr4) (hl:ys.length ≤ 2000) (h0_:0 ≤ p) (hp_:p + 3 ≤ 1000000) (hS:AuS (a,e,g)):SpecR Tryz.prog 77 [.ptr b 0,.st [li cI a,li cB e,li cT g]] (one b [li cY ys,.int .i64 p]) (fun c=>((zabm a e g p c).1.2,one b [li cY ys,.int .i64 (zabm a e g p c).2])):=by
  refine SpecR.of_walk Tryz.func77 rfl (by simp [Tryz.f77]) fun B=>?_
  obtain ⟨s1,s2,s3,s4⟩:=hS;dsimp only at s1 s2 s3 s4
  all_goals (repeat' (first
 | refine Qt ?_
 | refine Qc (id:=0) Jh [] (by kernel_rfl) ?_;simp [-zg,-zd,↓Qb,↓Qa,go_sem];try (refine Qy 3 ?_;simp [go_sem])
 | refine Xn (id:=1) Jh mixed [] [3] (by kernel_rfl) (by kernel_rfl) ?_ ?_ <;> simp [-zg,-zd,↓Qb,↓Qa,go_sem,(show a.length ≤ 9223372036854775807 by omega),(show 2 * a.length * 8 ≤ 281474976710656 by omega),(show e.length ≤ 9223372036854775807 by omega),(show 2 * e.length * 1 ≤ 281474976710656 by omega),(show 2 * e.length ≤ 281474976710656 by omega),(show g.length ≤ 9223372036854775807 by omega),(show 2 * g.length * 32 ≤ 281474976710656 by omega)];try ((refine Xs 5 rfl fun ab hab=>?_);(have nba:¬ b = ab:=(by rintro rfl;simp [upd] at hab));(clear hab);(refine Xw ab 2 (all:=[.fr 1 a.length (cat cI a),.fr 1 e.length (cat cB e),.fr 4 g.length (cat cT g)]) (by simp [upd]) rfl fun zb cz jz hzb hcz hdz=>?_);(have nbz:¬ b = zb:=(by rintro rfl;simp [upd,nba] at hzb));(have naz:¬ ab = zb:=(by rintro rfl;simp [upd] at hzb));(clear hzb);(refine Qp (fun H1=>LM b ab zb ys a e g cz jz p H1) ⟨by simp [upd,nba,zS nba,nbz,zS nbz,naz,zS naz],by simp [upd,nba,zS nba,nbz,zS nbz,naz,zS naz],by simp [upd]⟩ fun H1 ⟨w1,w2,w3⟩=>?_))
 | refine Qc (id:=2) Jh [] (by kernel_rfl) ?_;simp [-zg,-zd,↓Qb,↓Qa,go_sem,w1,hl,(show 0 ≤ p by omega),(show p ≤ 1000000 by omega),(show 0 ≤ p + 1 by omega),(show p + 1 ≤ 1000000 by omega)];try ((generalize pkI ys p 40 = kk at *);(refine Qp (fun H2=>LM b ab zb ys a e g cz jz (p + 1) H2) ⟨by simp [upd,nba,zS nba,nbz,zS nbz,naz,zS naz],by simp [upd,nba,zS nba,nbz,zS nbz,naz,zS naz,w2],by simp [upd,nba,zS nba,nbz,zS nbz,naz,zS naz,w3]⟩ fun H2 ⟨w1,w2,w3⟩=>?_))
 | ((refine Xw ab 0 (all:=[.fr 1 a.length (cat cI a),.fr 1 e.length (cat cB e),.sl zb 4 0 g.length cz]) w2 rfl fun xb cx jx hxb hcx hdx=>?_);(have nbx:¬ b = xb:=(by rintro rfl;simp [upd,nba,w1] at hxb));(have nax:¬ ab = xb:=(by rintro rfl;simp [upd,w2] at hxb));(have nzx:¬ zb = xb:=(by rintro rfl;simp [upd,zS naz,w3] at hxb));(clear hxb));refine Xr (id:=4) Jh mixed [(ab,[.sl xb 1 0 a.length cx,.fr 1 e.length (cat cB e),.sl zb 4 0 g.length cz])] [] [] (by kernel_rfl) (by kernel_rfl) ?_ ?_ ?_ <;> simp [-zg,-zd,↓Qb,↓Qa,go_sem,w1,hl,nba,zS nba,nbz,zS nbz,naz,zS naz,nbx,zS nbx,nax,zS nax,nzx,zS nzx,(show 0 ≤ p + 1 by omega),(show p + 1 ≤ 1000000 by omega),(show 0 ≤ p + 1 + 1 by omega),(show p + 1 + 1 ≤ 1000000 by omega),(show a.length ≤ 9223372036854775806 by omega),(show 2 * (a.length + 1) * 8 ≤ 281474976710656 by omega),(show cx ≤ a.length + jx by omega)];try ((generalize numI ys (p + 1) [0,-1,64,3] = vv at *);(refine Qp (fun H3=>LM b ab zb ys (a ++ [vv]) e g cz jz (p + 1 + 1) H3) ⟨by simp [upd,nba,zS nba,nbz,zS nbz,naz,zS naz,nbx,zS nbx,nax,zS nax],by simp [upd,nba,zS nba,nbz,zS nbz,naz,zS naz,nax,zS nax,Vd],by simp [upd,nba,zS nba,nbz,zS nbz,naz,zS naz,nzx,zS nzx,w3]⟩ fun H3 hM=>?_))
 | refine Qc (id:=6) Jh [] (by kernel_rfl) ?_;simp [-zg,-zd,↓Qb,↓Qa,go_sem,w2]
 | ((have hc0:0 < g.length:=(by omega)));refine Xr (id:=7) Jh mixed [(ab,[.fr 1 a.length (cat cI a),.fr 1 e.length (cat cB e),.sl zb 4 0 g.length cz])] [] [] (by kernel_rfl) (by kernel_rfl) ?_ ?_ ?_ <;> simp [-zg,-zd,↓Qb,↓Qa,go_sem,w1,w2,w3,hl,nba,zS nba,nbz,zS nbz,naz,zS naz,(show 0 ≤ p + 1 by omega),(show p + 1 ≤ 1000000 by omega),(show 0 ≤ p + 1 + 1 by omega),(show p + 1 + 1 ≤ 1000000 by omega),hc0,(show 4 ≤ g.length * 4 + jz by omega),(show 2 < g.length * 4 + jz by omega),(show 3 ≤ g.length * 4 + jz by omega)];try ((have hrv:=Jx ys (p:=p + 1) (by omega) (xs:=[8,-1,7]) (lo:=-1) (hi:=8) (by simp) (by simp));(generalize numI ys (p + 1) [8,-1,7] = vv at *);(obtain ⟨g',hc1,hc2,hc3⟩:=set_cT g (zrP jz D.any) 2 vv (by omega));(have hc4:stSeg (cat cT g ++ zrP jz D.any) (2) [.int .i64 vv] = cat cT g' ++ zrP jz D.any:=hc3);(refine Qp (fun H1=>LM b ab zb ys a e g' cz jz (p + 1 + 1) H1) ⟨by simp [upd,nba,zS nba,nbz,zS nbz,naz,zS naz],by simp [upd,nba,zS nba,nbz,zS nbz,naz,zS naz,w2,hc1],by simp [upd,nba,zS nba,nbz,zS nbz,naz,zS naz,hc4]⟩ fun H2 hM=>?_))
 | refine Qc (id:=9) Jh [] (by kernel_rfl) ?_;simp [-zg,-zd,↓Qb,↓Qa,go_sem,w2]
 | ((have hc0:0 < g.length:=(by omega)));refine Xr (id:=10) Jh mixed [(ab,[.fr 1 a.length (cat cI a),.fr 1 e.length (cat cB e),.sl zb 4 0 g.length cz])] [] [] (by kernel_rfl) (by kernel_rfl) ?_ ?_ ?_ <;> simp [-zg,-zd,↓Qb,↓Qa,go_sem,w1,w2,w3,hl,nba,zS nba,nbz,zS nbz,naz,zS naz,(show 0 ≤ p + 1 by omega),(show p + 1 ≤ 1000000 by omega),(show 0 ≤ p + 1 + 1 by omega),(show p + 1 + 1 ≤ 1000000 by omega),hc0,(show 4 ≤ g.length * 4 + jz by omega),(show 3 < g.length * 4 + jz by omega)];try ((have hrv:=Jx ys (p:=p + 1) (by omega) (xs:=[-1,0,64,9223372036854775807]) (lo:=-1) (hi:=9223372036854775807) (by simp) (by simp));(generalize numI ys (p + 1) [-1,0,64,9223372036854775807] = vv at *);(obtain ⟨g',hc1,hc2,hc3⟩:=set_cT g (zrP jz D.any) 3 vv (by omega));(have hc4:stSeg (cat cT g ++ zrP jz D.any) (3) [.int .i64 vv] = cat cT g' ++ zrP jz D.any:=hc3);(refine Qp (fun H1=>LM b ab zb ys a e g' cz jz (p + 1 + 1) H1) ⟨by simp [upd,nba,zS nba,nbz,zS nbz,naz,zS naz],by simp [upd,nba,zS nba,nbz,zS nbz,naz,zS naz,w2,hc1],by simp [upd,nba,zS nba,nbz,zS nbz,naz,zS naz,hc4]⟩ fun H2 hM=>?_))
 | refine Qc (id:=14) Jh [] (by kernel_rfl) ?_;simp [-zg,-zd,↓Qb,↓Qa,go_sem,w2]
 | ((have hc0:0 < g.length:=(by omega)));refine Xr (id:=15) Jh mixed [(ab,[.fr 1 a.length (cat cI a),.fr 1 e.length (cat cB e),.sl zb 4 0 g.length cz])] [] [5] (by kernel_rfl) (by kernel_rfl) ?_ ?_ ?_ <;> simp [-zg,-zd,↓Qb,↓Qa,go_sem,w1,w2,w3,hl,nba,zS nba,nbz,zS nbz,naz,zS naz,(show 0 ≤ p + 1 by omega),(show p + 1 ≤ 1000000 by omega),(show 0 ≤ p + 1 + 1 by omega),(show p + 1 + 1 ≤ 1000000 by omega),hc0,Xa (x:=(g.length:Int) - 1) (by omega) (by omega),(show 0 ≤ (g.length:Int) - 1 by omega),(show (g.length:Int) - 1 < (g.length:Int) by omega),(show ((g.length:Int) - 1).toNat = g.length - 1 by omega),(show (g.length - 1) * 4 + 4 ≤ g.length * 4 + jz by omega),(show (g.length - 1) * 4 + 1 < g.length * 4 + jz by omega),(show (1:Int) ≤ (g.length:Int) by omega),(show (g.length - 1) * 4 + 1 + 1 ≤ g.length * 4 + jz by omega),(show g.length - 1 < g.length by omega)];try ((have hrv:=Jx ys (p:=p + 1) (by omega) (xs:=[8,-1,0]) (lo:=-1) (hi:=8) (by simp) (by simp));(generalize numI ys (p + 1) [8,-1,0] = vv at *);(obtain ⟨g',hc1,hc2,hc3⟩:=set_cT g (zrP jz D.any) ((g.length - 1) * 4 + 1) vv (by omega));(have hc4:stSeg (cat cT g ++ zrP jz D.any) (((g.length - 1) * 4 + 1)) [.int .i64 vv] = cat cT g' ++ zrP jz D.any:=hc3);(refine Qp (fun H1=>LM b ab zb ys a e g' cz jz (p + 1 + 1) H1) ⟨by simp [upd,nba,zS nba,nbz,zS nbz,naz,zS naz],by simp [upd,nba,zS nba,nbz,zS nbz,naz,zS naz,w2,hc1],by simp [upd,nba,zS nba,nbz,zS nbz,naz,zS naz,hc4]⟩ fun H2 hM=>?_))
 | (first | (obtain ⟨t1,t2,t3⟩:=hM;refine Xu ab 2 (b':=zb) (sz:=4) (m:=g'.length) (cp:=cz) (all:=[.fr 1 a.length (cat cI a),.fr 1 e.length (cat cB e),.sl zb 4 0 g'.length cz]) (cs:=cat cT g' ++ zrP jz .any) t2 rfl naz t3 (by omega) (by simp [Qv]) (by simp [Qv,hc1];omega) ?_;simp only [Jp (f:=cT)]) | (obtain ⟨t1,t2,t3⟩:=hM;obtain ⟨a',ha'⟩:∃ a',a ++ [vv] = a':=⟨_,rfl⟩;have hal:a'.length = a.length + 1:=(by rw [← ha'];simp);rw [ha'] at t2;refine Xu ab 2 (b':=zb) (sz:=4) (m:=g.length) (cp:=cz) (all:=[.fr 1 a'.length (cat cI a'),.fr 1 e.length (cat cB e),.sl zb 4 0 g.length cz]) (cs:=cat cT g ++ zrP jz .any) t2 rfl naz t3 (by omega) (by simp [Qv]) (by simp [Qv];omega) ?_;simp only [Jp (f:=cT)]) | (have t1:=w1;refine Xu ab 2 (b':=zb) (sz:=4) (m:=g.length) (cp:=cz) (all:=[.fr 1 a.length (cat cI a),.fr 1 e.length (cat cB e),.sl zb 4 0 g.length cz]) (cs:=cat cT g ++ zrP jz .any) w2 rfl naz w3 (by omega) (by simp [Qv]) (by simp [Qv];omega) ?_;simp only [Jp (f:=cT)]));refine Qc (id:=16) Jh [] (by kernel_rfl) ?_;simp [-zg,-zd,↓Qb,↓Qa,go_sem,nba,zS nba,nbz,zS nbz,naz,zS naz]
 | (refine Qe ?_)
 | (refine Qs ?_;simp [-zg,-zd,↓Qb,↓Qa,go_sem])
 | (refine Qr ?_;simp [-zg,-zd,↓Qb,↓Qa,go_sem])
 | (refine Qq ?_;try simp [-zg,-zd,↓Qb,↓Qa,go_sem,Tryz.results77])
 | (intro hx;refine zA ?_)
 | (intro hx;change retR _ _ _ _ _)
 | (refine ⟨?_,?_⟩ <;> refine zA ?_)
 | (intro hx;constructor <;> intro hs)
 | (constructor <;> intro hs)
 | (refine ⟨?_,fun hs=>?_⟩;refine zA ?_)
 | (refine ⟨fun hs=>?_,?_⟩;rotate_left;refine zA ?_;rotate_left)
 | ((fail_if_success change retR _ _ _ _ _);(exfalso;omega))
 | (refine Qj ?_;simp [-zg,-zd,↓Qb,↓Qa,go_sem];try first | (refine ⟨?_,?_⟩ <;> refine zA ?_) | (refine ⟨fun c0z=>?_,fun c0z=>?_⟩ <;> (try simp [B_iff,B_not] at c0z)))
 | (refine Qc Jh [] (by kernel_rfl) ?_;simp [-zg,-zd,↓Qb,↓Qa,go_sem])
 | fail))
  all_goals (first
 | (refine zahb _ _ _ _ _ _ (([],[],[])) (p + 1) ?_ ?_ ?_ ?_;(first | exact Or.inl rfl | exact Or.inr rfl);(focus (simp [-zg,-zd,↓Qb,↓Qa,go_sem,Tryz.results77,dat,datL,Qz,li,Xb,w1,nba,zS nba,nbz,zS nbz,naz,zS naz];done));(focus ((exact ⟨by simp,by simp,by simp,SmallT.nil⟩);done));(focus (refine ⟨?_,?_⟩ <;> omega)))
 | (refine zahb _ _ _ _ _ _ ((a,e,g')) (p + 1 + 1) ?_ ?_ ?_ ?_;(first | exact Or.inl rfl | exact Or.inr rfl);(focus (simp [-zg,-zd,↓Qb,↓Qa,go_sem,Tryz.results77,dat,Qz,li,Xx,t1,nba,zS nba,nbz,zS nbz,naz,zS naz];done));(focus ((exact ⟨by dsimp only;omega,by dsimp only;omega,by dsimp only;omega,hc2 s4 (by omega)⟩);done));(focus (refine ⟨?_,?_⟩ <;> omega)))
 | (refine zahb _ _ _ _ _ _ ((a',e,g)) (p + 1 + 1) ?_ ?_ ?_ ?_;(first | exact Or.inl rfl | exact Or.inr rfl);(focus (simp [-zg,-zd,↓Qb,↓Qa,go_sem,Tryz.results77,dat,Qz,li,Xx,t1,nba,zS nba,nbz,zS nbz,naz,zS naz];done));(focus ((exact ⟨by dsimp only;omega,by dsimp only;omega,by dsimp only;omega,s4⟩);done));(focus (refine ⟨?_,?_⟩ <;> omega)))
 | (refine zahb _ _ _ _ _ _ ((a,e,g)) (p + 1) ?_ ?_ ?_ ?_;(first | exact Or.inl rfl | exact Or.inr rfl);(focus (simp [-zg,-zd,↓Qb,↓Qa,go_sem,Tryz.results77,dat,Qz,li,Xx,t1,nba,zS nba,nbz,zS nbz,naz,zS naz];done));(focus ((exact ⟨by dsimp only;omega,by dsimp only;omega,by dsimp only;omega,s4⟩);done));(focus (refine ⟨?_,?_⟩ <;> omega)))
 | skip)
@[go_sem] def l7MutateC:Con:=.rel fun args H=>match args with
  | [.ptr b 0,.st [.list n_a c_a,.list n_e c_e,.list n_g c_g]]=>match H b with
    | some [.list m cs,.int .i64 p]=>((Is cY m cs) ∧ (m ≤ 2000) ∧ (0 ≤ p) ∧ (p + 3 ≤ 1000000) ∧ (Is cI n_a c_a) ∧ (Is cB n_e c_e) ∧ (Is cT n_g c_g) ∧ (AuS ((de cI c_a),(de cB c_e),(de cT c_g))),fun c=>(Uj (Vj (de cI c_a) (de cB c_e) (de cT c_g) p c).1,upd H b (some [.list m cs,.int .i64 (Vj (de cI c_a) (de cB c_e) (de cT c_g) p c).2])))
    | _=>(False,fun _=>(.any,H))
  | _=>(False,fun _=>(.any,H))
theorem l7MutateC_ok:ConOk Tryz.prog 77 l7MutateC:=by
  refine ⟨Qo Tryz.func77 (by decide) rfl,fun args H h=>?_⟩
  revert h
  dsimp only
  split
  · split
    · rename_i hH
      intro h
      obtain ⟨⟨ys,rfl,rfl⟩,hl,h0_,hp_,⟨a,rfl,rfl⟩,⟨e,rfl,rfl⟩,⟨g,rfl,rfl⟩,hS⟩:=h
      try simp only [Qm] at *
      exact SpecR.enc ((l7Mutate_spec ys _ _ a e g hl h0_ hp_ hS).frame hH).shut fun c=>Prod.ext (zaqn _ _ _ hS _ _).2.symm rfl
    · intro h;exact h.elim
  · intro h
    exact h.elim
@[go_sem] def Γy28:FuncId → Con:=ext Γy27 77 l7MutateC
theorem Γy28_ok:∀ g,ConOk Tryz.prog g (Γy28 g):=Qn Jh l7MutateC_ok

end
end Go.Proofs.YtiilmjojffjhlaaGreatDoor.Vm

