/-
  Draws: graphs. No conditions.
-/
import Derived.Test.YtmiimodggpjkmaaGreatE15
namespace Go.Proofs.YtmiimodggpjkmaaGreat.Vm
open Go
open List renaming getD_eq_getElem?_getD → zg,drop_one → zd,replicate → zrP
open Ne renaming symm → zS
noncomputable section
set_option linter.unusedVariables false
set_option linter.unusedSimpArgs false
set_option maxRecDepth 200000

theorem AW_boxNil0N {P:Program} {B:Base} {n:Nat} {S:St} {c:Code} {Q:Exit → St → Prop} (t sz:Nat) {d:D} (hT:S.T t = .box [.nil,d]) (h:AW P B n c Q ⟨upd S.T t (.box [.fr sz 0 [],d]),S.H⟩):AW P B n c Q S :=
  zamw t hT (fun μ I w vs f hr=>by
    simp only [RepL] at hr ⊢
    obtain ⟨v,vs',f1,f2,e1,e2,r1,r2⟩:=hr
    exact ⟨v,vs',f1,f2,e1,e2,zaks r1,r2⟩) (fun N hb=>by simp only [bndL,bnd] at hb ⊢;exact ⟨trivial,hb.2⟩) h
theorem oP_dat:∀ xs:List Ints2,(cat oP xs).map dat = cat cP xs
  | []=>rfl
  | x :: xs=>by rw [Xg,Xg,List.map_append,oP_dat xs];simp [oP,cP,fr,dat,Xh,Zr,li]
structure LG where
  xs:List Ints2
  i:Int
  q:Int
  xb:Nat
  cp:Nat
  j:Nat
  H:Hp
def LGi (ys:List UInt8) (b gb:Nat) (p0:Int) (q:LG):Prop:=0 ≤ q.i ∧ q.i ≤ 6 ∧ ((q.xs.length:Int) + q.i ≤ 6 ∧ 1 ≤ (q.xs.length:Int) + q.i) ∧ p0 + 1 ≤ q.q ∧ q.q ≤ p0 + 1 + (6 - q.i) * 2 ∧ (∀ s ∈ q.xs,s.1.length ≤ 3 ∧ s.2.length ≤ 3) ∧ ¬ gb = q.xb ∧ ¬ b = q.xb ∧ q.cp * 2 ≤ q.xs.length * 2 + q.j ∧ q.H b = some [.list ys.length (cat cY ys),.int .i64 q.q] ∧ q.H gb = some [.sl q.xb 2 0 q.xs.length q.cp,.fr 1 0 []] ∧ q.H q.xb = some (cat oP q.xs ++ zrP q.j .any)

@[go_sem] def Uj:List Ints2 × List (List Int) → D:=sG
theorem l4Graph_flat (x:List Ints2 × List (List Int)):dat (Uj x) = Uj x:=by simp [go_sem]
def zabj  : List Ints2 × List (List Int) → Prop:=fun x=>SmallG x ∧ 1 ≤ x.1.length ∧ x.2.length = x.1.length
def zalj  (x:(List Ints2 × List (List Int)) × D):Prop:=zabj x.1 ∧ dat x.2 = Uj x.1
def zabi  (p:Int) (c:Any):((List Ints2 × List (List Int)) × D) × Int:=dsel (zalj) ((([([],[])],[[]]):List Ints2 × List (List Int)),Uj (([([],[])],[[]]))) 2100 p c
def Xr  (p:Int) (c:Any):(List Ints2 × List (List Int)) × Int:=((zabi p c).1.1,(zabi p c).2)
theorem zaoe   (p:Int) (c:Any):(zabj (Xr p c).1 ∧ p ≤ (Xr p c).2 ∧ (Xr p c).2 ≤ p + 2100) ∧ dat (zabi p c).1.2 = Uj (Xr p c).1:=by
  have hx:zabj (([([],[])],[[]])):=by simp [zabj,SmallG]
  have h:=Vc (good:=zalj) (x0:=((([([],[])],[[]]):List Ints2 × List (List Int)),Uj (([([],[])],[[]])))) ⟨hx,l4Graph_flat _⟩ (K:=2100) (by omega) (p:=p) c
  exact ⟨⟨h.1.1,h.2.1,h.2.2⟩,h.1.2⟩
theorem l4Graph_ok   (p:Int) (c:Any):zabj (Xr p c).1 ∧ p ≤ (Xr p c).2 ∧ (Xr p c).2 ≤ p + 2100:=(zaoe  p c).1
theorem zaod  (ys:List UInt8) (p:Int) (b:Nat) {e_:Exit} {S_:St} (x:List Ints2 × List (List Int)) (p':Int) (he_:e_ = .ret ∨ e_ = .normal)
    (h1:(Qf Tryz.prog S_ Tryz.f19.results.toList).1 ∧ dat (resD (Qf Tryz.prog S_ Tryz.f19.results.toList).2.1) = Uj x ∧ (Qf Tryz.prog S_ Tryz.f19.results.toList).2.2.H b = some [li cY ys,.int .i64 p']) (hg:zabj x) (h2:p ≤ p' ∧ p' ≤ p + 2100) :
    retR Tryz.prog Tryz.f19 (fun c=>((zabi p c).1.2,one b [li cY ys,.int .i64 (zabi p c).2])) e_ S_ :=
  Jv (good:=zalj) (enc:=fun x:(List Ints2 × List (List Int)) × D=>x.2) (cells:=fun q=>[li cY ys,.int .i64 q]) (x,resD (Qf Tryz.prog S_ Tryz.f19.results.toList).2.1) p' he_ ⟨h1.1,rfl,h1.2.2⟩ ⟨hg,h1.2.1⟩ h2
set_option maxHeartbeats 8000000 in
theorem l4Graph_spec (ys:List UInt8) (p:Int) (b:Nat)  (hl:ys.length ≤ 2000) (h0_:0 ≤ p) (hp_:p + 2100 ≤ 1000000)  : SpecR Tryz.prog 19 [.ptr b 0] (one b [li cY ys,.int .i64 p]) (fun c=>((zabi p c).1.2,one b [li cY ys,.int .i64 (zabi p c).2])):=by
  refine SpecR.of_walk Tryz.func19 rfl (by simp [Tryz.f19]) fun B=>?_
  (repeat' (first
 | refine Qt ?_
 | refine Qc (id:=0) Xu [] (by kernel_rfl) ?_;simp [-zg,-zd,↓Qb,↓Qa,go_sem]
 | refine Qc (id:=1) Xu [] (by kernel_rfl) ?_;simp [-zg,-zd,↓Qb,↓Qa,go_sem,hl,(show 0 ≤ p by omega),(show p ≤ 1000000 by omega),(show 0 ≤ p + 1 by omega),(show p + 1 ≤ 1000000 by omega)]
 | refine Qc (id:=2) Xu [] (by kernel_rfl) ?_;simp [-zg,-zd,↓Qb,↓Qa,go_sem,hl,(show 0 ≤ p + 1 by omega),(show p + 1 ≤ 1000000 by omega),(show 0 ≤ p + 1 + 1 by omega),(show p + 1 + 1 ≤ 1000000 by omega),(show p + 1 + 2000 ≤ 1000000 by omega)];try ((intro c2 c2');(have z0:=l2System_ok (p + 1) c2);(generalize Vh (p + 1) c2 = z at *);(obtain ⟨-,z1,z2⟩:=z0);(obtain ⟨⟨init,ps⟩,p2⟩:=z);(dsimp only at z1 z2);(have y0:=BuildGraph_ok init ps c2');(generalize zaen init ps c2' = y at *);(obtain ⟨⟨ga,gc⟩,gk⟩:=y);(simp only [zaaf] at y0);(refine Xe 3 ?_);(simp [go_sem]);(have fl2:True ∧ True:=⟨trivial,trivial⟩))
 | refine Qc (id:=3) Xu [20] (by kernel_rfl) ?_;simp [-zg,-zd,↓Qb,↓Qa,go_sem];try (refine ⟨fun s3a=>?_,fun s3a=>?_⟩ <;> (try simp [B_iff,B_not] at s3a) <;> try (refine ⟨fun s3b=>?_,fun s3b=>?_⟩ <;> (try simp [B_iff,B_not] at s3b)))
 | refine Qc (id:=4) Xu [] (by kernel_rfl) ?_;simp [-zg,-zd,↓Qb,↓Qa,go_sem]
 | refine Qc (id:=5) Xu [] (by kernel_rfl) ?_;simp [-zg,-zd,↓Qb,↓Qa,go_sem];try ((refine AW_boxNil0N 5 2 rfl ?_);(refine zaeb 5 1 rfl ?_);(refine Zn 5 rfl fun gb hgb=>?_);(have hbg:¬ b = gb:=(by rintro rfl;simp [upd] at hgb));(clear hgb);(refine Zx gb 0 (all:=[.fr 2 0 [],.fr 1 0 []]) (by simp [upd]) rfl fun xb cp jx hx hcx hdx=>?_);(have n1:¬ gb = xb:=(by rintro rfl;simp [upd] at hx));(have n2:¬ b = xb:=(by rintro rfl;simp [upd,hbg] at hx));(clear hx);first | (rename True ∧ True=>k_;refine Qw (fun H1=>H1 b = some [.list ys.length (cat cY ys),.int .i64 (p2)] ∧ H1 gb = some [.sl xb 2 0 0 cp,.fr 1 0 []] ∧ H1 xb = some (cat oP ([]:List Ints2) ++ zrP jx .any)) ⟨by simp [upd,hbg,n2,zS n2],by simp [upd,n1,zS n1],by simp [upd,Xl]⟩ fun H1 ⟨w1,w2,w3⟩=>?_;obtain ⟨p0,hp0⟩:∃ p0,p2 = p0:=⟨_,rfl⟩;rw [hp0] at w1;have hq0:p + 1 ≤ p0 ∧ p0 ≤ p + 2001:=(by omega)) | (refine Qw (fun H1=>H1 b = some [.list ys.length (cat cY ys),.int .i64 (p + 1)] ∧ H1 gb = some [.sl xb 2 0 0 cp,.fr 1 0 []] ∧ H1 xb = some (cat oP ([]:List Ints2) ++ zrP jx .any)) ⟨by simp [upd,hbg,n2,zS n2],by simp [upd,n1,zS n1],by simp [upd,Xl]⟩ fun H1 ⟨w1,w2,w3⟩=>?_;obtain ⟨p0,hp0⟩:∃ p0,p + 1 = p0:=⟨_,rfl⟩;rw [hp0] at w1;have hq0:p + 1 ≤ p0 ∧ p0 ≤ p + 2001:=(by omega)))
 | refine Qc (id:=6) Xu [] (by kernel_rfl) ?_;simp [-zg,-zd,↓Qb,↓Qa,go_sem,w1,hl,(show 0 ≤ p0 by omega),(show p0 ≤ 1000000 by omega),(show 0 ≤ p0 + 1 by omega),(show p0 + 1 ≤ 1000000 by omega)];try ((have hr:=zaet ys (p:=p0) (by omega) (xs:=[3,4,2,5,1,6]) (lo:=1) (hi:=6) (by simp) (by simp));(generalize numI ys p0 [3,4,2,5,1,6] = kk at *))
 | ((obtain ⟨f0,f1,f2,f3,f4,f5,g7,g8,g9,ga1,gb1,gc1⟩:=hq));refine Qc (id:=7) Xu [] (by kernel_rfl) ?_;simp [-zg,-zd,↓Qb,↓Qa,go_sem]
 | refine Zu (id:=9) Xu mixed [(gb,[.sl q.xb 2 0 q.xs.length q.cp,.fr 1 0 []])] [] [0] (by kernel_rfl) (by kernel_rfl) (by simp [-zg,-zd,↓Qb,↓Qa,go_sem,ga1,gb1,gc1,hl,hbg,zS hbg,g7,zS g7,g8,zS g8,(show 0 ≤ q.q by omega),(show q.q ≤ 1000000 by omega),(show 0 ≤ q.q + 1 by omega),(show q.q + 1 ≤ 1000000 by omega),(show 0 ≤ q.q + 1 + 1 by omega),(show q.q + 1 + 1 ≤ 1000000 by omega),g9,(show q.xs.length ≤ 9223372036854775806 by omega),(show 2 * (q.xs.length + 1) * 48 ≤ 281474976710656 by omega)]) (by simp [-zg,-zd,↓Qb,↓Qa,go_sem,ga1,gb1,gc1,hl,hbg,zS hbg,g7,zS g7,g8,zS g8,(show 0 ≤ q.q by omega),(show q.q ≤ 1000000 by omega),(show 0 ≤ q.q + 1 by omega),(show q.q + 1 ≤ 1000000 by omega),(show 0 ≤ q.q + 1 + 1 by omega),(show q.q + 1 + 1 ≤ 1000000 by omega),g9,(show q.xs.length ≤ 9223372036854775806 by omega),(show 2 * (q.xs.length + 1) * 48 ≤ 281474976710656 by omega)]) ?_;simp [-zg,-zd,↓Qb,↓Qa,go_sem,ga1,gb1,gc1,hl,hbg,zS hbg,g7,zS g7,g8,zS g8,(show 0 ≤ q.q by omega),(show q.q ≤ 1000000 by omega),(show 0 ≤ q.q + 1 by omega),(show q.q + 1 ≤ 1000000 by omega),(show 0 ≤ q.q + 1 + 1 by omega),(show q.q + 1 + 1 ≤ 1000000 by omega),g9,(show q.xs.length ≤ 9223372036854775806 by omega),(show 2 * (q.xs.length + 1) * 48 ≤ 281474976710656 by omega)];try ((refine Zx gb 0 (all:=[.fr 2 (q.xs.length + 1) (cat oP q.xs ++ [.fr 1 1 [.int .i64 (q.i.tmod 3)],.fr 1 3 [.int .i64 (pkI ys q.q 3),.int .i64 (pkI ys (q.q + 1) 2),.int .i64 0]]),.fr 1 0 []]) (by simp [upd,hbg,zS hbg,g7,zS g7,g8,zS g8]) rfl fun xb2 cp2 jx2 hx2 hcx2 hdx2=>?_);(have m1:¬ gb = xb2:=(by intro e;rw [← e] at hx2;simp [upd] at hx2));(have m2:¬ b = xb2:=(by intro e;rw [← e] at hx2;simp [upd,hbg,zS hbg,g7,zS g7,g8,zS g8] at hx2));(clear hx2);(refine Qw (fun H2=>H2 b = some [.list ys.length (cat cY ys),.int .i64 (q.q + 1 + 1)] ∧ H2 gb = some [.sl xb2 2 0 (q.xs ++ [((([q.i.tmod 3],[pkI ys q.q 3,pkI ys (q.q + 1) 2,0])):Ints2)]).length cp2,.fr 1 0 []] ∧ H2 xb2 = some (cat oP (q.xs ++ [((([q.i.tmod 3],[pkI ys q.q 3,pkI ys (q.q + 1) 2,0])):Ints2)]) ++ zrP jx2 .any)) ⟨by simp [upd,m1,m2,hbg,zS hbg,g7,zS g7,g8,zS g8],by simp [upd,m1],by simp [upd,Xk,Xi,oP,fr,Xg,Xl,cI]⟩ fun H2 ⟨s1,s2,s3⟩=>?_);(have v2:LGi ys b gb p0 ⟨q.xs ++ [((([q.i.tmod 3],[pkI ys q.q 3,pkI ys (q.q + 1) 2,0])):Ints2)],q.i - 1,q.q + 1 + 1,xb2,cp2,jx2,H2⟩:=⟨by dsimp only;omega,by dsimp only;omega,by simp;omega,by dsimp only;omega,by dsimp only;omega,(fun s hs=>by rcases List.mem_append.1 hs with h | h;exact f5 s h;simp at h;subst h;simp),m1,m2,by simp;omega,s1,s2,s3⟩))
 | refine Qc (id:=8) Xu [] (by kernel_rfl) ?_;simp [-zg,-zd,↓Qb,↓Qa,go_sem,Xb (x:=q.i - 1) (by omega) (by omega)]
 | refine Qc (id:=10) Xu [] (by kernel_rfl) ?_;simp [-zg,-zd,↓Qb,↓Qa,go_sem]
 | refine Qc (id:=11) Xu [] (by kernel_rfl) ?_;simp [-zg,-zd,↓Qb,↓Qa,go_sem,r7,hbg,zS hbg,g7,zS g7,g8,zS g8]
 | refine Qc (id:=13) Xu [] (by kernel_rfl) ?_;simp [-zg,-zd,↓Qb,↓Qa,go_sem,r6,r7,hl,hbg,zS hbg,g7,zS g7,g8,zS g8,(show 0 ≤ r.2.2.1 by omega),(show r.2.2.1 ≤ 1000000 by omega),(show 0 ≤ r.2.2.1 + 1 by omega),(show r.2.2.1 + 1 ≤ 1000000 by omega),(show (q.xs.length:Int) ≤ 1000000 by omega)];try ((generalize pkI ys r.2.2.1 q.xs.length = yy at *);(refine Jh 8 rfl fun lb cl jl hlb hcl hdl=>?_);(have u1:¬ gb = lb:=(by intro e;rw [← e] at hlb;simp [upd,hbg,zS hbg,g7,zS g7,g8,zS g8,r7] at hlb));(have u2:¬ b = lb:=(by intro e;rw [← e] at hlb;simp [upd,hbg,zS hbg,g7,zS g7,g8,zS g8] at hlb));(have u3:¬ q.xb = lb:=(by intro e;rw [← e] at hlb;simp [upd,hbg,zS hbg,g7,zS g7,g8,zS g8,r8] at hlb));(clear hlb);(refine Qw (fun H3=>H3 b = some [.list ys.length (cat cY ys),.int .i64 (r.2.2.1 + 1)] ∧ H3 gb = some [.sl q.xb 2 0 q.xs.length q.cp,.fr 1 r.1.length (cat cL r.1)] ∧ H3 q.xb = some (cat oP q.xs ++ zrP q.j .any) ∧ H3 lb = some (cat cI [yy] ++ zrP jl .any)) ⟨by simp [upd,hbg,zS hbg,g7,zS g7,g8,zS g8,u2],by simp [upd,hbg,zS hbg,g7,zS g7,g8,zS g8,u1,r7],by simp [upd,hbg,zS hbg,g7,zS g7,g8,zS g8,u3,r8],by simp [upd,Xi,cI]⟩ fun H3 ⟨h1,h2,h3,h4⟩=>?_))
 | refine Qc (id:=14) Xu [] (by kernel_rfl) ?_;simp [-zg,-zd,↓Qb,↓Qa,go_sem,h1,h2,hl,hbg,zS hbg,g7,zS g7,g8,zS g8,(show 0 ≤ r.2.2.1 + 1 by omega),(show r.2.2.1 + 1 ≤ 1000000 by omega),(show 0 ≤ r.2.2.1 + 1 + 1 by omega),(show r.2.2.1 + 1 + 1 ≤ 1000000 by omega),(show (q.xs.length:Int) ≤ 1000000 by omega)];try ((generalize pkI ys (r.2.2.1 + 1) q.xs.length = xx at *))
 | refine Qc (id:=15) Xu [70] (by kernel_rfl) ?_;simp [-zg,-zd,↓Qb,↓Qa,go_sem,h1,h2,h3,h4,hl,hbg,zS hbg,g7,zS g7,g8,zS g8,u1,u2,u3,zS u1,zS u2,zS u3,(show 0 ≤ r.2.2.1 + 1 + 1 by omega),(show r.2.2.1 + 1 + 1 ≤ 1000000 by omega),(show 0 ≤ r.2.2.1 + 1 + 1 + 1 by omega),(show r.2.2.1 + 1 + 1 + 1 ≤ 1000000 by omega),Xi,cI];try (refine ⟨fun s15a=>?_,fun s15a=>?_⟩ <;> (try simp [B_iff,B_not] at s15a) <;> try (refine ⟨fun s15b=>?_,fun s15b=>?_⟩ <;> (try simp [B_iff,B_not] at s15b)))
 | refine Qc (id:=16) Xu [] (by kernel_rfl) ?_;simp [-zg,-zd,↓Qb,↓Qa,go_sem,h1,h2,h3,h4,hbg,zS hbg,g7,zS g7,g8,zS g8,u1,u2,u3,zS u1,zS u2,zS u3,Xi,cI,(show cl ≤ jl + 1 by omega)];try ((have fl16:True ∧ True ∧ True:=⟨trivial,trivial,trivial⟩);(refine Qw (fun H4=>H4 b = some [.list ys.length (cat cY ys),.int .i64 (r.2.2.1 + 1 + 1 + 1)] ∧ H4 gb = some [.sl q.xb 2 0 q.xs.length q.cp,.fr 1 r.1.length (cat cL r.1)] ∧ H4 q.xb = some (cat oP q.xs ++ zrP q.j .any)) ⟨by simp [upd,hbg,zS hbg,g7,zS g7,g8,zS g8,u2,zS u2],by simp [upd,hbg,zS hbg,g7,zS g7,g8,zS g8,u1,zS u1,h2],by simp [upd,hbg,zS hbg,g7,zS g7,g8,zS g8,u3,zS u3,h3]⟩ fun H4 ⟨k1,k2,k3⟩=>?_);(refine Xe 8 ?_);(simp [go_sem,dat,Xh]))
 | (first | (refine Jw 8 (b:=lb) (sz:=1) (m:=1) (cp:=cl) (all:=cat cI [yy] ++ zrP jl .any) rfl (by simp [upd,zS u2,h4]) (by omega) (by simp [Qu]) (by simp [Qu];omega) ?_;refine Qw (fun H4=>H4 b = some [.list ys.length (cat cY ys),.int .i64 (r.2.2.1 + 1 + 1 + 1)] ∧ H4 gb = some [.sl q.xb 2 0 q.xs.length q.cp,.fr 1 r.1.length (cat cL r.1)] ∧ H4 q.xb = some (cat oP q.xs ++ zrP q.j .any)) ⟨by simp [upd,hbg,zS hbg,g7,zS g7,g8,zS g8,u2,zS u2],by simp [upd,hbg,zS hbg,g7,zS g7,g8,zS g8,u1,zS u1,h2],by simp [upd,hbg,zS hbg,g7,zS g7,g8,zS g8,u3,zS u3,h3]⟩ fun H4 ⟨k1,k2,k3⟩=>?_;refine Xe 8 ?_;simp [go_sem,dat,Xh,Xi,cI]) | skip);refine Qc (id:=17) Xu [] (by kernel_rfl) ?_;simp [-zg,-zd,↓Qb,↓Qa,go_sem,k1,k2,k3,hbg,zS hbg,g7,zS g7,g8,zS g8,(show r.1.length ≤ 9223372036854775806 by omega),(show 2 * (r.1.length + 1) * 24 ≤ 281474976710656 by omega)];try (first | (rename True ∧ True ∧ True=>k_;refine Qw (fun H5=>H5 b = some [.list ys.length (cat cY ys),.int .i64 (r.2.2.1 + 1 + 1 + 1)] ∧ H5 gb = some [.sl q.xb 2 0 q.xs.length q.cp,.fr 1 (r.1 ++ [[yy,xx]]).length (cat cL (r.1 ++ [[yy,xx]]))] ∧ H5 q.xb = some (cat oP q.xs ++ zrP q.j .any)) ⟨by simp [upd,k1,hbg,zS hbg,g7,zS g7,g8,zS g8],by simp [upd,hbg,zS hbg,g7,zS g7,g8,zS g8,Xk,Xi,cL,li,Xg,cI,Xl],by simp [upd,k3,hbg,zS hbg,g7,zS g7,g8,zS g8]⟩ fun H5 ⟨e1,e2,e3⟩=>?_;have v5:∀ l ∈ r.1 ++ [[yy,xx]],l.length ≤ 2:=(fun l hl=>by rcases List.mem_append.1 hl with h | h;exact r3 l h;simp at h;subst h;simp);generalize [yy,xx] = l5 at *) | (refine Qw (fun H5=>H5 b = some [.list ys.length (cat cY ys),.int .i64 (r.2.2.1 + 1 + 1 + 1)] ∧ H5 gb = some [.sl q.xb 2 0 q.xs.length q.cp,.fr 1 (r.1 ++ [[yy]]).length (cat cL (r.1 ++ [[yy]]))] ∧ H5 q.xb = some (cat oP q.xs ++ zrP q.j .any)) ⟨by simp [upd,k1,hbg,zS hbg,g7,zS g7,g8,zS g8],by simp [upd,hbg,zS hbg,g7,zS g7,g8,zS g8,Xk,Xi,cL,li,Xg,cI,Xl],by simp [upd,k3,hbg,zS hbg,g7,zS g7,g8,zS g8]⟩ fun H5 ⟨e1,e2,e3⟩=>?_;have v5:∀ l ∈ r.1 ++ [[yy]],l.length ≤ 2:=(fun l hl=>by rcases List.mem_append.1 hl with h | h;exact r3 l h;simp at h;subst h;simp);generalize [yy] = l5 at *))
 | refine Qc (id:=12) Xu [] (by kernel_rfl) ?_;simp [-zg,-zd,↓Qb,↓Qa,go_sem,wrapS (k:=r.2.1) (by omega)]
 | ((refine Zf gb 0 (b':=q.xb) (sz:=2) (m:=q.xs.length) (cp:=q.cp) (all:=[.sl q.xb 2 0 q.xs.length q.cp,.fr 1 r.1.length (cat cL r.1)]) (cs:=cat oP q.xs ++ zrP q.j .any) r7 rfl g7 r8 (by omega) (by simp [Qu]) (by simp [Qu];omega) ?_));refine Qc (id:=18) Xu [] (by kernel_rfl) ?_;simp [-zg,-zd,↓Qb,↓Qa,go_sem,hbg,zS hbg,g7,zS g7,g8,zS g8]
 | refine Qd (c:=.tmp 12) ?_;simp [-zg,-zd,↓Qb,↓Qa,go_sem];try first | (refine ⟨?_,?_⟩ <;> refine zA ?_) | (refine ⟨fun c12=>?_,fun c12=>?_⟩ <;> (try simp [B_iff,B_not] at c12))
 | refine Qd (c:=.tmp 25) ?_;simp [-zg,-zd,↓Qb,↓Qa,go_sem];try first | (refine ⟨?_,?_⟩ <;> refine zA ?_) | (refine ⟨fun c25=>?_,fun c25=>?_⟩ <;> (try simp [B_iff,B_not] at c25))
 | refine Qd (c:=.tmp 32) ?_;simp [-zg,-zd,↓Qb,↓Qa,go_sem];try first | (refine ⟨?_,?_⟩ <;> refine zA ?_) | (refine ⟨fun c32=>?_,fun c32=>?_⟩ <;> (try simp [B_iff,B_not] at c32))
 | refine Qd (c:=.tmp 53) ?_;simp [-zg,-zd,↓Qb,↓Qa,go_sem];try first | (refine ⟨?_,?_⟩ <;> refine zA ?_) | (refine ⟨fun c53=>?_,fun c53=>?_⟩ <;> (try simp [B_iff,B_not] at c53))
 | refine Qd (c:=.tmp 76) ?_;simp [-zg,-zd,↓Qb,↓Qa,go_sem];try first | (refine ⟨?_,?_⟩ <;> refine zA ?_) | (refine ⟨fun c76=>?_,fun c76=>?_⟩ <;> (try simp [B_iff,B_not] at c76))
 | (refine Qg (id:=0) (Qx (ι:=LG) (fun q:LG=>⟨(upd (upd (upd (upd (fun _=>.any) 0 (.ptr b 0)) 2 (.box [.nil,.nil])) 5 (.ptr gb 0)) 6 (.int .i64 q.i)),q.H⟩) (fun q=>LGi ys b gb p0 q) (fun q=>q.i.toNat) (⟨[],kk,p0 + 1,xb,cp,jx,upd H1 b (some [.list ys.length (cat cY ys),.int .i64 (p0 + 1)])⟩) ?_ ?_ ?_);exact ⟨by dsimp only;omega,by dsimp only;omega,by simp;omega,by dsimp only;omega,by dsimp only;omega,by simp,n1,n2,by simpa using hdx,by simp [upd],by simp [upd,zS hbg,w2],by simp [upd,zS n2,w3]⟩;((repeat' (first | exact Qh (by assumption) | exact Qj | refine Qk ?_ ?_ | refine Qi ?_)) <;> simp [-zg,-zd,↓Qb,↓Qa,go_sem]);rintro q hq)
 | (refine ⟨⟨q.xs ++ [((([q.i.tmod 3],[pkI ys q.q 3,pkI ys (q.q + 1) 2,0])):Ints2)],q.i - 1,q.q + 1 + 1,xb2,cp2,jx2,H2⟩,v2,by first | omega | (simp;done) | (simp;omega),?_⟩;((repeat' (first | exact Qh (by assumption) | exact Qj | refine Qk ?_ ?_ | refine Qi ?_)) <;> simp [-zg,-zd,↓Qb,↓Qa,go_sem,]))
 | (refine Qg (id:=2) (Qx (ι:=List (List Int) × Nat × Int × Hp) (fun r:List (List Int) × Nat × Int × Hp=>⟨(upd (upd (upd (upd (fun _=>.any) 0 (.ptr b 0)) 2 (.box [.nil,.nil])) 5 (.ptr gb 0)) 7 (.int .i64 r.2.1)),r.2.2.2⟩) (fun r=>r.2.1 ≤ q.xs.length ∧ r.1.length = r.2.1 ∧ (∀ l ∈ r.1,l.length ≤ 2) ∧ q.q ≤ r.2.2.1 ∧ r.2.2.1 ≤ q.q + r.2.1 * 3 ∧ r.2.2.2 b = some [.list ys.length (cat cY ys),.int .i64 r.2.2.1] ∧ r.2.2.2 gb = some [.sl q.xb 2 0 q.xs.length q.cp,.fr 1 r.1.length (cat cL r.1)] ∧ r.2.2.2 q.xb = some (cat oP q.xs ++ zrP q.j .any)) (fun r=>q.xs.length - r.2.1) (([],0,q.q,q.H)) ?_ ?_ ?_);exact ⟨Nat.zero_le _,rfl,by simp,by dsimp only;omega,by dsimp only;omega,ga1,by simpa [Xl] using gb1,gc1⟩;((repeat' (first | exact Qh (by assumption) | exact Qj | refine Qk ?_ ?_ | refine Qi ?_)) <;> simp [-zg,-zd,↓Qb,↓Qa,go_sem]);rintro r ⟨r1,r2,r3,r4,r5,r6,r7,r8⟩)
 | (refine ⟨(r.1 ++ [l5],r.2.1 + 1,r.2.2.1 + 1 + 1 + 1,H5),⟨by dsimp only;omega,by simp;omega,v5,by dsimp only;omega,by dsimp only;omega,e1,e2,e3⟩,by first | omega | (simp;done) | (simp;omega),?_⟩;((repeat' (first | exact Qh (by assumption) | exact Qj | refine Qk ?_ ?_ | refine Qi ?_)) <;> simp [-zg,-zd,↓Qb,↓Qa,go_sem,]))
 | (refine Qg ?_)
 | (refine Qs ?_;simp [-zg,-zd,↓Qb,↓Qa,go_sem])
 | (refine Qr ?_;simp [-zg,-zd,↓Qb,↓Qa,go_sem])
 | (refine Qq ?_;try simp [-zg,-zd,↓Qb,↓Qa,go_sem,Tryz.results19])
 | (intro hx;refine zA ?_)
 | (intro hx;change retR _ _ _ _ _)
 | (refine ⟨?_,?_⟩ <;> refine zA ?_)
 | (intro hx;constructor <;> intro hs)
 | (constructor <;> intro hs)
 | (refine ⟨?_,fun hs=>?_⟩;refine zA ?_)
 | (refine ⟨fun hs=>?_,?_⟩;rotate_left;refine zA ?_;rotate_left)
 | ((fail_if_success change retR _ _ _ _ _);(exfalso;omega))))
  all_goals (first
 | (refine zaod _ _ _ ((ga,gc)) (p2) ?_ ?_ ?_ ?_;(first | exact Or.inl rfl | exact Or.inr rfl);(focus (simp [-zg,-zd,↓Qb,↓Qa,go_sem,Tryz.results19,dat,Xh,li,Zr];done));(focus ((exact ⟨y0.1,y0.2 (by assumption)⟩);done));(focus (refine ⟨?_,?_⟩ <;> omega)))
 | (refine zaod _ _ _ ((q.xs,r.1)) (r.2.2.1) ?_ ?_ ?_ ?_;(first | exact Or.inl rfl | exact Or.inr rfl);(focus (simp [-zg,-zd,↓Qb,↓Qa,go_sem,Tryz.results19,dat,Xh,li,Zr,oP_dat,r6,hbg,zS hbg,g7,zS g7,g8,zS g8];done));(focus ((exact ⟨⟨by dsimp only;omega,by dsimp only;omega,fun s hs=>by have:=f5 s hs;omega,fun l hl=>by have:=r3 l hl;omega⟩,by dsimp only;omega,by dsimp only;omega⟩);done));(focus (refine ⟨?_,?_⟩ <;> omega)))
 | skip)
@[go_sem] def l4GraphC:Con:=.rel fun args H=>match args with
  | [.ptr b 0]=>match H b with
    | some [.list m cs,.int .i64 p]=>((Is cY m cs) ∧ (m ≤ 2000) ∧ (0 ≤ p) ∧ (p + 2100 ≤ 1000000),fun c=>(Uj (Xr p c).1,upd H b (some [.list m cs,.int .i64 (Xr p c).2])))
    | _=>(False,fun _=>(.any,H))
  | _=>(False,fun _=>(.any,H))
theorem l4GraphC_ok:ConOk Tryz.prog 19 l4GraphC:=by
  refine ⟨Qo Tryz.func19 (by decide) rfl,fun args H h=>?_⟩
  revert h
  dsimp only
  split
  · split
    · rename_i hH
      intro h
      obtain ⟨⟨ys,rfl,rfl⟩,hl,h0_,hp_⟩:=h
      try simp only [Qm] at *
      exact SpecR.enc ((l4Graph_spec ys _ _ hl h0_ hp_ ).frame hH).shut fun c=>Prod.ext (zaoe  _ _).2.symm rfl
    · intro h;exact h.elim
  · intro h
    exact h.elim
@[go_sem] def Γe30:FuncId → Con:=ext Γe29 19 l4GraphC
theorem Wm:∀ g,ConOk Tryz.prog g (Γe30 g):=Qn Xu l4GraphC_ok

end
end Go.Proofs.YtmiimodggpjkmaaGreat.Vm

