/-
  A system's graph: one of many, small. No conditions.
-/
import Derived.Test.YtmiimodggpjkmaaGreatE14
namespace Go.Proofs.YtmiimodggpjkmaaGreat.Vm
open Go
open Nat renaming sub_pos_of_lt → zsP
open List renaming getD_eq_getElem?_getD → zg,drop_one → zd,replicate → zrP
open Ne renaming symm → zS
noncomputable section
set_option linter.unusedVariables false
set_option linter.unusedSimpArgs false
set_option maxRecDepth 200000

theorem findI_range {α:Type} [Inhabited α] (p:α → Bool) (xs:List α):-1 ≤ findI p xs ∧ findI p xs < xs.length:=by
  unfold findI
  split
  · rename_i i h
    have:=(List.findIdx?_eq_some_iff_getElem.1 h).1
    omega
  · omega
def SmallG (x:List Ints2 × List (List Int)):Prop:=x.1.length ≤ 100 ∧ x.2.length ≤ 100 ∧ (∀ s ∈ x.1,s.1.length ≤ 1010 ∧ s.2.length ≤ 1010) ∧ ∀ l ∈ x.2,l.length ≤ 1000
@[go_sem] def sG (x:List Ints2 × List (List Int)):D:=.st [li cP x.1,li cL x.2]
structure BG where
  xs:List Ints2
  nx:List (List Int)
  i:Nat
  xb:Nat
  cp:Nat
  j:Nat
  l:List Int
  c:Nat
  lb:Nat
  cl:Nat
  jl:Nat
  H:Hp
def BGo (ps:List Pr) (gb:Nat) (q:BG):Prop:=(1 ≤ q.xs.length ∧ q.xs.length ≤ 60) ∧ q.i ≤ q.xs.length ∧ q.nx.length = q.i ∧ (∀ s ∈ q.xs,StF ps s.1 s.2) ∧ (∀ l ∈ q.nx,l.length ≤ 400) ∧ ¬ gb = q.xb ∧ q.cp * 2 ≤ q.xs.length * 2 + q.j ∧ q.H gb = some [.sl q.xb 2 0 q.xs.length q.cp,.fr 1 q.nx.length (cat cL q.nx)] ∧ q.H q.xb = some (cat cP q.xs ++ zrP q.j .any)
def BGi (ps:List Pr) (gb n:Nat) (q:BG):Prop:=BGo ps gb q ∧ q.i < q.xs.length ∧ q.c ≤ n ∧ q.l.length ≤ q.c ∧ ¬ gb = q.lb ∧ ¬ q.xb = q.lb ∧ q.cl ≤ q.l.length + q.jl ∧ q.H q.lb = some (cat cI q.l ++ zrP q.jl .any)
theorem BGo.small {init:List Int} {ps:List Pr} {gb:Nat} {q:BG} (hS:SysOk init ps) (h:BGo ps gb q):SmallG (q.xs,q.nx):=by
  obtain ⟨g1,g2,g3,g4,g5,-⟩:=h
  have h3:=hS.2.2.1
  refine ⟨by dsimp only;omega,by dsimp only;omega,fun s hs=>?_,fun l hl=>?_⟩
  · have k:=g4 s hs;have k1:=k.1;have k2:=k.2.1;omega
  · have:=g5 l hl;omega
@[go_sem] theorem take_cP (xs:List Ints2) (ys:List D):(cat cP xs ++ ys).take (xs.length * 2) = cat cP xs:=Uh xs ys
theorem zaoc {xs:List Ints2} {i:Nat} (h:i < xs.length) (ys:List D):((cat cP xs ++ ys).drop (i * 2)).take 2 = [li cI (nth xs i).1,li cI (nth xs i).2]:=by
  have e:xs.drop i = nth xs i :: xs.drop (i + 1):=by rw [Xa h];exact List.drop_eq_getElem_cons h
  rw [List.drop_append_of_le_length (by rw [Qu];omega),zamk,e,Xg];rfl
theorem nextLe {l:List Int} {n c:Nat} (h1:l.length ≤ c) (h2:c ≤ n) (h3:n ≤ 324):l.length ≤ 324:=by omega

@[go_sem] def Wf:(List Ints2 × List (List Int)) × Bool → D:=fun x=>.tup [sG x.1,.bool x.2]
theorem zanu (x:(List Ints2 × List (List Int)) × Bool):dat (Wf x) = Wf x:=by simp [go_sem]
def zaaf (init:List Int) (ps:List Pr):(List Ints2 × List (List Int)) × Bool → Prop:=fun x=>SmallG x.1 ∧ (x.2 = true → 1 ≤ x.1.1.length ∧ x.1.2.length = x.1.1.length)
def zadn (init:List Int) (ps:List Pr) (x:((List Ints2 × List (List Int)) × Bool) × D):Prop:=zaaf init ps x.1 ∧ dat x.2 = Wf x.1
def zaci (init:List Int) (ps:List Pr) (c:Any):((List Ints2 × List (List Int)) × Bool) × D:=sel (zadn init ps) (((([],[]),false):(List Ints2 × List (List Int)) × Bool),Wf ((([],[]),false))) c
def zaen (init:List Int) (ps:List Pr) (c:Any):(List Ints2 × List (List Int)) × Bool:=(zaci init ps c).1
theorem zaid (init:List Int) (ps:List Pr)  (c:Any):zadn init ps (zaci init ps c):=by
  have hx:zaaf init ps ((([],[]),false)):=by simp [zaaf,SmallG]
  exact Xz (p:=zadn init ps) (x0:=(((([],[]),false):(List Ints2 × List (List Int)) × Bool),Wf ((([],[]),false)))) ⟨hx,zanu _⟩ c
theorem BuildGraph_ok (init:List Int) (ps:List Pr)  (c:Any):zaaf init ps (zaen init ps c):=(zaid init ps  c).1
theorem zaic (init:List Int) (ps:List Pr) {e_:Exit} {S_:St} (x:(List Ints2 × List (List Int)) × Bool) (he_:e_ = .ret ∨ e_ = .normal)
    (h1:(Qf Tryz.prog S_ Tryz.f41.results.toList).1 ∧ dat (resD (Qf Tryz.prog S_ Tryz.f41.results.toList).2.1) = Wf x) (hg:zaaf init ps x) :
    retR Tryz.prog Tryz.f41 (fun c=>((zaci init ps c).2,fun _=>none)) e_ S_ :=
  Xy (good:=zadn init ps) (enc:=fun x:((List Ints2 × List (List Int)) × Bool) × D=>x.2) (x,resD (Qf Tryz.prog S_ Tryz.f41.results.toList).2.1) he_ ⟨h1.1,rfl⟩ ⟨hg,h1.2⟩
set_option maxHeartbeats 8000000 in
theorem zant (init:List Int) (ps:List Pr)  : SpecR Tryz.prog 41 [.st [li cI init,li cR ps]] (fun _=>none) (fun c=>((zaci init ps c).2,fun _=>none)):=by
  refine SpecR.of_walk Tryz.func41 rfl (by simp [Tryz.f41]) fun B=>?_
  (repeat' (first
 | refine Qt ?_
 | refine Qc (id:=0) Xn [] (by kernel_rfl) ?_;simp [-zg,-zd,↓Qb,↓Qa,go_sem];try (refine Xe 1 ?_;simp [go_sem])
 | refine Qc (id:=1) Xn [] (by kernel_rfl) ?_;simp [-zg,-zd,↓Qb,↓Qa,go_sem];try ((intro c1);(have h1:=zans init ps c1);(generalize zaaw init ps c1 = z1 at *);(obtain ⟨⟨lo,va⟩,okk⟩:=z1);(simp only [zaaa] at h1);(refine Xe 4 ?_);(simp [go_sem]))
 | refine Qc (id:=2) Xn [] (by kernel_rfl) ?_;simp [-zg,-zd,↓Qb,↓Qa,go_sem]
 | refine Qc (id:=3) Xn [] (by kernel_rfl) ?_;simp [-zg,-zd,↓Qb,↓Qa,go_sem]
 | ((obtain ⟨hS,hT⟩:=h1.1 c19);(have hp3:=hS.2.2.1));refine Qc (id:=4) Xn [] (by kernel_rfl) ?_;simp [-zg,-zd,↓Qb,↓Qa,go_sem];try ((refine zaeb 6 1 rfl ?_);(refine Zn 6 rfl fun gb hgb=>?_);(refine Zx gb 0 (all:=[.fr 2 1 [li cI lo,li cI va],.fr 1 0 []]) (by simp [upd,li]) rfl fun xb cp jx hx hcx hdx=>?_);(have n1:¬ gb = xb:=(by rintro rfl;simp [upd] at hx));(clear hgb hx);(refine Qw (fun H1=>H1 gb = some [.sl xb 2 0 1 cp,.fr 1 0 []] ∧ H1 xb = some (cat cP [((lo,va):Ints2)] ++ zrP jx .any)) ⟨by simp [upd,n1],by simp [upd,Xg,Xl,cP]⟩ fun H1 ⟨w1,w2⟩=>?_))
 | refine Qc (id:=5) Xn [] (by kernel_rfl) ?_;simp [-zg,-zd,↓Qb,↓Qa,go_sem]
 | ((obtain ⟨g1,g2,g3,g4,g5,g6,g7,g8,g9⟩:=hq));refine Qc (id:=6) Xn [] (by kernel_rfl) ?_;simp [-zg,-zd,↓Qb,↓Qa,go_sem,g8,g9,g6,zS g6]
 | ((have hi:q.i < q.xs.length:=(by omega));(have hsi:=g4 _ (Zk hi)));refine Zu (id:=8) Xn mixed [(gb,[.sl q.xb 2 0 q.xs.length q.cp,.fr 1 q.nx.length (cat cL q.nx)]),(q.xb,cat cP q.xs ++ zrP q.j .any)] [] [] (by kernel_rfl) (by kernel_rfl) (by simp [-zg,-zd,↓Qb,↓Qa,go_sem,g8,g9,g6,zS g6,hi,hi,Qe hi,zsP hi,zaoc hi,hS,hsi,(show q.i * 2 + 2 ≤ q.xs.length * 2 + q.j by omega)]) (by simp [-zg,-zd,↓Qb,↓Qa,go_sem,g8,g9,g6,zS g6,hi,hi,Qe hi,zsP hi,zaoc hi,hS,hsi,(show q.i * 2 + 2 ≤ q.xs.length * 2 + q.j by omega)]) ?_;simp [-zg,-zd,↓Qb,↓Qa,go_sem,g8,g9,g6,zS g6,hi,hi,Qe hi,zsP hi,zaoc hi,hS,hsi,(show q.i * 2 + 2 ≤ q.xs.length * 2 + q.j by omega)];try ((intro c8);(have h8:=l3Steps_ok init ps (nth q.xs q.i).1 (nth q.xs q.i).2 hS hsi c8);(generalize zadv init ps (nth q.xs q.i).1 (nth q.xs q.i).2 c8 = zz at *);(simp only [zacd] at h8);(have hz:=h8.1);(refine Xe 8 ?_);(simp [go_sem]))
 | refine Qc (id:=9) Xn [] (by kernel_rfl) ?_;simp [-zg,-zd,↓Qb,↓Qa,go_sem,g8];try ((refine Jh 9 rfl fun lb cl jl hlb hcl hdl=>?_);(have n2:¬ gb = lb:=(by rintro rfl;simp [upd,g8] at hlb));(have n3:¬ q.xb = lb:=(by intro e;rw [← e] at hlb;simp [upd,g9] at hlb));(clear hlb);(refine Qw (fun H2=>H2 gb = some [.sl q.xb 2 0 q.xs.length q.cp,.fr 1 q.nx.length (cat cL q.nx)] ∧ H2 q.xb = some (cat cP q.xs ++ zrP q.j .any) ∧ H2 lb = some (cat cI ([]:List Int) ++ zrP jl .any)) ⟨by simp [upd,g8,n2],by simp [upd,g9,n3],by simp [upd,Xl]⟩ fun H2 ⟨w1,w2,w3⟩=>?_))
 | refine Qc (id:=10) Xn [] (by kernel_rfl) ?_;simp [-zg,-zd,↓Qb,↓Qa,go_sem]
 | ((have hr0:=hr);(obtain ⟨⟨r1,r2,r3,r4,r5,r6,r7,r8,r9⟩,i1,i2,i3,i4,i5,i6,i7⟩:=hr);(have i8:=nextLe i3 i2 hz));refine Qc (id:=11) Xn [] (by kernel_rfl) ?_;simp [-zg,-zd,↓Qb,↓Qa,go_sem]
 | ((have hi2:q.i < r.xs.length:=(by omega));(have hs2:=r4 _ (Zk hi2));(have hst:=h8.2 _ (Zk c42)));refine Zu (id:=13) Xn mixed [(gb,[.sl r.xb 2 0 r.xs.length r.cp,.fr 1 r.nx.length (cat cL r.nx)]),(r.xb,cat cP r.xs ++ zrP r.j .any)] [] [] (by kernel_rfl) (by kernel_rfl) (by simp [-zg,-zd,↓Qb,↓Qa,go_sem,r8,r9,r6,zS r6,i4,i5,zS i4,zS i5,hi2,hi2,Qe hi2,zsP hi2,c42,Qe c42,zsP c42,zaoc hi2,hS,hs2,(show q.i * 2 + 2 ≤ r.xs.length * 2 + r.j by omega),(show StepF ps ((nth zz r.c).1,(nth zz r.c).2.1,(nth zz r.c).2.2.1,(nth zz r.c).2.2.2) from hst)]) (by simp [-zg,-zd,↓Qb,↓Qa,go_sem,r8,r9,r6,zS r6,i4,i5,zS i4,zS i5,hi2,hi2,Qe hi2,zsP hi2,c42,Qe c42,zsP c42,zaoc hi2,hS,hs2,(show q.i * 2 + 2 ≤ r.xs.length * 2 + r.j by omega),(show StepF ps ((nth zz r.c).1,(nth zz r.c).2.1,(nth zz r.c).2.2.1,(nth zz r.c).2.2.2) from hst)]) ?_;simp [-zg,-zd,↓Qb,↓Qa,go_sem,r8,r9,r6,zS r6,i4,i5,zS i4,zS i5,hi2,hi2,Qe hi2,zsP hi2,c42,Qe c42,zsP c42,zaoc hi2,hS,hs2,(show q.i * 2 + 2 ≤ r.xs.length * 2 + r.j by omega),(show StepF ps ((nth zz r.c).1,(nth zz r.c).2.1,(nth zz r.c).2.2.1,(nth zz r.c).2.2.2) from hst)];try ((intro c13);(have h13:=l3Apply_ok init ps (nth r.xs q.i).1 (nth r.xs q.i).2 (nth zz r.c).1 (nth zz r.c).2.1 (nth zz r.c).2.2.1 (nth zz r.c).2.2.2 hS hs2 hst c13);(generalize zadw init ps (nth r.xs q.i).1 (nth r.xs q.i).2 (nth zz r.c).1 (nth zz r.c).2.1 (nth zz r.c).2.2.1 (nth zz r.c).2.2.2 c13 = y at *);(simp only [zadc] at h13);(obtain ⟨l2,v2⟩:=y);(dsimp only at h13);(refine Xe 11 ?_);(simp [go_sem]))
 | refine Qc (id:=14) Xn [] (by kernel_rfl) ?_;simp [-zg,-zd,↓Qb,↓Qa,go_sem,r8,r9,r6,zS r6];try ((obtain ⟨k1,k2⟩:=findI_range (fun z=>decide (z = ((l2,v2):Ints2))) r.xs);(generalize findI (fun z=>decide (z = ((l2,v2):Ints2))) r.xs = kk at *);(have va:BGi ps gb zz.length ⟨r.xs,r.nx,r.i,r.xb,r.cp,r.j,r.l,r.c + 1,r.lb,r.cl,r.jl,r.H⟩ ∧ r.i = q.i:=⟨⟨⟨r1,r2,r3,r4,r5,r6,r7,r8,r9⟩,i1,c42,Nat.le_succ_of_le i3,i4,i5,i6,i7⟩,hri⟩))
 | refine Qc (id:=15) Xn [] (by kernel_rfl) ?_;simp [-zg,-zd,↓Qb,↓Qa,go_sem]
 | refine Qc (id:=16) Xn [] (by kernel_rfl) ?_;simp [-zg,-zd,↓Qb,↓Qa,go_sem,r8,r9]
 | refine Qc (id:=17) Xn [] (by kernel_rfl) ?_;simp [-zg,-zd,↓Qb,↓Qa,go_sem,r8,r9,r6,zS r6,i4,i5,zS i4,zS i5,r7,(show r.xs.length ≤ 9223372036854775806 by omega),(show 2 * (r.xs.length + 1) * 48 ≤ 281474976710656 by omega)];try ((refine Zx gb 0 (all:=[.fr 2 (r.xs.length + 1) (cat cP r.xs ++ [li cI l2,li cI v2]),.fr 1 r.nx.length (cat cL r.nx)]) (by simp [upd,r6,zS r6,li]) rfl fun xb2 cp2 jx2 hx2 hcx2 hdx2=>?_);(have m1:¬ gb = xb2:=(by intro e;rw [← e] at hx2;simp [upd] at hx2));(have m2:¬ xb2 = r.lb:=(by intro e;rw [e] at hx2;simp [upd,i4,i5,zS i4,zS i5,i7] at hx2));(clear hx2);(refine Qw (fun H3=>H3 gb = some [.sl xb2 2 0 (r.xs ++ [((l2,v2):Ints2)]).length cp2,.fr 1 r.nx.length (cat cL r.nx)] ∧ H3 xb2 = some (cat cP (r.xs ++ [((l2,v2):Ints2)]) ++ zrP jx2 .any) ∧ H3 r.lb = some (cat cI r.l ++ zrP r.jl .any)) ⟨by simp [upd,m1],by simp [upd,Xk,Xi,cP],by simp [upd,m2,zS m2,i4,i5,zS i4,zS i5,i7]⟩ fun H3 ⟨s1,s2,s3⟩=>?_);(have fl17:True ∧ True:=⟨trivial,trivial⟩))
 | refine Qc (id:=18) Xn [] (by kernel_rfl) ?_;simp [-zg,-zd,↓Qb,↓Qa,go_sem]
 | refine Qc (id:=19) Xn [] (by kernel_rfl) ?_;simp [-zg,-zd,↓Qb,↓Qa,go_sem]
 | (first | (have hlbH:=s3) | (have hlbH:=i7));refine Qc (id:=20) Xn [] (by kernel_rfl) ?_;simp [-zg,-zd,↓Qb,↓Qa,go_sem,hlbH];try (first | (rename True ∧ True=>k_;have vb:BGi ps gb zz.length ⟨(r.xs ++ [((l2,v2):Ints2)]),r.nx,r.i,xb2,cp2,jx2,r.l,r.c + 1,r.lb,r.cl,r.jl,H3⟩ ∧ r.i = q.i:=⟨⟨⟨by simp;omega,by simp;omega,r3,(fun s hs=>by rcases List.mem_append.1 hs with h | h;exact r4 s h;simp at h;subst h;exact h13),r5,m1,by simp;omega,s1,s2⟩,by simp;omega,c42,Nat.le_succ_of_le i3,i4,m2,i6,s3⟩,hri⟩) | skip)
 | refine Qc (id:=21) Xn [] (by kernel_rfl) ?_;simp [-zg,-zd,↓Qb,↓Qa,go_sem,hlbH,i6,(show r.l.length ≤ 9223372036854775806 by omega),(show 2 * (r.l.length + 1) * 8 ≤ 281474976710656 by omega),(show r.l.length ≤ r.l.length + r.jl by omega)];try (first | (rename True ∧ True=>k_;refine Jh 9 rfl fun lb2 cl2 jl2 hl2 hc2 hd2=>?_;have u1:¬ gb = lb2:=(by rintro rfl;simp [upd,s1,i4,zS i4] at hl2);have u2:¬ xb2 = lb2:=(by rintro rfl;simp [upd,s2,m2,zS m2] at hl2);clear hl2;refine Qw (fun H4=>H4 gb = some [.sl xb2 2 0 (r.xs ++ [((l2,v2):Ints2)]).length cp2,.fr 1 r.nx.length (cat cL r.nx)] ∧ H4 xb2 = some (cat cP (r.xs ++ [((l2,v2):Ints2)]) ++ zrP jx2 .any) ∧ H4 lb2 = some (cat cI (r.l ++ [(r.xs.length:Int)]) ++ zrP jl2 .any)) ⟨by simp [upd,s1,u1,i4,zS i4],by simp [upd,s2,u2,m2,zS m2],by simp [upd,Xk,Xi,cI]⟩ fun H4 ⟨t1,t2,t3⟩=>?_;have vd:BGi ps gb zz.length ⟨(r.xs ++ [((l2,v2):Ints2)]),r.nx,r.i,xb2,cp2,jx2,(r.l ++ [(r.xs.length:Int)]),r.c + 1,lb2,cl2,jl2,H4⟩ ∧ r.i = q.i:=⟨⟨⟨by simp;omega,by simp;omega,r3,(fun s hs=>by rcases List.mem_append.1 hs with h | h;exact r4 s h;simp at h;subst h;exact h13),r5,m1,by simp;omega,t1,t2⟩,by simp;omega,c42,by simp;omega,u1,u2,by simp;omega,t3⟩,hri⟩) | (refine Jh 9 rfl fun lb2 cl2 jl2 hl2 hc2 hd2=>?_;have u1:¬ gb = lb2:=(by rintro rfl;simp [upd,r8,i4,zS i4] at hl2);have u2:¬ r.xb = lb2:=(by intro e;rw [← e] at hl2;simp [upd,r9,i5,zS i5] at hl2);clear hl2;refine Qw (fun H4=>H4 gb = some [.sl r.xb 2 0 r.xs.length r.cp,.fr 1 r.nx.length (cat cL r.nx)] ∧ H4 r.xb = some (cat cP r.xs ++ zrP r.j .any) ∧ H4 lb2 = some (cat cI (r.l ++ [kk]) ++ zrP jl2 .any)) ⟨by simp [upd,r8,u1,i4,zS i4],by simp [upd,r9,u2,i5,zS i5],by simp [upd,Xk,Xi,cI]⟩ fun H4 ⟨t1,t2,t3⟩=>?_;have vc:BGi ps gb zz.length ⟨r.xs,r.nx,r.i,r.xb,r.cp,r.j,(r.l ++ [kk]),r.c + 1,lb2,cl2,jl2,H4⟩ ∧ r.i = q.i:=⟨⟨⟨r1,r2,r3,r4,r5,r6,r7,t1,t2⟩,i1,c42,by simp;omega,u1,u2,by simp;omega,t3⟩,hri⟩))
 | refine Qc (id:=12) Xn [] (by kernel_rfl) ?_;simp [-zg,-zd,↓Qb,↓Qa,go_sem,wrapS (k:=r.c) (by omega)]
 | refine Qc (id:=22) Xn [] (by kernel_rfl) ?_;simp [-zg,-zd,↓Qb,↓Qa,go_sem]
 | refine Qc (id:=23) Xn [] (by kernel_rfl) ?_;simp [-zg,-zd,↓Qb,↓Qa,go_sem,r8,r9,r6,zS r6,i4,i5,zS i4,zS i5,i6,i7,(show r.l.length ≤ 9223372036854775806 by omega),(show 2 * (r.l.length + 1) * 8 ≤ 281474976710656 by omega),(show r.l.length ≤ r.l.length + r.jl by omega)];try ((have fl23:True ∧ True ∧ True:=⟨trivial,trivial,trivial⟩);(refine Qw (fun H4=>H4 gb = some [.sl r.xb 2 0 r.xs.length r.cp,.fr 1 r.nx.length (cat cL r.nx)] ∧ H4 r.xb = some (cat cP r.xs ++ zrP r.j .any)) ⟨by simp [upd,r8,i4,i5,zS i4,zS i5],by simp [upd,r9,i4,i5,zS i4,zS i5]⟩ fun H4 ⟨e8,e9⟩=>?_);(refine Xe 9 ?_);(simp [go_sem,dat,Xh,Zr]))
 | (first | (refine Jw 9 (b:=r.lb) (sz:=1) (m:=r.l.length) (cp:=r.cl) rfl i7 (by omega) (by simp [Qu];done) (by simp [Qu];omega) ?_;refine Qw (fun H4=>H4 gb = some [.sl r.xb 2 0 r.xs.length r.cp,.fr 1 r.nx.length (cat cL r.nx)] ∧ H4 r.xb = some (cat cP r.xs ++ zrP r.j .any)) ⟨by simp [upd,r8,i4,i5,zS i4,zS i5];done,by simp [upd,r9,i4,i5,zS i4,zS i5];done⟩ fun H4 ⟨e8,e9⟩=>?_;refine Xe 9 ?_;simp [go_sem,dat,Xh,Zr]) | skip);refine Qc (id:=24) Xn [] (by kernel_rfl) ?_;simp [-zg,-zd,↓Qb,↓Qa,go_sem,e8,e9,r6,zS r6,(show r.nx.length ≤ 9223372036854775806 by omega),(show 2 * (r.nx.length + 1) * 24 ≤ 281474976710656 by omega)];try (first | (rename True ∧ True ∧ True=>k_;refine Qw (fun H5=>H5 gb = some [.sl r.xb 2 0 r.xs.length r.cp,.fr 1 (r.nx ++ [r.l ++ [(q.i:Int)]]).length (cat cL (r.nx ++ [r.l ++ [(q.i:Int)]]))] ∧ H5 r.xb = some (cat cP r.xs ++ zrP r.j .any)) ⟨by simp [upd,e8,e9,r6,zS r6,Xk,Xi,cL,li,cI];done,by simp [upd,e8,e9,r6,zS r6];done⟩ fun H5 ⟨f8,f9⟩=>?_;have v5:BGo ps gb ⟨r.xs,r.nx ++ [r.l ++ [(q.i:Int)]],q.i + 1,r.xb,r.cp,r.j,[],0,0,0,0,H5⟩:=⟨r1,by dsimp only;omega,by simp;omega,r4,(fun l hl=>by rcases List.mem_append.1 hl with h | h;exact r5 l h;simp at h;subst h;simp;omega),r6,r7,f8,f9⟩;generalize r.l ++ [(q.i:Int)] = l5 at v5) | (refine Qw (fun H5=>H5 gb = some [.sl r.xb 2 0 r.xs.length r.cp,.fr 1 (r.nx ++ [r.l]).length (cat cL (r.nx ++ [r.l]))] ∧ H5 r.xb = some (cat cP r.xs ++ zrP r.j .any)) ⟨by simp [upd,e8,e9,r6,zS r6,Xk,Xi,cL,li,cI];done,by simp [upd,e8,e9,r6,zS r6];done⟩ fun H5 ⟨f8,f9⟩=>?_;have v5:BGo ps gb ⟨r.xs,r.nx ++ [r.l],q.i + 1,r.xb,r.cp,r.j,[],0,0,0,0,H5⟩:=⟨r1,by dsimp only;omega,by simp;omega,r4,(fun l hl=>by rcases List.mem_append.1 hl with h | h;exact r5 l h;simp at h;subst h;omega),r6,r7,f8,f9⟩;generalize r.l = l5 at v5))
 | refine Qc (id:=7) Xn [] (by kernel_rfl) ?_;simp [-zg,-zd,↓Qb,↓Qa,go_sem,wrapS (k:=q.i) (by omega)]
 | ((refine Zf gb 0 (b':=q.xb) (sz:=2) (m:=q.xs.length) (cp:=q.cp) (all:=[.sl q.xb 2 0 q.xs.length q.cp,.fr 1 q.nx.length (cat cL q.nx)]) (cs:=cat cP q.xs ++ zrP q.j .any) g8 rfl g6 g9 (by omega) (by simp [Qu]) (by simp [Qu];omega) ?_));refine Qc (id:=25) Xn [] (by kernel_rfl) ?_;simp [-zg,-zd,↓Qb,↓Qa,go_sem,g6,zS g6]
 | refine Qd (c:=.tmp 19) ?_;simp [-zg,-zd,↓Qb,↓Qa,go_sem];try first | (refine ⟨?_,?_⟩ <;> refine zA ?_) | (refine ⟨fun c19=>?_,fun c19=>?_⟩ <;> (try simp [B_iff,B_not] at c19))
 | refine Qd (c:=.tmp 28) ?_;simp [-zg,-zd,↓Qb,↓Qa,go_sem];try first | (refine ⟨?_,?_⟩ <;> refine zA ?_) | (refine ⟨fun c28=>?_,fun c28=>?_⟩ <;> (try simp [B_iff,B_not] at c28))
 | refine Qd (c:=.tmp 42) ?_;simp [-zg,-zd,↓Qb,↓Qa,go_sem];try first | (refine ⟨?_,?_⟩ <;> refine zA ?_) | (refine ⟨fun c42=>?_,fun c42=>?_⟩ <;> (try simp [B_iff,B_not] at c42))
 | refine Qd (c:=.tmp 61) ?_;simp [-zg,-zd,↓Qb,↓Qa,go_sem];try first | (refine ⟨?_,?_⟩ <;> refine zA ?_) | (refine ⟨fun c61=>?_,fun c61=>?_⟩ <;> (try simp [B_iff,B_not] at c61))
 | refine Qd (c:=.tmp 72) ?_;simp [-zg,-zd,↓Qb,↓Qa,go_sem];try first | (refine ⟨?_,?_⟩ <;> refine zA ?_) | (refine ⟨fun c72=>?_,fun c72=>?_⟩ <;> (try simp [B_iff,B_not] at c72))
 | refine Qd (c:=.tmp 77) ?_;simp [-zg,-zd,↓Qb,↓Qa,go_sem];try first | (refine ⟨?_,?_⟩ <;> refine zA ?_) | (refine ⟨fun c77=>?_,fun c77=>?_⟩ <;> (try simp [B_iff,B_not] at c77))
 | refine Qd (c:=.tmp 84) ?_;simp [-zg,-zd,↓Qb,↓Qa,go_sem];try first | (refine ⟨?_,?_⟩ <;> refine zA ?_) | (refine ⟨fun c84=>?_,fun c84=>?_⟩ <;> (try simp [B_iff,B_not] at c84))
 | (refine Qg (id:=0) (Qx (ι:=BG) (fun q:BG=>⟨(upd (upd (upd (upd (upd (fun _=>.any) 1 (.pd [li cI init,li cR ps])) 2 (.box [.nil,.nil])) 3 (.bool false)) 6 (.ptr gb 0)) 7 (.int .i64 q.i)),q.H⟩) (fun q=>BGo ps gb q) (fun q=>61 - q.i) (⟨[((lo,va):Ints2)],[],0,xb,cp,jx,[],0,0,0,0,H1⟩) ?_ ?_ ?_);exact ⟨by simp,by simp,rfl,by simpa using hT,by simp,n1,by simpa using hdx,by simpa [Xl] using w1,w2⟩;((repeat' (first | exact Qh (by assumption) | exact Qj | refine Qk ?_ ?_ | refine Qi ?_)) <;> simp [-zg,-zd,↓Qb,↓Qa,go_sem]);rintro q hq)
 | (refine ⟨⟨r.xs,r.nx ++ [l5],q.i + 1,r.xb,r.cp,r.j,[],0,0,0,0,H5⟩,v5,by first | omega | (simp;done) | (simp;omega),?_⟩;((repeat' (first | exact Qh (by assumption) | exact Qj | refine Qk ?_ ?_ | refine Qi ?_)) <;> simp [-zg,-zd,↓Qb,↓Qa,go_sem,]);done)
 | (refine Qg (id:=2) (Qx (ι:=BG) (fun r:BG=>⟨(upd (upd (upd (upd (upd (upd (upd (upd (fun _=>.any) 1 (.pd [li cI init,li cR ps])) 2 (.box [.nil,.nil])) 3 (.bool false)) 6 (.ptr gb 0)) 7 (.int .i64 q.i)) 8 (li cT zz)) 9 (.sl r.lb 1 0 r.l.length r.cl)) 10 (.int .i64 r.c)),r.H⟩) (fun r=>BGi ps gb zz.length r ∧ r.i = q.i) (fun r=>zz.length - r.c) (⟨q.xs,q.nx,q.i,q.xb,q.cp,q.j,[],0,lb,cl,jl,H2⟩) ?_ ?_ ?_);exact ⟨⟨⟨g1,g2,g3,g4,g5,g6,g7,w1,w2⟩,hi,Nat.zero_le _,Nat.le_refl _,n2,n3,by simpa using hdl,w3⟩,rfl⟩;((repeat' (first | exact Qh (by assumption) | exact Qj | refine Qk ?_ ?_ | refine Qi ?_)) <;> simp [-zg,-zd,↓Qb,↓Qa,go_sem]);rintro r ⟨hr,hri⟩)
 | (refine ⟨⟨r.xs,r.nx,r.i,r.xb,r.cp,r.j,r.l,r.c + 1,r.lb,r.cl,r.jl,r.H⟩,va,by first | omega | (simp;done) | (simp;omega),?_⟩;((repeat' (first | exact Qh (by assumption) | exact Qj | refine Qk ?_ ?_ | refine Qi ?_)) <;> simp [-zg,-zd,↓Qb,↓Qa,go_sem,]);done)
 | (refine Qg ?_)
 | (refine Qs ?_;simp [-zg,-zd,↓Qb,↓Qa,go_sem])
 | (refine Qr ?_;simp [-zg,-zd,↓Qb,↓Qa,go_sem])
 | (refine Qq ?_;try simp [-zg,-zd,↓Qb,↓Qa,go_sem,Tryz.results41])
 | (intro hx;refine zA ?_)
 | (intro hx;change retR _ _ _ _ _)
 | (refine ⟨?_,?_⟩ <;> refine zA ?_)
 | (intro hx;constructor <;> intro hs)
 | (constructor <;> intro hs)
 | (refine ⟨?_,fun hs=>?_⟩;refine zA ?_)
 | (refine ⟨fun hs=>?_,?_⟩;rotate_left;refine zA ?_;rotate_left)
 | ((fail_if_success change retR _ _ _ _ _);(refine ⟨⟨(r.xs ++ [((l2,v2):Ints2)]),r.nx,r.i,xb2,cp2,jx2,(r.l ++ [(r.xs.length:Int)]),r.c + 1,lb2,cl2,jl2,H4⟩,vd,by dsimp only;omega,?_⟩;((repeat' (first | exact Qh (by assumption) | exact Qj | refine Qk ?_ ?_ | refine Qi ?_)) <;> simp [-zg,-zd,go_sem]);done))
 | ((fail_if_success change retR _ _ _ _ _);(refine ⟨⟨r.xs,r.nx,r.i,r.xb,r.cp,r.j,(r.l ++ [kk]),r.c + 1,lb2,cl2,jl2,H4⟩,vc,by dsimp only;omega,?_⟩;((repeat' (first | exact Qh (by assumption) | exact Qj | refine Qk ?_ ?_ | refine Qi ?_)) <;> simp [-zg,-zd,go_sem]);done))
 | ((fail_if_success change retR _ _ _ _ _);(refine ⟨⟨(r.xs ++ [((l2,v2):Ints2)]),r.nx,r.i,xb2,cp2,jx2,r.l,r.c + 1,r.lb,r.cl,r.jl,H3⟩,vb,by dsimp only;omega,?_⟩;((repeat' (first | exact Qh (by assumption) | exact Qj | refine Qk ?_ ?_ | refine Qi ?_)) <;> simp [-zg,-zd,go_sem]);done))))
  all_goals (first
 | (refine zaic _ _ ((([],[]),false)) ?_ ?_ ?_;(first | exact Or.inl rfl | exact Or.inr rfl);(focus (simp [-zg,-zd,↓Qb,↓Qa,go_sem,Tryz.results41,dat,datL,li,Xl];done));(focus ((simp [zaaf,SmallG]);done)))
 | (refine zaic _ _ (((q.xs,q.nx),true)) ?_ ?_ ?_;(first | exact Or.inl rfl | exact Or.inr rfl);(focus (simp [-zg,-zd,↓Qb,↓Qa,go_sem,Tryz.results41,dat,Xh,li,Zr,g6,zS g6];done));(focus ((exact ⟨BGo.small hS ⟨g1,g2,g3,g4,g5,g6,g7,g8,g9⟩,fun _=>⟨g1.1,by dsimp only;omega⟩⟩);done)))
 | skip)
@[go_sem] def zajf:Con:=.rel fun args H=>match args with
  | [.st [.list n_init c_init,.list n_ps c_ps]]=>((Is cI n_init c_init) ∧ (Is cR n_ps c_ps),fun c=>(Wf (zaen (de cI c_init) (de cR c_ps) c),H))
  | _=>(False,fun _=>(.any,H))
theorem BuildGraphC_ok:ConOk Tryz.prog 41 zajf:=by
  refine ⟨Qo Tryz.func41 (by decide) rfl,fun args H h=>?_⟩
  revert h
  dsimp only
  split
  · intro h
    obtain ⟨⟨init,rfl,rfl⟩,⟨ps,rfl,rfl⟩⟩:=h
    try simp only [Qm] at *
    exact SpecR.enc ((SpecR.frame0 (zant init ps ) (H:=H)).shut) fun c=>Prod.ext (zaid _ _  c).2.symm rfl
  · intro h
    exact h.elim
@[go_sem] def Γe29:FuncId → Con:=ext Γe28 41 zajf
theorem Xu:∀ g,ConOk Tryz.prog g (Γe29 g):=Qn Xn BuildGraphC_ok

end
end Go.Proofs.YtmiimodggpjkmaaGreat.Vm

