import Derived.Test.YtiilmjojffjhlaaGreatDoorE14
/-
  A system's graph: one of many, small. No conditions.
-/
namespace Go.Proofs.YtiilmjojffjhlaaGreatDoor.Vm
open Go
open Nat renaming sub_pos_of_lt → zsP
open List renaming getD_eq_getElem?_getD → zg,drop_one → zd,replicate → zrP
open Ne renaming symm → zS
noncomputable section
set_option linter.unusedVariables false
set_option linter.unusedSimpArgs false
set_option maxRecDepth 200000

theorem findI_range {α:Type} [Inhabited α] (p:α → Bool) (xs:List α):-1 ≤ findI p xs ∧ findI p xs < xs.length:=by
  unfold findI
  split
  · rename_i i h
    have:=(List.findIdx?_eq_some_iff_getElem.1 h).1
    omega
  · omega
def SmallG (x:List Ints2 × List (List Int)):Prop:=x.1.length ≤ 100 ∧ x.2.length ≤ 100 ∧ (∀ s ∈ x.1,s.1.length ≤ 1010 ∧ s.2.length ≤ 1010) ∧ ∀ l ∈ x.2,l.length ≤ 1000
@[go_sem] def sG (x:List Ints2 × List (List Int)):D:=.st [li cP x.1,li cL x.2]
structure BG where
  xs:List Ints2
  nx:List (List Int)
  i:Nat
  xb:Nat
  cp:Nat
  j:Nat
  l:List Int
  c:Nat
  lb:Nat
  cl:Nat
  jl:Nat
  H:Hp
def BGo (ps:List Pr) (gb:Nat) (q:BG):Prop:=(1 ≤ q.xs.length ∧ q.xs.length ≤ 60) ∧ q.i ≤ q.xs.length ∧ q.nx.length = q.i ∧ (∀ s ∈ q.xs,StF ps s.1 s.2) ∧ (∀ l ∈ q.nx,l.length ≤ 400) ∧ ¬ gb = q.xb ∧ q.cp * 2 ≤ q.xs.length * 2 + q.j ∧ q.H gb = some [.sl q.xb 2 0 q.xs.length q.cp,.fr 1 q.nx.length (cat cL q.nx)] ∧ q.H q.xb = some (cat cP q.xs ++ zrP q.j .any)
def BGi (ps:List Pr) (gb n:Nat) (q:BG):Prop:=BGo ps gb q ∧ q.i < q.xs.length ∧ q.c ≤ n ∧ q.l.length ≤ q.c ∧ ¬ gb = q.lb ∧ ¬ q.xb = q.lb ∧ q.cl ≤ q.l.length + q.jl ∧ q.H q.lb = some (cat cI q.l ++ zrP q.jl .any)
theorem BGo.small {init:List Int} {ps:List Pr} {gb:Nat} {q:BG} (hS:SysOk init ps) (h:BGo ps gb q):SmallG (q.xs,q.nx):=by
  obtain ⟨g1,g2,g3,g4,g5,-⟩:=h
  have h3:=hS.2.2.1
  refine ⟨by dsimp only;omega,by dsimp only;omega,fun s hs=>?_,fun l hl=>?_⟩
  · have k:=g4 s hs;have k1:=k.1;have k2:=k.2.1;omega
  · have:=g5 l hl;omega
@[go_sem] theorem take_cP (xs:List Ints2) (ys:List D):(cat cP xs ++ ys).take (xs.length * 2) = cat cP xs:=Jp xs ys
theorem load_cP {xs:List Ints2} {i:Nat} (h:i < xs.length) (ys:List D):((cat cP xs ++ ys).drop (i * 2)).take 2 = [li cI (nth xs i).1,li cI (nth xs i).2]:=by
  have e:xs.drop i = nth xs i :: xs.drop (i + 1):=by rw [Xc h];exact List.drop_eq_getElem_cons h
  rw [List.drop_append_of_le_length (by rw [Qv];omega),Vb,e,Xe];rfl
theorem nextLe {l:List Int} {n c:Nat} (h1:l.length ≤ c) (h2:c ≤ n) (h3:n ≤ 324):l.length ≤ 324:=by omega

@[go_sem] def Wu:(List Ints2 × List (List Int)) × Bool → D:=fun x=>.tup [sG x.1,.bool x.2]
theorem zats (x:(List Ints2 × List (List Int)) × Bool):dat (Wu x) = Wu x:=by simp [go_sem]
def zaax (init:List Int) (ps:List Pr):(List Ints2 × List (List Int)) × Bool → Prop:=fun x=>SmallG x.1 ∧ (x.2 = true → 1 ≤ x.1.1.length ∧ x.1.2.length = x.1.1.length)
def zafp (init:List Int) (ps:List Pr) (x:((List Ints2 × List (List Int)) × Bool) × D):Prop:=zaax init ps x.1 ∧ dat x.2 = Wu x.1
def zady (init:List Int) (ps:List Pr) (c:Any):((List Ints2 × List (List Int)) × Bool) × D:=sel (zafp init ps) (((([],[]),false):(List Ints2 × List (List Int)) × Bool),Wu ((([],[]),false))) c
def zaho (init:List Int) (ps:List Pr) (c:Any):(List Ints2 × List (List Int)) × Bool:=(zady init ps c).1
theorem zaly (init:List Int) (ps:List Pr)  (c:Any):zafp init ps (zady init ps c):=by
  have hx:zaax init ps ((([],[]),false)):=by simp [zaax,SmallG]
  exact Xl (p:=zafp init ps) (x0:=(((([],[]),false):(List Ints2 × List (List Int)) × Bool),Wu ((([],[]),false)))) ⟨hx,zats _⟩ c
theorem BuildGraph_ok (init:List Int) (ps:List Pr)  (c:Any):zaax init ps (zaho init ps c):=(zaly init ps  c).1
theorem zalx (init:List Int) (ps:List Pr) {e_:Exit} {S_:St} (x:(List Ints2 × List (List Int)) × Bool) (he_:e_ = .ret ∨ e_ = .normal)
    (h1:(Qd Tryz.prog S_ Tryz.f129.results.toList).1 ∧ dat (resD (Qd Tryz.prog S_ Tryz.f129.results.toList).2.1) = Wu x) (hg:zaax init ps x) :
    retR Tryz.prog Tryz.f129 (fun c=>((zady init ps c).2,fun _=>none)) e_ S_ :=
  Xi (good:=zafp init ps) (enc:=fun x:((List Ints2 × List (List Int)) × Bool) × D=>x.2) (x,resD (Qd Tryz.prog S_ Tryz.f129.results.toList).2.1) he_ ⟨h1.1,rfl⟩ ⟨hg,h1.2⟩
set_option maxHeartbeats 8000000 in
theorem zatr (init:List Int) (ps:List Pr)  : SpecR Tryz.prog 129 [.st [li cI init,li cR ps]] (fun _=>none) (fun c=>((zady init ps c).2,fun _=>none)):=by
  refine SpecR.of_walk Tryz.func129 rfl (by simp [Tryz.f129]) fun B=>?_
  (repeat' (first
 | refine Qt ?_
 | refine Qc (id:=0) Zd [] (by kernel_rfl) ?_;simp [-zg,-zd,↓Qb,↓Qa,go_sem];try (refine Qy 1 ?_;simp [go_sem])
 | refine Qc (id:=1) Zd [] (by kernel_rfl) ?_;simp [-zg,-zd,↓Qb,↓Qa,go_sem];try ((intro c1);(have h1:=zatq init ps c1);(generalize zabs init ps c1 = z1 at *);(obtain ⟨⟨lo,va⟩,okk⟩:=z1);(simp only [zaak] at h1);(refine Qy 4 ?_);(simp [go_sem]))
 | ((obtain ⟨hS,hT⟩:=h1.1 c19);(have hp3:=hS.2.2.1));refine Qc (id:=4) Zd [] (by kernel_rfl) ?_;simp [-zg,-zd,↓Qb,↓Qa,go_sem];try ((refine zagw 6 1 rfl ?_);(refine Xs 6 rfl fun gb hgb=>?_);(refine Xw gb 0 (all:=[.fr 2 1 [li cI lo,li cI va],.fr 1 0 []]) (by simp [upd,li]) rfl fun xb cp jx hx hcx hdx=>?_);(have n1:¬ gb = xb:=(by rintro rfl;simp [upd] at hx));(clear hgb hx);(refine Qp (fun H1=>H1 gb = some [.sl xb 2 0 1 cp,.fr 1 0 []] ∧ H1 xb = some (cat cP [((lo,va):Ints2)] ++ zrP jx .any)) ⟨by simp [upd,n1],by simp [upd,Xe,Xb,cP]⟩ fun H1 ⟨w1,w2⟩=>?_))
 | ((obtain ⟨g1,g2,g3,g4,g5,g6,g7,g8,g9⟩:=hq));refine Qc (id:=6) Zd [] (by kernel_rfl) ?_;simp [-zg,-zd,↓Qb,↓Qa,go_sem,g8,g9,g6,zS g6]
 | ((have hi:q.i < q.xs.length:=(by omega));(have hsi:=g4 _ (Xz hi)));refine Xr (id:=8) Zd mixed [(gb,[.sl q.xb 2 0 q.xs.length q.cp,.fr 1 q.nx.length (cat cL q.nx)]),(q.xb,cat cP q.xs ++ zrP q.j .any)] [] [] (by kernel_rfl) (by kernel_rfl) ?_ ?_ ?_ <;> simp [-zg,-zd,↓Qb,↓Qa,go_sem,g8,g9,g6,zS g6,hi,hi,Qk hi,zsP hi,load_cP hi,hS,hsi,(show q.i * 2 + 2 ≤ q.xs.length * 2 + q.j by omega)];try ((intro c8);(have h8:=l3Steps_ok init ps (nth q.xs q.i).1 (nth q.xs q.i).2 hS hsi c8);(generalize zagm init ps (nth q.xs q.i).1 (nth q.xs q.i).2 c8 = zz at *);(simp only [zadt] at h8);(have hz:=h8.1);(refine Qy 8 ?_);(simp [go_sem]))
 | refine Qc (id:=9) Zd [] (by kernel_rfl) ?_;simp [-zg,-zd,↓Qb,↓Qa,go_sem,g8];try ((refine Zb 9 rfl fun lb cl jl hlb hcl hdl=>?_);(have n2:¬ gb = lb:=(by rintro rfl;simp [upd,g8] at hlb));(have n3:¬ q.xb = lb:=(by intro e;rw [← e] at hlb;simp [upd,g9] at hlb));(clear hlb);(refine Qp (fun H2=>H2 gb = some [.sl q.xb 2 0 q.xs.length q.cp,.fr 1 q.nx.length (cat cL q.nx)] ∧ H2 q.xb = some (cat cP q.xs ++ zrP q.j .any) ∧ H2 lb = some (cat cI ([]:List Int) ++ zrP jl .any)) ⟨by simp [upd,g8,n2],by simp [upd,g9,n3],by simp [upd,Xb]⟩ fun H2 ⟨w1,w2,w3⟩=>?_))
 | ((have hr0:=hr);(obtain ⟨⟨r1,r2,r3,r4,r5,r6,r7,r8,r9⟩,i1,i2,i3,i4,i5,i6,i7⟩:=hr);(have i8:=nextLe i3 i2 hz));refine Qc (id:=11) Zd [] (by kernel_rfl) ?_;simp [-zg,-zd,↓Qb,↓Qa,go_sem]
 | ((have hi2:q.i < r.xs.length:=(by omega));(have hs2:=r4 _ (Xz hi2));(have hst:=h8.2 _ (Xz c42)));refine Xr (id:=13) Zd mixed [(gb,[.sl r.xb 2 0 r.xs.length r.cp,.fr 1 r.nx.length (cat cL r.nx)]),(r.xb,cat cP r.xs ++ zrP r.j .any)] [] [] (by kernel_rfl) (by kernel_rfl) ?_ ?_ ?_ <;> simp [-zg,-zd,↓Qb,↓Qa,go_sem,r8,r9,r6,zS r6,i4,i5,zS i4,zS i5,hi2,hi2,Qk hi2,zsP hi2,c42,Qk c42,zsP c42,load_cP hi2,hS,hs2,(show q.i * 2 + 2 ≤ r.xs.length * 2 + r.j by omega),(show StepF ps ((nth zz r.c).1,(nth zz r.c).2.1,(nth zz r.c).2.2.1,(nth zz r.c).2.2.2) from hst)];try ((intro c13);(have h13:=l3Apply_ok init ps (nth r.xs q.i).1 (nth r.xs q.i).2 (nth zz r.c).1 (nth zz r.c).2.1 (nth zz r.c).2.2.1 (nth zz r.c).2.2.2 hS hs2 hst c13);(generalize zagn init ps (nth r.xs q.i).1 (nth r.xs q.i).2 (nth zz r.c).1 (nth zz r.c).2.1 (nth zz r.c).2.2.1 (nth zz r.c).2.2.2 c13 = y at *);(simp only [zaff] at h13);(obtain ⟨l2,v2⟩:=y);(dsimp only at h13);(refine Qy 11 ?_);(simp [go_sem]))
 | refine Qc (id:=14) Zd [] (by kernel_rfl) ?_;simp [-zg,-zd,↓Qb,↓Qa,go_sem,r8,r9,r6,zS r6];try ((obtain ⟨k1,k2⟩:=findI_range (fun z=>decide (z = ((l2,v2):Ints2))) r.xs);(generalize findI (fun z=>decide (z = ((l2,v2):Ints2))) r.xs = kk at *);(have va:BGi ps gb zz.length ⟨r.xs,r.nx,r.i,r.xb,r.cp,r.j,r.l,r.c + 1,r.lb,r.cl,r.jl,r.H⟩ ∧ r.i = q.i:=⟨⟨⟨r1,r2,r3,r4,r5,r6,r7,r8,r9⟩,i1,c42,Nat.le_succ_of_le i3,i4,i5,i6,i7⟩,hri⟩))
 | refine Qc (id:=16) Zd [] (by kernel_rfl) ?_;simp [-zg,-zd,↓Qb,↓Qa,go_sem,r8,r9]
 | refine Qc (id:=17) Zd [] (by kernel_rfl) ?_;simp [-zg,-zd,↓Qb,↓Qa,go_sem,r8,r9,r6,zS r6,i4,i5,zS i4,zS i5,r7,(show r.xs.length ≤ 9223372036854775806 by omega),(show 2 * (r.xs.length + 1) * 48 ≤ 281474976710656 by omega)];try ((refine Xw gb 0 (all:=[.fr 2 (r.xs.length + 1) (cat cP r.xs ++ [li cI l2,li cI v2]),.fr 1 r.nx.length (cat cL r.nx)]) (by simp [upd,r6,zS r6,li]) rfl fun xb2 cp2 jx2 hx2 hcx2 hdx2=>?_);(have m1:¬ gb = xb2:=(by intro e;rw [← e] at hx2;simp [upd] at hx2));(have m2:¬ xb2 = r.lb:=(by intro e;rw [e] at hx2;simp [upd,i4,i5,zS i4,zS i5,i7] at hx2));(clear hx2);(refine Qp (fun H3=>H3 gb = some [.sl xb2 2 0 (r.xs ++ [((l2,v2):Ints2)]).length cp2,.fr 1 r.nx.length (cat cL r.nx)] ∧ H3 xb2 = some (cat cP (r.xs ++ [((l2,v2):Ints2)]) ++ zrP jx2 .any) ∧ H3 r.lb = some (cat cI r.l ++ zrP r.jl .any)) ⟨by simp [upd,m1],by simp [upd,Xk,Xg,cP],by simp [upd,m2,zS m2,i4,i5,zS i4,zS i5,i7]⟩ fun H3 ⟨s1,s2,s3⟩=>?_);(have fl17:True ∧ True:=⟨trivial,trivial⟩))
 | (first | (have hlbH:=s3) | (have hlbH:=i7));refine Qc (id:=20) Zd [] (by kernel_rfl) ?_;simp [-zg,-zd,↓Qb,↓Qa,go_sem,hlbH];try (first | (rename True ∧ True=>k_;have vb:BGi ps gb zz.length ⟨(r.xs ++ [((l2,v2):Ints2)]),r.nx,r.i,xb2,cp2,jx2,r.l,r.c + 1,r.lb,r.cl,r.jl,H3⟩ ∧ r.i = q.i:=⟨⟨⟨by simp;omega,by simp;omega,r3,(fun s hs=>by rcases List.mem_append.1 hs with h | h;exact r4 s h;simp at h;subst h;exact h13),r5,m1,by simp;omega,s1,s2⟩,by simp;omega,c42,Nat.le_succ_of_le i3,i4,m2,i6,s3⟩,hri⟩) | skip)
 | refine Qc (id:=21) Zd [] (by kernel_rfl) ?_;simp [-zg,-zd,↓Qb,↓Qa,go_sem,hlbH,i6,(show r.l.length ≤ 9223372036854775806 by omega),(show 2 * (r.l.length + 1) * 8 ≤ 281474976710656 by omega),(show r.l.length ≤ r.l.length + r.jl by omega)];try (first | (rename True ∧ True=>k_;refine Zb 9 rfl fun lb2 cl2 jl2 hl2 hc2 hd2=>?_;have u1:¬ gb = lb2:=(by rintro rfl;simp [upd,s1,i4,zS i4] at hl2);have u2:¬ xb2 = lb2:=(by rintro rfl;simp [upd,s2,m2,zS m2] at hl2);clear hl2;refine Qp (fun H4=>H4 gb = some [.sl xb2 2 0 (r.xs ++ [((l2,v2):Ints2)]).length cp2,.fr 1 r.nx.length (cat cL r.nx)] ∧ H4 xb2 = some (cat cP (r.xs ++ [((l2,v2):Ints2)]) ++ zrP jx2 .any) ∧ H4 lb2 = some (cat cI (r.l ++ [(r.xs.length:Int)]) ++ zrP jl2 .any)) ⟨by simp [upd,s1,u1,i4,zS i4],by simp [upd,s2,u2,m2,zS m2],by simp [upd,Xk,Xg,cI]⟩ fun H4 ⟨t1,t2,t3⟩=>?_;have vd:BGi ps gb zz.length ⟨(r.xs ++ [((l2,v2):Ints2)]),r.nx,r.i,xb2,cp2,jx2,(r.l ++ [(r.xs.length:Int)]),r.c + 1,lb2,cl2,jl2,H4⟩ ∧ r.i = q.i:=⟨⟨⟨by simp;omega,by simp;omega,r3,(fun s hs=>by rcases List.mem_append.1 hs with h | h;exact r4 s h;simp at h;subst h;exact h13),r5,m1,by simp;omega,t1,t2⟩,by simp;omega,c42,by simp;omega,u1,u2,by simp;omega,t3⟩,hri⟩) | (refine Zb 9 rfl fun lb2 cl2 jl2 hl2 hc2 hd2=>?_;have u1:¬ gb = lb2:=(by rintro rfl;simp [upd,r8,i4,zS i4] at hl2);have u2:¬ r.xb = lb2:=(by intro e;rw [← e] at hl2;simp [upd,r9,i5,zS i5] at hl2);clear hl2;refine Qp (fun H4=>H4 gb = some [.sl r.xb 2 0 r.xs.length r.cp,.fr 1 r.nx.length (cat cL r.nx)] ∧ H4 r.xb = some (cat cP r.xs ++ zrP r.j .any) ∧ H4 lb2 = some (cat cI (r.l ++ [kk]) ++ zrP jl2 .any)) ⟨by simp [upd,r8,u1,i4,zS i4],by simp [upd,r9,u2,i5,zS i5],by simp [upd,Xk,Xg,cI]⟩ fun H4 ⟨t1,t2,t3⟩=>?_;have vc:BGi ps gb zz.length ⟨r.xs,r.nx,r.i,r.xb,r.cp,r.j,(r.l ++ [kk]),r.c + 1,lb2,cl2,jl2,H4⟩ ∧ r.i = q.i:=⟨⟨⟨r1,r2,r3,r4,r5,r6,r7,t1,t2⟩,i1,c42,by simp;omega,u1,u2,by simp;omega,t3⟩,hri⟩))
 | refine Qc (id:=12) Zd [] (by kernel_rfl) ?_;simp [-zg,-zd,↓Qb,↓Qa,go_sem,wrapS (k:=r.c) (by omega)]
 | refine Qc (id:=23) Zd [] (by kernel_rfl) ?_;simp [-zg,-zd,↓Qb,↓Qa,go_sem,r8,r9,r6,zS r6,i4,i5,zS i4,zS i5,i6,i7,(show r.l.length ≤ 9223372036854775806 by omega),(show 2 * (r.l.length + 1) * 8 ≤ 281474976710656 by omega),(show r.l.length ≤ r.l.length + r.jl by omega)];try ((have fl23:True ∧ True ∧ True:=⟨trivial,trivial,trivial⟩);(refine Qp (fun H4=>H4 gb = some [.sl r.xb 2 0 r.xs.length r.cp,.fr 1 r.nx.length (cat cL r.nx)] ∧ H4 r.xb = some (cat cP r.xs ++ zrP r.j .any)) ⟨by simp [upd,r8,i4,i5,zS i4,zS i5],by simp [upd,r9,i4,i5,zS i4,zS i5]⟩ fun H4 ⟨e8,e9⟩=>?_);(refine Qy 9 ?_);(simp [go_sem,dat,Qz,Xx]))
 | (first | (refine Zz 9 (b:=r.lb) (sz:=1) (m:=r.l.length) (cp:=r.cl) rfl i7 (by omega) (by simp [Qv];done) (by simp [Qv];omega) ?_;refine Qp (fun H4=>H4 gb = some [.sl r.xb 2 0 r.xs.length r.cp,.fr 1 r.nx.length (cat cL r.nx)] ∧ H4 r.xb = some (cat cP r.xs ++ zrP r.j .any)) ⟨by simp [upd,r8,i4,i5,zS i4,zS i5];done,by simp [upd,r9,i4,i5,zS i4,zS i5];done⟩ fun H4 ⟨e8,e9⟩=>?_;refine Qy 9 ?_;simp [go_sem,dat,Qz,Xx]) | skip);refine Qc (id:=24) Zd [] (by kernel_rfl) ?_;simp [-zg,-zd,↓Qb,↓Qa,go_sem,e8,e9,r6,zS r6,(show r.nx.length ≤ 9223372036854775806 by omega),(show 2 * (r.nx.length + 1) * 24 ≤ 281474976710656 by omega)];try (first | (rename True ∧ True ∧ True=>k_;refine Qp (fun H5=>H5 gb = some [.sl r.xb 2 0 r.xs.length r.cp,.fr 1 (r.nx ++ [r.l ++ [(q.i:Int)]]).length (cat cL (r.nx ++ [r.l ++ [(q.i:Int)]]))] ∧ H5 r.xb = some (cat cP r.xs ++ zrP r.j .any)) ⟨by simp [upd,e8,e9,r6,zS r6,Xk,Xg,cL,li,cI];done,by simp [upd,e8,e9,r6,zS r6];done⟩ fun H5 ⟨f8,f9⟩=>?_;have v5:BGo ps gb ⟨r.xs,r.nx ++ [r.l ++ [(q.i:Int)]],q.i + 1,r.xb,r.cp,r.j,[],0,0,0,0,H5⟩:=⟨r1,by dsimp only;omega,by simp;omega,r4,(fun l hl=>by rcases List.mem_append.1 hl with h | h;exact r5 l h;simp at h;subst h;simp;omega),r6,r7,f8,f9⟩;generalize r.l ++ [(q.i:Int)] = l5 at v5) | (refine Qp (fun H5=>H5 gb = some [.sl r.xb 2 0 r.xs.length r.cp,.fr 1 (r.nx ++ [r.l]).length (cat cL (r.nx ++ [r.l]))] ∧ H5 r.xb = some (cat cP r.xs ++ zrP r.j .any)) ⟨by simp [upd,e8,e9,r6,zS r6,Xk,Xg,cL,li,cI];done,by simp [upd,e8,e9,r6,zS r6];done⟩ fun H5 ⟨f8,f9⟩=>?_;have v5:BGo ps gb ⟨r.xs,r.nx ++ [r.l],q.i + 1,r.xb,r.cp,r.j,[],0,0,0,0,H5⟩:=⟨r1,by dsimp only;omega,by simp;omega,r4,(fun l hl=>by rcases List.mem_append.1 hl with h | h;exact r5 l h;simp at h;subst h;omega),r6,r7,f8,f9⟩;generalize r.l = l5 at v5))
 | refine Qc (id:=7) Zd [] (by kernel_rfl) ?_;simp [-zg,-zd,↓Qb,↓Qa,go_sem,wrapS (k:=q.i) (by omega)]
 | ((refine Xu gb 0 (b':=q.xb) (sz:=2) (m:=q.xs.length) (cp:=q.cp) (all:=[.sl q.xb 2 0 q.xs.length q.cp,.fr 1 q.nx.length (cat cL q.nx)]) (cs:=cat cP q.xs ++ zrP q.j .any) g8 rfl g6 g9 (by omega) (by simp [Qv]) (by simp [Qv];omega) ?_));refine Qc (id:=25) Zd [] (by kernel_rfl) ?_;simp [-zg,-zd,↓Qb,↓Qa,go_sem,g6,zS g6]
 | refine Qj (c:=.tmp 19) ?_;simp [-zg,-zd,↓Qb,↓Qa,go_sem];try first | (refine ⟨?_,?_⟩ <;> refine zA ?_) | (refine ⟨fun c19=>?_,fun c19=>?_⟩ <;> (try simp [B_iff,B_not] at c19))
 | refine Qj (c:=.tmp 42) ?_;simp [-zg,-zd,↓Qb,↓Qa,go_sem];try first | (refine ⟨?_,?_⟩ <;> refine zA ?_) | (refine ⟨fun c42=>?_,fun c42=>?_⟩ <;> (try simp [B_iff,B_not] at c42))
 | (refine Qe (id:=0) (Qw (ι:=BG) (fun q:BG=>⟨(upd (upd (upd (upd (upd (fun _=>.any) 1 (.pd [li cI init,li cR ps])) 2 (.box [.nil,.nil])) 3 (.bool false)) 6 (.ptr gb 0)) 7 (.int .i64 q.i)),q.H⟩) (fun q=>BGo ps gb q) (fun q=>61 - q.i) (⟨[((lo,va):Ints2)],[],0,xb,cp,jx,[],0,0,0,0,H1⟩) ?_ ?_ ?_);exact ⟨by simp,by simp,rfl,by simpa using hT,by simp,n1,by simpa using hdx,by simpa [Xb] using w1,w2⟩;((repeat' (first | exact Qg (by assumption) | exact Qi | refine Qf ?_ ?_ | refine Qh ?_)) <;> simp [-zg,-zd,↓Qb,↓Qa,go_sem]);rintro q hq)
 | (refine ⟨⟨r.xs,r.nx ++ [l5],q.i + 1,r.xb,r.cp,r.j,[],0,0,0,0,H5⟩,v5,by first | omega | (simp;done) | (simp;omega),?_⟩;((repeat' (first | exact Qg (by assumption) | exact Qi | refine Qf ?_ ?_ | refine Qh ?_)) <;> simp [-zg,-zd,↓Qb,↓Qa,go_sem,]);done)
 | (refine Qe (id:=2) (Qw (ι:=BG) (fun r:BG=>⟨(upd (upd (upd (upd (upd (upd (upd (upd (fun _=>.any) 1 (.pd [li cI init,li cR ps])) 2 (.box [.nil,.nil])) 3 (.bool false)) 6 (.ptr gb 0)) 7 (.int .i64 q.i)) 8 (li cT zz)) 9 (.sl r.lb 1 0 r.l.length r.cl)) 10 (.int .i64 r.c)),r.H⟩) (fun r=>BGi ps gb zz.length r ∧ r.i = q.i) (fun r=>zz.length - r.c) (⟨q.xs,q.nx,q.i,q.xb,q.cp,q.j,[],0,lb,cl,jl,H2⟩) ?_ ?_ ?_);exact ⟨⟨⟨g1,g2,g3,g4,g5,g6,g7,w1,w2⟩,hi,Nat.zero_le _,Nat.le_refl _,n2,n3,by simpa using hdl,w3⟩,rfl⟩;((repeat' (first | exact Qg (by assumption) | exact Qi | refine Qf ?_ ?_ | refine Qh ?_)) <;> simp [-zg,-zd,↓Qb,↓Qa,go_sem]);rintro r ⟨hr,hri⟩)
 | (refine ⟨⟨r.xs,r.nx,r.i,r.xb,r.cp,r.j,r.l,r.c + 1,r.lb,r.cl,r.jl,r.H⟩,va,by first | omega | (simp;done) | (simp;omega),?_⟩;((repeat' (first | exact Qg (by assumption) | exact Qi | refine Qf ?_ ?_ | refine Qh ?_)) <;> simp [-zg,-zd,↓Qb,↓Qa,go_sem,]);done)
 | (refine Qe ?_)
 | (refine Qs ?_;simp [-zg,-zd,↓Qb,↓Qa,go_sem])
 | (refine Qr ?_;simp [-zg,-zd,↓Qb,↓Qa,go_sem])
 | (refine Qq ?_;try simp [-zg,-zd,↓Qb,↓Qa,go_sem,Tryz.results129])
 | (intro hx;refine zA ?_)
 | (intro hx;change retR _ _ _ _ _)
 | (refine ⟨?_,?_⟩ <;> refine zA ?_)
 | (intro hx;constructor <;> intro hs)
 | (constructor <;> intro hs)
 | (refine ⟨?_,fun hs=>?_⟩;refine zA ?_)
 | (refine ⟨fun hs=>?_,?_⟩;rotate_left;refine zA ?_;rotate_left)
 | ((fail_if_success change retR _ _ _ _ _);(refine ⟨⟨(r.xs ++ [((l2,v2):Ints2)]),r.nx,r.i,xb2,cp2,jx2,(r.l ++ [(r.xs.length:Int)]),r.c + 1,lb2,cl2,jl2,H4⟩,vd,by dsimp only;omega,?_⟩;((repeat' (first | exact Qg (by assumption) | exact Qi | refine Qf ?_ ?_ | refine Qh ?_)) <;> simp [-zg,-zd,go_sem]);done))
 | ((fail_if_success change retR _ _ _ _ _);(refine ⟨⟨r.xs,r.nx,r.i,r.xb,r.cp,r.j,(r.l ++ [kk]),r.c + 1,lb2,cl2,jl2,H4⟩,vc,by dsimp only;omega,?_⟩;((repeat' (first | exact Qg (by assumption) | exact Qi | refine Qf ?_ ?_ | refine Qh ?_)) <;> simp [-zg,-zd,go_sem]);done))
 | ((fail_if_success change retR _ _ _ _ _);(refine ⟨⟨(r.xs ++ [((l2,v2):Ints2)]),r.nx,r.i,xb2,cp2,jx2,r.l,r.c + 1,r.lb,r.cl,r.jl,H3⟩,vb,by dsimp only;omega,?_⟩;((repeat' (first | exact Qg (by assumption) | exact Qi | refine Qf ?_ ?_ | refine Qh ?_)) <;> simp [-zg,-zd,go_sem]);done))
 | (refine Qj ?_;simp [-zg,-zd,↓Qb,↓Qa,go_sem];try first | (refine ⟨?_,?_⟩ <;> refine zA ?_) | (refine ⟨fun cz=>?_,fun cz=>?_⟩ <;> (try simp [B_iff,B_not] at cz)))
 | (refine Qc Zd [] (by kernel_rfl) ?_;simp [-zg,-zd,↓Qb,↓Qa,go_sem])
 | fail))
  all_goals (first
 | (refine zalx _ _ ((([],[]),false)) ?_ ?_ ?_;(first | exact Or.inl rfl | exact Or.inr rfl);(focus (simp [-zg,-zd,↓Qb,↓Qa,go_sem,Tryz.results129,dat,datL,li,Xb];done));(focus ((simp [zaax,SmallG]);done)))
 | (refine zalx _ _ (((q.xs,q.nx),true)) ?_ ?_ ?_;(first | exact Or.inl rfl | exact Or.inr rfl);(focus (simp [-zg,-zd,↓Qb,↓Qa,go_sem,Tryz.results129,dat,Qz,li,Xx,g6,zS g6];done));(focus ((exact ⟨BGo.small hS ⟨g1,g2,g3,g4,g5,g6,g7,g8,g9⟩,fun _=>⟨g1.1,by dsimp only;omega⟩⟩);done)))
 | skip)
@[go_sem] def zano:Con:=.rel fun args H=>match args with
  | [.st [.list n_init c_init,.list n_ps c_ps]]=>((Is cI n_init c_init) ∧ (Is cR n_ps c_ps),fun c=>(Wu (zaho (de cI c_init) (de cR c_ps) c),H))
  | _=>(False,fun _=>(.any,H))
theorem BuildGraphC_ok:ConOk Tryz.prog 129 zano:=by
  refine ⟨Qo Tryz.func129 (by decide) rfl,fun args H h=>?_⟩
  revert h
  dsimp only
  split
  · intro h
    obtain ⟨⟨init,rfl,rfl⟩,⟨ps,rfl,rfl⟩⟩:=h
    try simp only [Qm] at *
    exact SpecR.enc ((SpecR.frame0 (zatr init ps ) (H:=H)).shut) fun c=>Prod.ext (zaly _ _  c).2.symm rfl
  · intro h
    exact h.elim
@[go_sem] def Γe29:FuncId → Con:=ext Γe28 129 zano
theorem Zm:∀ g,ConOk Tryz.prog g (Γe29 g):=Qn Zd BuildGraphC_ok


theorem AW_boxNil0N {P:Program} {B:Base} {n:Nat} {S:St} {c:Code} {Q:Exit → St → Prop} (t sz:Nat) {d:D} (hT:S.T t = .box [.nil,d]) (h:AW P B n c Q ⟨upd S.T t (.box [.fr sz 0 [],d]),S.H⟩):AW P B n c Q S :=
  Yn t hT (fun μ I w vs f hr=>by
    simp only [RepL] at hr ⊢
    obtain ⟨v,vs',f1,f2,e1,e2,r1,r2⟩:=hr
    exact ⟨v,vs',f1,f2,e1,e2,Jw r1,r2⟩) (fun N hb=>by simp only [bndL,bnd] at hb ⊢;exact ⟨trivial,hb.2⟩) h
theorem oP_dat:∀ xs:List Ints2,(cat oP xs).map dat = cat cP xs
  | []=>rfl
  | x :: xs=>by rw [Xe,Xe,List.map_append,oP_dat xs];simp [oP,cP,fr,dat,Qz,Xx,li]
structure LG where
  xs:List Ints2
  i:Int
  q:Int
  xb:Nat
  cp:Nat
  j:Nat
  H:Hp
def LGi (ys:List UInt8) (b gb:Nat) (p0:Int) (q:LG):Prop:=0 ≤ q.i ∧ q.i ≤ 6 ∧ ((q.xs.length:Int) + q.i ≤ 6 ∧ 1 ≤ (q.xs.length:Int) + q.i) ∧ p0 + 1 ≤ q.q ∧ q.q ≤ p0 + 1 + (6 - q.i) * 2 ∧ (∀ s ∈ q.xs,s.1.length ≤ 3 ∧ s.2.length ≤ 3) ∧ ¬ gb = q.xb ∧ ¬ b = q.xb ∧ q.cp * 2 ≤ q.xs.length * 2 + q.j ∧ q.H b = some [.list ys.length (cat cY ys),.int .i64 q.q] ∧ q.H gb = some [.sl q.xb 2 0 q.xs.length q.cp,.fr 1 0 []] ∧ q.H q.xb = some (cat oP q.xs ++ zrP q.j .any)

@[go_sem] def Us:List Ints2 × List (List Int) → D:=sG
theorem l4Graph_flat (x:List Ints2 × List (List Int)):dat (Us x) = Us x:=by simp [go_sem]
def zach  : List Ints2 × List (List Int) → Prop:=fun x=>SmallG x ∧ 1 ≤ x.1.length ∧ x.2.length = x.1.length
def zare  (x:(List Ints2 × List (List Int)) × D):Prop:=zach x.1 ∧ dat x.2 = Us x.1
def zacg  (p:Int) (c:Any):((List Ints2 × List (List Int)) × D) × Int:=dsel (zare) ((([([],[])],[[]]):List Ints2 × List (List Int)),Us (([([],[])],[[]]))) 2100 p c
def Xo  (p:Int) (c:Any):(List Ints2 × List (List Int)) × Int:=((zacg p c).1.1,(zacg p c).2)
theorem zaui   (p:Int) (c:Any):(zach (Xo p c).1 ∧ p ≤ (Xo p c).2 ∧ (Xo p c).2 ≤ p + 2100) ∧ dat (zacg p c).1.2 = Us (Xo p c).1:=by
  have hx:zach (([([],[])],[[]])):=by simp [zach,SmallG]
  have h:=Zy (good:=zare) (x0:=((([([],[])],[[]]):List Ints2 × List (List Int)),Us (([([],[])],[[]])))) ⟨hx,l4Graph_flat _⟩ (K:=2100) (by omega) (p:=p) c
  exact ⟨⟨h.1.1,h.2.1,h.2.2⟩,h.1.2⟩
theorem l4Graph_ok   (p:Int) (c:Any):zach (Xo p c).1 ∧ p ≤ (Xo p c).2 ∧ (Xo p c).2 ≤ p + 2100:=(zaui  p c).1
theorem zauh  (ys:List UInt8) (p:Int) (b:Nat) {e_:Exit} {S_:St} (x:List Ints2 × List (List Int)) (p':Int) (he_:e_ = .ret ∨ e_ = .normal)
    (h1:(Qd Tryz.prog S_ Tryz.f97.results.toList).1 ∧ dat (resD (Qd Tryz.prog S_ Tryz.f97.results.toList).2.1) = Us x ∧ (Qd Tryz.prog S_ Tryz.f97.results.toList).2.2.H b = some [li cY ys,.int .i64 p']) (hg:zach x) (h2:p ≤ p' ∧ p' ≤ p + 2100) :
    retR Tryz.prog Tryz.f97 (fun c=>((zacg p c).1.2,one b [li cY ys,.int .i64 (zacg p c).2])) e_ S_ :=
  Zw (good:=zare) (enc:=fun x:(List Ints2 × List (List Int)) × D=>x.2) (cells:=fun q=>[li cY ys,.int .i64 q]) (x,resD (Qd Tryz.prog S_ Tryz.f97.results.toList).2.1) p' he_ ⟨h1.1,rfl,h1.2.2⟩ ⟨hg,h1.2.1⟩ h2
set_option maxHeartbeats 8000000 in
theorem l4Graph_spec (ys:List UInt8) (p:Int) (b:Nat)  (hl:ys.length ≤ 2000) (h0_:0 ≤ p) (hp_:p + 2100 ≤ 1000000)  : SpecR Tryz.prog 97 [.ptr b 0] (one b [li cY ys,.int .i64 p]) (fun c=>((zacg p c).1.2,one b [li cY ys,.int .i64 (zacg p c).2])):=by
  refine SpecR.of_walk Tryz.func97 rfl (by simp [Tryz.f97]) fun B=>?_
  (repeat' (first
 | refine Qt ?_
 | refine Qc (id:=1) Zm [] (by kernel_rfl) ?_;simp [-zg,-zd,↓Qb,↓Qa,go_sem,hl,(show 0 ≤ p by omega),(show p ≤ 1000000 by omega),(show 0 ≤ p + 1 by omega),(show p + 1 ≤ 1000000 by omega)]
 | refine Qc (id:=2) Zm [] (by kernel_rfl) ?_;simp [-zg,-zd,↓Qb,↓Qa,go_sem,hl,(show 0 ≤ p + 1 by omega),(show p + 1 ≤ 1000000 by omega),(show 0 ≤ p + 1 + 1 by omega),(show p + 1 + 1 ≤ 1000000 by omega),(show p + 1 + 2000 ≤ 1000000 by omega)];try ((intro c2 c2');(have z0:=l2System_ok (p + 1) c2);(generalize Vl (p + 1) c2 = z at *);(obtain ⟨-,z1,z2⟩:=z0);(obtain ⟨⟨init,ps⟩,p2⟩:=z);(dsimp only at z1 z2);(have y0:=BuildGraph_ok init ps c2');(generalize zaho init ps c2' = y at *);(obtain ⟨⟨ga,gc⟩,gk⟩:=y);(simp only [zaax] at y0);(refine Qy 3 ?_);(simp [go_sem]);(have fl2:True ∧ True:=⟨trivial,trivial⟩))
 | refine Qc (id:=3) Zm [20] (by kernel_rfl) ?_;simp [-zg,-zd,↓Qb,↓Qa,go_sem];try (refine ⟨fun s3a=>?_,fun s3a=>?_⟩ <;> (try simp [B_iff,B_not] at s3a) <;> try (refine ⟨fun s3b=>?_,fun s3b=>?_⟩ <;> (try simp [B_iff,B_not] at s3b)))
 | refine Qc (id:=5) Zm [] (by kernel_rfl) ?_;simp [-zg,-zd,↓Qb,↓Qa,go_sem];try ((refine AW_boxNil0N 5 2 rfl ?_);(refine zagw 5 1 rfl ?_);(refine Xs 5 rfl fun gb hgb=>?_);(have hbg:¬ b = gb:=(by rintro rfl;simp [upd] at hgb));(clear hgb);(refine Xw gb 0 (all:=[.fr 2 0 [],.fr 1 0 []]) (by simp [upd]) rfl fun xb cp jx hx hcx hdx=>?_);(have n1:¬ gb = xb:=(by rintro rfl;simp [upd] at hx));(have n2:¬ b = xb:=(by rintro rfl;simp [upd,hbg] at hx));(clear hx);first | (rename True ∧ True=>k_;refine Qp (fun H1=>H1 b = some [.list ys.length (cat cY ys),.int .i64 (p2)] ∧ H1 gb = some [.sl xb 2 0 0 cp,.fr 1 0 []] ∧ H1 xb = some (cat oP ([]:List Ints2) ++ zrP jx .any)) ⟨by simp [upd,hbg,n2,zS n2],by simp [upd,n1,zS n1],by simp [upd,Xb]⟩ fun H1 ⟨w1,w2,w3⟩=>?_;obtain ⟨p0,hp0⟩:∃ p0,p2 = p0:=⟨_,rfl⟩;rw [hp0] at w1;have hq0:p + 1 ≤ p0 ∧ p0 ≤ p + 2001:=(by omega)) | (refine Qp (fun H1=>H1 b = some [.list ys.length (cat cY ys),.int .i64 (p + 1)] ∧ H1 gb = some [.sl xb 2 0 0 cp,.fr 1 0 []] ∧ H1 xb = some (cat oP ([]:List Ints2) ++ zrP jx .any)) ⟨by simp [upd,hbg,n2,zS n2],by simp [upd,n1,zS n1],by simp [upd,Xb]⟩ fun H1 ⟨w1,w2,w3⟩=>?_;obtain ⟨p0,hp0⟩:∃ p0,p + 1 = p0:=⟨_,rfl⟩;rw [hp0] at w1;have hq0:p + 1 ≤ p0 ∧ p0 ≤ p + 2001:=(by omega)))
 | refine Qc (id:=6) Zm [] (by kernel_rfl) ?_;simp [-zg,-zd,↓Qb,↓Qa,go_sem,w1,hl,(show 0 ≤ p0 by omega),(show p0 ≤ 1000000 by omega),(show 0 ≤ p0 + 1 by omega),(show p0 + 1 ≤ 1000000 by omega)];try ((have hr:=Jx ys (p:=p0) (by omega) (xs:=[3,4,2,5,1,6]) (lo:=1) (hi:=6) (by simp) (by simp));(generalize numI ys p0 [3,4,2,5,1,6] = kk at *))
 | ((obtain ⟨f0,f1,f2,f3,f4,f5,g7,g8,g9,ga1,gb1,gc1⟩:=hq));refine Qc (id:=7) Zm [] (by kernel_rfl) ?_;simp [-zg,-zd,↓Qb,↓Qa,go_sem]
 | refine Xr (id:=9) Zm mixed [(gb,[.sl q.xb 2 0 q.xs.length q.cp,.fr 1 0 []])] [] [0] (by kernel_rfl) (by kernel_rfl) ?_ ?_ ?_ <;> simp [-zg,-zd,↓Qb,↓Qa,go_sem,ga1,gb1,gc1,hl,hbg,zS hbg,g7,zS g7,g8,zS g8,(show 0 ≤ q.q by omega),(show q.q ≤ 1000000 by omega),(show 0 ≤ q.q + 1 by omega),(show q.q + 1 ≤ 1000000 by omega),(show 0 ≤ q.q + 1 + 1 by omega),(show q.q + 1 + 1 ≤ 1000000 by omega),g9,(show q.xs.length ≤ 9223372036854775806 by omega),(show 2 * (q.xs.length + 1) * 48 ≤ 281474976710656 by omega)];try ((refine Xw gb 0 (all:=[.fr 2 (q.xs.length + 1) (cat oP q.xs ++ [.fr 1 1 [.int .i64 (q.i.tmod 3)],.fr 1 3 [.int .i64 (pkI ys q.q 3),.int .i64 (pkI ys (q.q + 1) 2),.int .i64 0]]),.fr 1 0 []]) (by simp [upd,hbg,zS hbg,g7,zS g7,g8,zS g8]) rfl fun xb2 cp2 jx2 hx2 hcx2 hdx2=>?_);(have m1:¬ gb = xb2:=(by intro e;rw [← e] at hx2;simp [upd] at hx2));(have m2:¬ b = xb2:=(by intro e;rw [← e] at hx2;simp [upd,hbg,zS hbg,g7,zS g7,g8,zS g8] at hx2));(clear hx2);(refine Qp (fun H2=>H2 b = some [.list ys.length (cat cY ys),.int .i64 (q.q + 1 + 1)] ∧ H2 gb = some [.sl xb2 2 0 (q.xs ++ [((([q.i.tmod 3],[pkI ys q.q 3,pkI ys (q.q + 1) 2,0])):Ints2)]).length cp2,.fr 1 0 []] ∧ H2 xb2 = some (cat oP (q.xs ++ [((([q.i.tmod 3],[pkI ys q.q 3,pkI ys (q.q + 1) 2,0])):Ints2)]) ++ zrP jx2 .any)) ⟨by simp [upd,m1,m2,hbg,zS hbg,g7,zS g7,g8,zS g8],by simp [upd,m1],by simp [upd,Xk,Xg,oP,fr,Xe,Xb,cI]⟩ fun H2 ⟨s1,s2,s3⟩=>?_);(have v2:LGi ys b gb p0 ⟨q.xs ++ [((([q.i.tmod 3],[pkI ys q.q 3,pkI ys (q.q + 1) 2,0])):Ints2)],q.i - 1,q.q + 1 + 1,xb2,cp2,jx2,H2⟩:=⟨by dsimp only;omega,by dsimp only;omega,by simp;omega,by dsimp only;omega,by dsimp only;omega,(fun s hs=>by rcases List.mem_append.1 hs with h | h;exact f5 s h;simp at h;subst h;simp),m1,m2,by simp;omega,s1,s2,s3⟩))
 | refine Qc (id:=8) Zm [] (by kernel_rfl) ?_;simp [-zg,-zd,↓Qb,↓Qa,go_sem,Xa (x:=q.i - 1) (by omega) (by omega)]
 | refine Qc (id:=11) Zm [] (by kernel_rfl) ?_;simp [-zg,-zd,↓Qb,↓Qa,go_sem,r7,hbg,zS hbg,g7,zS g7,g8,zS g8]
 | refine Qc (id:=13) Zm [] (by kernel_rfl) ?_;simp [-zg,-zd,↓Qb,↓Qa,go_sem,r6,r7,hl,hbg,zS hbg,g7,zS g7,g8,zS g8,(show 0 ≤ r.2.2.1 by omega),(show r.2.2.1 ≤ 1000000 by omega),(show 0 ≤ r.2.2.1 + 1 by omega),(show r.2.2.1 + 1 ≤ 1000000 by omega),(show (q.xs.length:Int) ≤ 1000000 by omega)];try ((generalize pkI ys r.2.2.1 q.xs.length = yy at *);(refine Zb 8 rfl fun lb cl jl hlb hcl hdl=>?_);(have u1:¬ gb = lb:=(by intro e;rw [← e] at hlb;simp [upd,hbg,zS hbg,g7,zS g7,g8,zS g8,r7] at hlb));(have u2:¬ b = lb:=(by intro e;rw [← e] at hlb;simp [upd,hbg,zS hbg,g7,zS g7,g8,zS g8] at hlb));(have u3:¬ q.xb = lb:=(by intro e;rw [← e] at hlb;simp [upd,hbg,zS hbg,g7,zS g7,g8,zS g8,r8] at hlb));(clear hlb);(refine Qp (fun H3=>H3 b = some [.list ys.length (cat cY ys),.int .i64 (r.2.2.1 + 1)] ∧ H3 gb = some [.sl q.xb 2 0 q.xs.length q.cp,.fr 1 r.1.length (cat cL r.1)] ∧ H3 q.xb = some (cat oP q.xs ++ zrP q.j .any) ∧ H3 lb = some (cat cI [yy] ++ zrP jl .any)) ⟨by simp [upd,hbg,zS hbg,g7,zS g7,g8,zS g8,u2],by simp [upd,hbg,zS hbg,g7,zS g7,g8,zS g8,u1,r7],by simp [upd,hbg,zS hbg,g7,zS g7,g8,zS g8,u3,r8],by simp [upd,Xg,cI]⟩ fun H3 ⟨h1,h2,h3,h4⟩=>?_))
 | refine Qc (id:=14) Zm [] (by kernel_rfl) ?_;simp [-zg,-zd,↓Qb,↓Qa,go_sem,h1,h2,hl,hbg,zS hbg,g7,zS g7,g8,zS g8,(show 0 ≤ r.2.2.1 + 1 by omega),(show r.2.2.1 + 1 ≤ 1000000 by omega),(show 0 ≤ r.2.2.1 + 1 + 1 by omega),(show r.2.2.1 + 1 + 1 ≤ 1000000 by omega),(show (q.xs.length:Int) ≤ 1000000 by omega)];try ((generalize pkI ys (r.2.2.1 + 1) q.xs.length = xx at *))
 | refine Qc (id:=15) Zm [70] (by kernel_rfl) ?_;simp [-zg,-zd,↓Qb,↓Qa,go_sem,h1,h2,h3,h4,hl,hbg,zS hbg,g7,zS g7,g8,zS g8,u1,u2,u3,zS u1,zS u2,zS u3,(show 0 ≤ r.2.2.1 + 1 + 1 by omega),(show r.2.2.1 + 1 + 1 ≤ 1000000 by omega),(show 0 ≤ r.2.2.1 + 1 + 1 + 1 by omega),(show r.2.2.1 + 1 + 1 + 1 ≤ 1000000 by omega),Xg,cI];try (refine ⟨fun s15a=>?_,fun s15a=>?_⟩ <;> (try simp [B_iff,B_not] at s15a) <;> try (refine ⟨fun s15b=>?_,fun s15b=>?_⟩ <;> (try simp [B_iff,B_not] at s15b)))
 | refine Qc (id:=16) Zm [] (by kernel_rfl) ?_;simp [-zg,-zd,↓Qb,↓Qa,go_sem,h1,h2,h3,h4,hbg,zS hbg,g7,zS g7,g8,zS g8,u1,u2,u3,zS u1,zS u2,zS u3,Xg,cI,(show cl ≤ jl + 1 by omega)];try ((have fl16:True ∧ True ∧ True:=⟨trivial,trivial,trivial⟩);(refine Qp (fun H4=>H4 b = some [.list ys.length (cat cY ys),.int .i64 (r.2.2.1 + 1 + 1 + 1)] ∧ H4 gb = some [.sl q.xb 2 0 q.xs.length q.cp,.fr 1 r.1.length (cat cL r.1)] ∧ H4 q.xb = some (cat oP q.xs ++ zrP q.j .any)) ⟨by simp [upd,hbg,zS hbg,g7,zS g7,g8,zS g8,u2,zS u2],by simp [upd,hbg,zS hbg,g7,zS g7,g8,zS g8,u1,zS u1,h2],by simp [upd,hbg,zS hbg,g7,zS g7,g8,zS g8,u3,zS u3,h3]⟩ fun H4 ⟨k1,k2,k3⟩=>?_);(refine Qy 8 ?_);(simp [go_sem,dat,Qz]))
 | (first | (refine Zz 8 (b:=lb) (sz:=1) (m:=1) (cp:=cl) (all:=cat cI [yy] ++ zrP jl .any) rfl (by simp [upd,zS u2,h4]) (by omega) (by simp [Qv]) (by simp [Qv];omega) ?_;refine Qp (fun H4=>H4 b = some [.list ys.length (cat cY ys),.int .i64 (r.2.2.1 + 1 + 1 + 1)] ∧ H4 gb = some [.sl q.xb 2 0 q.xs.length q.cp,.fr 1 r.1.length (cat cL r.1)] ∧ H4 q.xb = some (cat oP q.xs ++ zrP q.j .any)) ⟨by simp [upd,hbg,zS hbg,g7,zS g7,g8,zS g8,u2,zS u2],by simp [upd,hbg,zS hbg,g7,zS g7,g8,zS g8,u1,zS u1,h2],by simp [upd,hbg,zS hbg,g7,zS g7,g8,zS g8,u3,zS u3,h3]⟩ fun H4 ⟨k1,k2,k3⟩=>?_;refine Qy 8 ?_;simp [go_sem,dat,Qz,Xg,cI]) | skip);refine Qc (id:=17) Zm [] (by kernel_rfl) ?_;simp [-zg,-zd,↓Qb,↓Qa,go_sem,k1,k2,k3,hbg,zS hbg,g7,zS g7,g8,zS g8,(show r.1.length ≤ 9223372036854775806 by omega),(show 2 * (r.1.length + 1) * 24 ≤ 281474976710656 by omega)];try (first | (rename True ∧ True ∧ True=>k_;refine Qp (fun H5=>H5 b = some [.list ys.length (cat cY ys),.int .i64 (r.2.2.1 + 1 + 1 + 1)] ∧ H5 gb = some [.sl q.xb 2 0 q.xs.length q.cp,.fr 1 (r.1 ++ [[yy,xx]]).length (cat cL (r.1 ++ [[yy,xx]]))] ∧ H5 q.xb = some (cat oP q.xs ++ zrP q.j .any)) ⟨by simp [upd,k1,hbg,zS hbg,g7,zS g7,g8,zS g8],by simp [upd,hbg,zS hbg,g7,zS g7,g8,zS g8,Xk,Xg,cL,li,Xe,cI,Xb],by simp [upd,k3,hbg,zS hbg,g7,zS g7,g8,zS g8]⟩ fun H5 ⟨e1,e2,e3⟩=>?_;have v5:∀ l ∈ r.1 ++ [[yy,xx]],l.length ≤ 2:=(fun l hl=>by rcases List.mem_append.1 hl with h | h;exact r3 l h;simp at h;subst h;simp);generalize [yy,xx] = l5 at *) | (refine Qp (fun H5=>H5 b = some [.list ys.length (cat cY ys),.int .i64 (r.2.2.1 + 1 + 1 + 1)] ∧ H5 gb = some [.sl q.xb 2 0 q.xs.length q.cp,.fr 1 (r.1 ++ [[yy]]).length (cat cL (r.1 ++ [[yy]]))] ∧ H5 q.xb = some (cat oP q.xs ++ zrP q.j .any)) ⟨by simp [upd,k1,hbg,zS hbg,g7,zS g7,g8,zS g8],by simp [upd,hbg,zS hbg,g7,zS g7,g8,zS g8,Xk,Xg,cL,li,Xe,cI,Xb],by simp [upd,k3,hbg,zS hbg,g7,zS g7,g8,zS g8]⟩ fun H5 ⟨e1,e2,e3⟩=>?_;have v5:∀ l ∈ r.1 ++ [[yy]],l.length ≤ 2:=(fun l hl=>by rcases List.mem_append.1 hl with h | h;exact r3 l h;simp at h;subst h;simp);generalize [yy] = l5 at *))
 | refine Qc (id:=12) Zm [] (by kernel_rfl) ?_;simp [-zg,-zd,↓Qb,↓Qa,go_sem,wrapS (k:=r.2.1) (by omega)]
 | ((refine Xu gb 0 (b':=q.xb) (sz:=2) (m:=q.xs.length) (cp:=q.cp) (all:=[.sl q.xb 2 0 q.xs.length q.cp,.fr 1 r.1.length (cat cL r.1)]) (cs:=cat oP q.xs ++ zrP q.j .any) r7 rfl g7 r8 (by omega) (by simp [Qv]) (by simp [Qv];omega) ?_));refine Qc (id:=18) Zm [] (by kernel_rfl) ?_;simp [-zg,-zd,↓Qb,↓Qa,go_sem,hbg,zS hbg,g7,zS g7,g8,zS g8]
 | (refine Qe (id:=0) (Qw (ι:=LG) (fun q:LG=>⟨(upd (upd (upd (upd (fun _=>.any) 0 (.ptr b 0)) 2 (.box [.nil,.nil])) 5 (.ptr gb 0)) 6 (.int .i64 q.i)),q.H⟩) (fun q=>LGi ys b gb p0 q) (fun q=>q.i.toNat) (⟨[],kk,p0 + 1,xb,cp,jx,upd H1 b (some [.list ys.length (cat cY ys),.int .i64 (p0 + 1)])⟩) ?_ ?_ ?_);exact ⟨by dsimp only;omega,by dsimp only;omega,by simp;omega,by dsimp only;omega,by dsimp only;omega,by simp,n1,n2,by simpa using hdx,by simp [upd],by simp [upd,zS hbg,w2],by simp [upd,zS n2,w3]⟩;((repeat' (first | exact Qg (by assumption) | exact Qi | refine Qf ?_ ?_ | refine Qh ?_)) <;> simp [-zg,-zd,↓Qb,↓Qa,go_sem]);rintro q hq)
 | (refine ⟨⟨q.xs ++ [((([q.i.tmod 3],[pkI ys q.q 3,pkI ys (q.q + 1) 2,0])):Ints2)],q.i - 1,q.q + 1 + 1,xb2,cp2,jx2,H2⟩,v2,by first | omega | (simp;done) | (simp;omega),?_⟩;((repeat' (first | exact Qg (by assumption) | exact Qi | refine Qf ?_ ?_ | refine Qh ?_)) <;> simp [-zg,-zd,↓Qb,↓Qa,go_sem,]))
 | (refine Qe (id:=2) (Qw (ι:=List (List Int) × Nat × Int × Hp) (fun r:List (List Int) × Nat × Int × Hp=>⟨(upd (upd (upd (upd (fun _=>.any) 0 (.ptr b 0)) 2 (.box [.nil,.nil])) 5 (.ptr gb 0)) 7 (.int .i64 r.2.1)),r.2.2.2⟩) (fun r=>r.2.1 ≤ q.xs.length ∧ r.1.length = r.2.1 ∧ (∀ l ∈ r.1,l.length ≤ 2) ∧ q.q ≤ r.2.2.1 ∧ r.2.2.1 ≤ q.q + r.2.1 * 3 ∧ r.2.2.2 b = some [.list ys.length (cat cY ys),.int .i64 r.2.2.1] ∧ r.2.2.2 gb = some [.sl q.xb 2 0 q.xs.length q.cp,.fr 1 r.1.length (cat cL r.1)] ∧ r.2.2.2 q.xb = some (cat oP q.xs ++ zrP q.j .any)) (fun r=>q.xs.length - r.2.1) (([],0,q.q,q.H)) ?_ ?_ ?_);exact ⟨Nat.zero_le _,rfl,by simp,by dsimp only;omega,by dsimp only;omega,ga1,by simpa [Xb] using gb1,gc1⟩;((repeat' (first | exact Qg (by assumption) | exact Qi | refine Qf ?_ ?_ | refine Qh ?_)) <;> simp [-zg,-zd,↓Qb,↓Qa,go_sem]);rintro r ⟨r1,r2,r3,r4,r5,r6,r7,r8⟩)
 | (refine ⟨(r.1 ++ [l5],r.2.1 + 1,r.2.2.1 + 1 + 1 + 1,H5),⟨by dsimp only;omega,by simp;omega,v5,by dsimp only;omega,by dsimp only;omega,e1,e2,e3⟩,by first | omega | (simp;done) | (simp;omega),?_⟩;((repeat' (first | exact Qg (by assumption) | exact Qi | refine Qf ?_ ?_ | refine Qh ?_)) <;> simp [-zg,-zd,↓Qb,↓Qa,go_sem,]))
 | (refine Qe ?_)
 | (refine Qs ?_;simp [-zg,-zd,↓Qb,↓Qa,go_sem])
 | (refine Qr ?_;simp [-zg,-zd,↓Qb,↓Qa,go_sem])
 | (refine Qq ?_;try simp [-zg,-zd,↓Qb,↓Qa,go_sem,Tryz.results97])
 | (intro hx;refine zA ?_)
 | (intro hx;change retR _ _ _ _ _)
 | (refine ⟨?_,?_⟩ <;> refine zA ?_)
 | (intro hx;constructor <;> intro hs)
 | (constructor <;> intro hs)
 | (refine ⟨?_,fun hs=>?_⟩;refine zA ?_)
 | (refine ⟨fun hs=>?_,?_⟩;rotate_left;refine zA ?_;rotate_left)
 | ((fail_if_success change retR _ _ _ _ _);(exfalso;omega))
 | (refine Qj ?_;simp [-zg,-zd,↓Qb,↓Qa,go_sem];try first | (refine ⟨?_,?_⟩ <;> refine zA ?_) | (refine ⟨fun cz=>?_,fun cz=>?_⟩ <;> (try simp [B_iff,B_not] at cz)))
 | (refine Qc Zm [] (by kernel_rfl) ?_;simp [-zg,-zd,↓Qb,↓Qa,go_sem])
 | fail))
  all_goals (first
 | (refine zauh _ _ _ ((ga,gc)) (p2) ?_ ?_ ?_ ?_;(first | exact Or.inl rfl | exact Or.inr rfl);(focus (simp [-zg,-zd,↓Qb,↓Qa,go_sem,Tryz.results97,dat,Qz,li,Xx];done));(focus ((exact ⟨y0.1,y0.2 (by assumption)⟩);done));(focus (refine ⟨?_,?_⟩ <;> omega)))
 | (refine zauh _ _ _ ((q.xs,r.1)) (r.2.2.1) ?_ ?_ ?_ ?_;(first | exact Or.inl rfl | exact Or.inr rfl);(focus (simp [-zg,-zd,↓Qb,↓Qa,go_sem,Tryz.results97,dat,Qz,li,Xx,oP_dat,r6,hbg,zS hbg,g7,zS g7,g8,zS g8];done));(focus ((exact ⟨⟨by dsimp only;omega,by dsimp only;omega,fun s hs=>by have:=f5 s hs;omega,fun l hl=>by have:=r3 l hl;omega⟩,by dsimp only;omega,by dsimp only;omega⟩);done));(focus (refine ⟨?_,?_⟩ <;> omega)))
 | skip)
@[go_sem] def l4GraphC:Con:=.rel fun args H=>match args with
  | [.ptr b 0]=>match H b with
    | some [.list m cs,.int .i64 p]=>((Is cY m cs) ∧ (m ≤ 2000) ∧ (0 ≤ p) ∧ (p + 2100 ≤ 1000000),fun c=>(Us (Xo p c).1,upd H b (some [.list m cs,.int .i64 (Xo p c).2])))
    | _=>(False,fun _=>(.any,H))
  | _=>(False,fun _=>(.any,H))
theorem zauj:ConOk Tryz.prog 97 l4GraphC:=by
  refine ⟨Qo Tryz.func97 (by decide) rfl,fun args H h=>?_⟩
  revert h
  dsimp only
  split
  · split
    · rename_i hH
      intro h
      obtain ⟨⟨ys,rfl,rfl⟩,hl,h0_,hp_⟩:=h
      try simp only [Qm] at *
      exact SpecR.enc ((l4Graph_spec ys _ _ hl h0_ hp_ ).frame hH).shut fun c=>Prod.ext (zaui  _ _).2.symm rfl
    · intro h;exact h.elim
  · intro h
    exact h.elim
@[go_sem] def Γe30:FuncId → Con:=ext Γe29 97 l4GraphC
theorem zape:∀ g,ConOk Tryz.prog g (Γe30 g):=Qn Zm zauj


theorem oL_dat:∀ xs:List (List Int),(cat oL xs).map dat = cat cL xs
  | []=>rfl
  | x :: xs=>by rw [Xe,Xe,List.map_append,oL_dat xs];simp [oL,cL,fr,dat,Qz,Xx,li]
def upto (n:Nat):List Int:=(List.range n).map Int.ofNat
theorem zajy (n:Nat):(upto n).length = n:=by simp [upto]
theorem upto_succ (n:Nat):upto (n + 1) = upto n ++ [(n:Int)]:=by simp [upto,List.range_succ]
theorem zatv (n:Nat):Places n (upto n):=fun i hi=>by
  rw [zajy] at hi
  rw [Xc (by rw [zajy];exact hi)]
  simp [upto];omega
theorem upto_cat (n:Nat):cat cI (upto n) ++ [D.int .i64 (n:Int)] = cat cI (upto (n + 1)):=by rw [upto_succ,Xk,Xg];rfl

theorem l4Count_pure (n:Int) (h0:0 ≤ n) (h1:n ≤ 1000000):Pure Tryz.prog 168 [.int .i64 n] (fr 1 cI (upto n.toNat)):=by
  refine Pure.of_walk Tryz.func168 rfl (by simp [Tryz.f168]) (by simp [-zd,go_sem]) fun B hK=>?_
  (repeat' (first
 | refine Qt ?_
 | refine Qc (id:=5) zape [] (by kernel_rfl) ?_;simp [-zg,-zd,↓Qb,↓Qa,go_sem,(show i ≤ 9223372036854775806 by omega),(show 2 * (i + 1) * 8 ≤ 281474976710656 by omega),(show i + 1 ≤ 9223372036854775807 by omega),upto_cat,zajy]
 | refine Qc (id:=4) zape [] (by kernel_rfl) ?_;simp [-zg,-zd,↓Qb,↓Qa,go_sem,wrapS (k:=i) (by omega)]
 | ((obtain rfl:i = n.toNat:=by omega));refine Qc (id:=6) zape [] (by kernel_rfl) ?_;simp [-zg,-zd,↓Qb,↓Qa,go_sem,zajy]
 | (refine Qe (id:=0) (Qw (ι:=Nat) (fun i:Nat=>⟨(upd (upd (upd (fun _=>.any) 0 (.int .i64 n)) 3 (.fr 1 i (cat cI (upto i)))) 4 (.int .i64 i)),fun _=>none⟩) (fun i=>(i:Int) ≤ n) (fun i=>n.toNat - i) (0) ?_ ?_ ?_);exact (by omega);((repeat' (first | exact Qg (by assumption) | exact Qi | refine Qf ?_ ?_ | refine Qh ?_)) <;> simp [-zg,-zd,↓Qb,↓Qa,go_sem,upto]);rintro i hi)
 | (refine ⟨i + 1,(by omega),by first | omega | (simp;done) | (simp;omega),?_⟩;((repeat' (first | exact Qg (by assumption) | exact Qi | refine Qf ?_ ?_ | refine Qh ?_)) <;> simp [-zg,-zd,↓Qb,↓Qa,go_sem,upto_cat]))
 | (refine Qe ?_)
 | (refine Qs ?_;simp [-zg,-zd,↓Qb,↓Qa,go_sem])
 | (refine Qr ?_;simp [-zg,-zd,↓Qb,↓Qa,go_sem])
 | (refine Qq ?_;simp [-zg,-zd,↓Qb,↓Qa,go_sem,Tryz.results168])
 | (intro hx;refine zA ?_)
 | (refine ⟨?_,?_⟩ <;> refine zA ?_)
 | (intro hx;constructor <;> intro hs)
 | (constructor <;> intro hs)
 | (refine ⟨?_,fun hs=>?_⟩;refine zA ?_)
 | (refine ⟨fun hs=>?_,?_⟩;rotate_left;refine zA ?_;rotate_left)
 | (refine Qj ?_;simp [-zg,-zd,↓Qb,↓Qa,go_sem];try first | (refine ⟨?_,?_⟩ <;> refine zA ?_) | (refine ⟨fun cz=>?_,fun cz=>?_⟩ <;> (try simp [B_iff,B_not] at cz)))
 | (refine Qc zape [] (by kernel_rfl) ?_;simp [-zg,-zd,↓Qb,↓Qa,go_sem])
 | fail))
@[go_sem] def zaih:Con:=.pure fun
  | [.int .i64 n]=>((0 ≤ n) ∧ (n ≤ 1000000),fr 1 cI (upto n.toNat))
  | _=>(False,.any)
theorem zarf:ConOk Tryz.prog 168 zaih:=by
  refine ⟨Qo Tryz.func168 (by decide) rfl,fun args h=>?_⟩
  revert h
  dsimp only
  split
  · intro h
    obtain ⟨h0,h1⟩:=h
    skip
    exact ⟨l4Count_pure _ h0 h1,by simp [go_sem]⟩
  · intro h
    exact h.elim
@[go_sem] def Γe31:FuncId → Con:=ext Γe30 168 zaih
theorem zamc:∀ g,ConOk Tryz.prog g (Γe31 g):=Qn zape zarf

def SubL {α:Type} (a xs:List α):Prop:=∀ s ∈ xs,s ∈ a
theorem SubL.snoc {α:Type} {a xs:List α} {s:α} (h:SubL a xs) (hs:s ∈ a):SubL a (xs ++ [s]):=fun x hx=>by
  rcases List.mem_append.1 hx with h1 | h1
  · exact h x h1
  · simp at h1;subst h1;exact hs
def SubL.pick (a:List Ints2) (ys:List Int):List Ints2:=ys.map fun y=>nth a y.toNat
theorem SubL.map {a:List Ints2} {ys:List Int} (hp:Places a.length ys):SubL a (SubL.pick a ys):=fun s h=>by
  obtain ⟨y,hy,rfl⟩:=List.mem_map.1 h
  obtain ⟨i,hi,e⟩:=List.getElem_of_mem hy
  have:=(hp.at hi).2.2
  rw [Xc hi,e] at this
  exact Xz this
def LenS (N:Nat) (a:List Ints2):Prop:=∀ s ∈ a,s.1.length ≤ N ∧ s.2.length ≤ N
def LenL (N:Nat) (b:List (List Int)):Prop:=∀ l ∈ b,l.length ≤ N
def Ub (a:List Ints2) (b:List (List Int)):Prop:=a.length ≤ 1000 ∧ b.length ≤ 1000 ∧ LenS 100000 a ∧ LenL 100000 b

@[go_sem] def zads:List Ints2 → D:=fun x=>fr 2 oP x
def zaee (a:List Ints2) (bb:List (List Int)) (ys:List Int):List Ints2 → Prop:=fun x=>x.length = ys.length ∧ SubL a x
def zafd (a:List Ints2) (bb:List (List Int)) (ys:List Int) (c:Any):List Ints2:=sel (zaee a bb ys) (SubL.pick a ys) c
theorem l4States_ok (a:List Ints2) (bb:List (List Int)) (ys:List Int) (hn:ys.length ≤ 1000) (hp:Places a.length ys) (hs:LenS 100000 a) (c:Any):zaee a bb ys (zafd a bb ys c):=Xl (p:=zaee a bb ys) (x0:=SubL.pick a ys) (⟨by simp [SubL.pick],SubL.map hp⟩) c
theorem l4States_ret (a:List Ints2) (bb:List (List Int)) (ys:List Int) {e_:Exit} {S_:St} (x:List Ints2) (he_:e_ = .ret ∨ e_ = .normal)
    (h1:(Qd Tryz.prog S_ Tryz.f167.results.toList).1 ∧ resD (Qd Tryz.prog S_ Tryz.f167.results.toList).2.1 = zads x) (hg:zaee a bb ys x) :
    retR Tryz.prog Tryz.f167 (fun c=>(zads (zafd a bb ys c),fun _=>none)) e_ S_:=Xi (enc:=zads) x he_ h1 hg
set_option maxHeartbeats 4000000 in
theorem l4States_pure (a:List Ints2) (bb:List (List Int)) (ys:List Int) (hn:ys.length ≤ 1000) (hp:Places a.length ys) (hs:LenS 100000 a):PureR Tryz.prog 167 [.st [li cP a,li cL bb],li cI ys] (fun c=>zads (zafd a bb ys c)):=by
  refine PureR.of_walk Tryz.func167 rfl (by simp [Tryz.f167]) (fun c=>by simp [-zd,go_sem]) fun B hK=>?_
  (repeat' (first
 | refine Qt ?_
 | refine Qc (id:=0) zamc [] (by kernel_rfl) ?_;simp [-zg,-zd,↓Qb,↓Qa,go_sem];try (refine Qy 2 ?_;simp [go_sem])
 | ((obtain ⟨p1,p2,p3⟩:=hp.at c12);(have hsi:=hs _ (Xz p3)));refine Xn (id:=5) zamc mixed [] [] (by kernel_rfl) (by kernel_rfl) ?_ ?_ <;> simp [-zg,-zd,↓Qb,↓Qa,go_sem,c12,Qk c12,zsP c12,p1,p2,p3,Qk p3,zsP p3];try (refine Qy 7 ?_;simp [go_sem])
 | refine Xn (id:=6) zamc mixed [] [7] (by kernel_rfl) (by kernel_rfl) ?_ ?_ <;> simp [-zg,-zd,↓Qb,↓Qa,go_sem,(show (nth a (nth ys q.2).toNat).1.length ≤ 9223372036854775807 by omega),(show 2 * (nth a (nth ys q.2).toNat).1.length * 8 ≤ 281474976710656 by omega),(show (nth a (nth ys q.2).toNat).2.length ≤ 9223372036854775807 by omega),(show 2 * (nth a (nth ys q.2).toNat).2.length * 8 ≤ 281474976710656 by omega),(show q.1.length ≤ 9223372036854775806 by omega),(show 2 * (q.1.length + 1) * 48 ≤ 281474976710656 by omega),(show q.1.length + 1 ≤ 9223372036854775807 by omega)]
 | refine Qc (id:=4) zamc [] (by kernel_rfl) ?_;simp [-zg,-zd,↓Qb,↓Qa,go_sem,wrapS (k:=q.2) (by omega)]
 | refine Qj (c:=.tmp 12) ?_;simp [-zg,-zd,↓Qb,↓Qa,go_sem];try first | (refine ⟨?_,?_⟩ <;> refine zA ?_) | (refine ⟨fun c12=>?_,fun c12=>?_⟩ <;> (try simp [B_iff,B_not] at c12))
 | (refine Qe (id:=0) (Qw (ι:=List Ints2 × Nat) (fun q:List Ints2 × Nat=>⟨(upd (upd (upd (upd (fun _=>.any) 1 (li cI ys)) 2 (.pd [li cP a,li cL bb])) 5 (.fr 2 q.1.length (cat oP q.1))) 6 (.int .i64 q.2)),fun _=>none⟩) (fun q=>q.2 ≤ ys.length ∧ q.1.length = q.2 ∧ SubL a q.1) (fun q=>ys.length - q.2) (([],0)) ?_ ?_ ?_);exact ⟨Nat.zero_le _,rfl,fun _ h=>by cases h⟩;((repeat' (first | exact Qg (by assumption) | exact Qi | refine Qf ?_ ?_ | refine Qh ?_)) <;> simp [-zg,-zd,↓Qb,↓Qa,go_sem,cat]);rintro q ⟨g1,g2,g3⟩)
 | (refine ⟨(q.1 ++ [nth a (nth ys q.2).toNat],q.2 + 1),⟨by dsimp only;omega,by simp;omega,g3.snoc (Xz p3)⟩,by first | omega | (simp;done) | (simp;omega),?_⟩;((repeat' (first | exact Qg (by assumption) | exact Qi | refine Qf ?_ ?_ | refine Qh ?_)) <;> simp [-zg,-zd,↓Qb,↓Qa,go_sem,Xk,Xg,oP,fr]))
 | (refine Qe ?_)
 | (refine Qs ?_;simp [-zg,-zd,↓Qb,↓Qa,go_sem])
 | (refine Qr ?_;simp [-zg,-zd,↓Qb,↓Qa,go_sem])
 | (refine Qq ?_;try simp [-zg,-zd,↓Qb,↓Qa,go_sem,Tryz.results167])
 | (intro hx;refine zA ?_)
 | (intro hx;change retR _ _ _ _ _)
 | (refine ⟨?_,?_⟩ <;> refine zA ?_)
 | (intro hx;constructor <;> intro hs)
 | (constructor <;> intro hs)
 | (refine ⟨?_,fun hs=>?_⟩;refine zA ?_)
 | (refine ⟨fun hs=>?_,?_⟩;rotate_left;refine zA ?_;rotate_left)
 | (refine Qc zamc [] (by kernel_rfl) ?_;simp [-zg,-zd,↓Qb,↓Qa,go_sem])
 | fail))
  all_goals (first
 | (refine l4States_ret _ _ _ ((q.1)) ?_ ?_ ?_;(first | exact Or.inl rfl | exact Or.inr rfl);(focus (simp [-zg,-zd,↓Qb,↓Qa,go_sem,Tryz.results167,fr];done));(focus ((exact ⟨by omega,g3⟩);done)))
 | skip)
@[go_sem] def l4StatesC:Con:=.prel fun
  | [.st [.list n_a c_a,.list n_bb c_bb],.list n_ys c_ys]=>((Is cP n_a c_a) ∧ (Is cL n_bb c_bb) ∧ (Is cI n_ys c_ys) ∧ ((de cI c_ys).length ≤ 1000) ∧ (Places (de cP c_a).length (de cI c_ys)) ∧ (LenS 100000 (de cP c_a)),fun c=>zads (zafd (de cP c_a) (de cL c_bb) (de cI c_ys) c))
  | _=>(False,fun _=>.any)
theorem l4StatesC_ok:ConOk Tryz.prog 167 l4StatesC:=by
  refine ⟨Qo Tryz.func167 (by decide) rfl,fun args h=>?_⟩
  revert h
  dsimp only
  split
  · intro h
    obtain ⟨⟨a,rfl,rfl⟩,⟨bb,rfl,rfl⟩,⟨ys,rfl,rfl⟩,hn,hp,hs⟩:=h
    try simp only [Qm] at *
    exact ⟨l4States_pure a bb ys hn hp hs,fun c=>by simp [go_sem]⟩
  · intro h
    exact h.elim
@[go_sem] def Γe32:FuncId → Con:=ext Γe31 167 l4StatesC
theorem zajt:∀ g,ConOk Tryz.prog g (Γe32 g):=Qn zamc l4StatesC_ok

structure CG where
  nx:List (List Int)
  i:Nat
  nb:Nat
  cp:Nat
  j:Nat
  H:Hp
def CGi (gb:Nat) (xs:List Ints2) (bb:List (List Int)) (q:CG):Prop:=q.i ≤ bb.length ∧ q.nx.length = q.i ∧ SubL bb q.nx ∧ ¬ gb = q.nb ∧ q.cp ≤ q.nx.length + q.j ∧ q.H gb = some [.fr 2 xs.length (cat oP xs),.sl q.nb 1 0 q.nx.length q.cp] ∧ q.H q.nb = some (cat oL q.nx ++ zrP q.j .any)

@[go_sem] def zagl:List Ints2 × List (List Int) → D:=fun x=>.st [fr 2 oP x.1,fr 1 oL x.2]
def zagk (a:List Ints2) (bb:List (List Int)):List Ints2 × List (List Int) → Prop:=fun x=>x.1.length = a.length ∧ x.2.length = bb.length ∧ SubL a x.1 ∧ SubL bb x.2
def zaii (a:List Ints2) (bb:List (List Int)) (c:Any):List Ints2 × List (List Int):=sel (zagk a bb) ((a,bb)) c
theorem l4Copy_ok (a:List Ints2) (bb:List (List Int)) (hg:Ub a bb) (c:Any):zagk a bb (zaii a bb c):=Xl (p:=zagk a bb) (x0:=(a,bb)) (⟨rfl,rfl,fun _ h=>h,fun _ h=>h⟩) c
theorem l4Copy_ret (a:List Ints2) (bb:List (List Int)) {e_:Exit} {S_:St} (x:List Ints2 × List (List Int)) (he_:e_ = .ret ∨ e_ = .normal)
    (h1:(Qd Tryz.prog S_ Tryz.f128.results.toList).1 ∧ resD (Qd Tryz.prog S_ Tryz.f128.results.toList).2.1 = zagl x) (hg:zagk a bb x) :
    retR Tryz.prog Tryz.f128 (fun c=>(zagl (zaii a bb c),fun _=>none)) e_ S_:=Xi (enc:=zagl) x he_ h1 hg
set_option maxHeartbeats 4000000 in
theorem l4Copy_pure (a:List Ints2) (bb:List (List Int)) (hg:Ub a bb):PureR Tryz.prog 128 [.st [li cP a,li cL bb]] (fun c=>zagl (zaii a bb c)):=by
  refine PureR.of_walk Tryz.func128 rfl (by simp [Tryz.f128]) (fun c=>by simp [-zd,go_sem]) fun B hK=>?_
  obtain ⟨hg1,hg2,hg3,hg4⟩:=hg
  all_goals (repeat' (first
 | refine Qt ?_
 | refine Qc (id:=0) zajt [] (by kernel_rfl) ?_;simp [-zg,-zd,↓Qb,↓Qa,go_sem];try (refine Qy 1 ?_;simp [go_sem])
 | refine Xr (id:=1) zajt mixed [] [] [1] (by kernel_rfl) (by kernel_rfl) ?_ ?_ ?_ <;> simp [-zg,-zd,↓Qb,↓Qa,go_sem,zajy,zatv,(show (a.length:Int) ≤ 1000000 by omega),(show a.length ≤ 1000 by omega),hg3];try ((intro c1);(have y0:=l4States_ok a bb (upto a.length) (by rw [zajy];omega) (zatv _) hg3 c1);(generalize zafd a bb (upto a.length) c1 = xs at *);(simp only [zaee,zajy] at y0);(obtain ⟨y1,y2⟩:=y0);(refine zagw 3 1 rfl ?_);(refine Xs 3 rfl fun gb hgb=>?_);(clear hgb);(refine Xw gb 1 (all:=[.fr 2 xs.length (cat oP xs),.fr 1 0 []]) (by simp [upd,fr]) rfl fun nb cp jx hx hcx hdx=>?_);(have n1:¬ gb = nb:=(by rintro rfl;simp [upd] at hx));(clear hx);(refine Qp (fun H1=>H1 gb = some [.fr 2 xs.length (cat oP xs),.sl nb 1 0 0 cp] ∧ H1 nb = some (cat oL ([]:List (List Int)) ++ zrP jx .any)) ⟨by simp [upd,n1,fr],by simp [upd,Xb]⟩ fun H1 ⟨w1,w2⟩=>?_))
 | ((have hbl:=hg4 _ (Xz c16)));refine Xr (id:=5) zajt mixed [(gb,[.fr 2 xs.length (cat oP xs),.sl q.nb 1 0 q.nx.length q.cp])] [] [] (by kernel_rfl) (by kernel_rfl) ?_ ?_ ?_ <;> simp [-zg,-zd,↓Qb,↓Qa,go_sem,c16,Qk c16,zsP c16,g6,g7,g4,zS g4,g5,(show (nth bb q.i).length ≤ 9223372036854775807 by omega),(show 2 * (nth bb q.i).length * 8 ≤ 281474976710656 by omega),(show q.nx.length ≤ 9223372036854775806 by omega),(show 2 * (q.nx.length + 1) * 24 ≤ 281474976710656 by omega)];try ((refine Xw gb 1 (all:=[.fr 2 xs.length (cat oP xs),.fr 1 (q.nx.length + 1) (cat oL q.nx ++ [.fr 1 (nth bb q.i).length (cat cI (nth bb q.i))])]) (by simp [upd,g4,zS g4]) rfl fun nb2 cp2 jx2 hx2 hcx2 hdx2=>?_);(have m1:¬ gb = nb2:=(by intro e;rw [← e] at hx2;simp [upd] at hx2));(clear hx2);(refine Qp (fun H2=>H2 gb = some [.fr 2 xs.length (cat oP xs),.sl nb2 1 0 (q.nx ++ [nth bb q.i]).length cp2] ∧ H2 nb2 = some (cat oL (q.nx ++ [nth bb q.i]) ++ zrP jx2 .any)) ⟨by simp [upd,m1],by simp [upd,Xk,Xg,oL,fr]⟩ fun H2 ⟨s1,s2⟩=>?_);(have v2:CGi gb xs bb ⟨q.nx ++ [nth bb q.i],q.i + 1,nb2,cp2,jx2,H2⟩:=⟨by dsimp only;omega,by simp;omega,g3.snoc (Xz c16),m1,by simp;omega,s1,s2⟩))
 | refine Qc (id:=4) zajt [] (by kernel_rfl) ?_;simp [-zg,-zd,↓Qb,↓Qa,go_sem,wrapS (k:=q.i) (by omega)]
 | ((refine Xu gb 1 (b':=q.nb) (sz:=1) (m:=q.nx.length) (cp:=q.cp) (all:=[.fr 2 xs.length (cat oP xs),.sl q.nb 1 0 q.nx.length q.cp]) (cs:=cat oL q.nx ++ zrP q.j .any) g6 rfl g4 g7 (by omega) (by simp [Qv]) (by simp [Qv];omega) ?_));refine Qc (id:=6) zajt [] (by kernel_rfl) ?_;simp [-zg,-zd,↓Qb,↓Qa,go_sem,g4,zS g4]
 | refine Qj (c:=.tmp 16) ?_;simp [-zg,-zd,↓Qb,↓Qa,go_sem];try first | (refine ⟨?_,?_⟩ <;> refine zA ?_) | (refine ⟨fun c16=>?_,fun c16=>?_⟩ <;> (try simp [B_iff,B_not] at c16))
 | (refine Qe (id:=0) (Qw (ι:=CG) (fun q:CG=>⟨(upd (upd (upd (upd (fun _=>.any) 1 (.pd [li cP a,li cL bb])) 2 (.box [.nil,.nil])) 3 (.ptr gb 0)) 4 (.int .i64 q.i)),q.H⟩) (fun q=>CGi gb xs bb q) (fun q=>bb.length - q.i) (⟨[],0,nb,cp,jx,H1⟩) ?_ ?_ ?_);exact ⟨Nat.zero_le _,rfl,(fun _ h=>by cases h),n1,by simpa using hdx,by simpa using w1,w2⟩;((repeat' (first | exact Qg (by assumption) | exact Qi | refine Qf ?_ ?_ | refine Qh ?_)) <;> simp [-zg,-zd,↓Qb,↓Qa,go_sem]);rintro q ⟨g1,g2,g3,g4,g5,g6,g7⟩)
 | (refine ⟨⟨q.nx ++ [nth bb q.i],q.i + 1,nb2,cp2,jx2,H2⟩,v2,by first | omega | (simp;done) | (simp;omega),?_⟩;((repeat' (first | exact Qg (by assumption) | exact Qi | refine Qf ?_ ?_ | refine Qh ?_)) <;> simp [-zg,-zd,↓Qb,↓Qa,go_sem,]))
 | (refine Qe ?_)
 | (refine Qs ?_;simp [-zg,-zd,↓Qb,↓Qa,go_sem])
 | (refine Qr ?_;simp [-zg,-zd,↓Qb,↓Qa,go_sem])
 | (refine Qq ?_;try simp [-zg,-zd,↓Qb,↓Qa,go_sem,Tryz.results128])
 | (intro hx;refine zA ?_)
 | (intro hx;change retR _ _ _ _ _)
 | (refine ⟨?_,?_⟩ <;> refine zA ?_)
 | (intro hx;constructor <;> intro hs)
 | (constructor <;> intro hs)
 | (refine ⟨?_,fun hs=>?_⟩;refine zA ?_)
 | (refine ⟨fun hs=>?_,?_⟩;rotate_left;refine zA ?_;rotate_left)
 | (refine Qc zajt [] (by kernel_rfl) ?_;simp [-zg,-zd,↓Qb,↓Qa,go_sem])
 | fail))
  all_goals (first
 | (refine l4Copy_ret _ _ ((xs,q.nx)) ?_ ?_ ?_;(first | exact Or.inl rfl | exact Or.inr rfl);(focus (simp [-zg,-zd,↓Qb,↓Qa,go_sem,Tryz.results128,fr,g4,zS g4];done));(focus ((exact ⟨y1,by dsimp only;omega,y2,g3⟩);done)))
 | skip)
@[go_sem] def l4CopyC:Con:=.prel fun
  | [.st [.list n_a c_a,.list n_bb c_bb]]=>((Is cP n_a c_a) ∧ (Is cL n_bb c_bb) ∧ (Ub (de cP c_a) (de cL c_bb)),fun c=>zagl (zaii (de cP c_a) (de cL c_bb) c))
  | _=>(False,fun _=>.any)
theorem l4CopyC_ok:ConOk Tryz.prog 128 l4CopyC:=by
  refine ⟨Qo Tryz.func128 (by decide) rfl,fun args h=>?_⟩
  revert h
  dsimp only
  split
  · intro h
    obtain ⟨⟨a,rfl,rfl⟩,⟨bb,rfl,rfl⟩,hg⟩:=h
    try simp only [Qm] at *
    exact ⟨l4Copy_pure a bb hg,fun c=>by simp [go_sem]⟩
  · intro h
    exact h.elim
@[go_sem] def Γe33:FuncId → Con:=ext Γe32 128 l4CopyC
theorem Jz:∀ g,ConOk Tryz.prog g (Γe33 g):=Qn zajt l4CopyC_ok

end
end Go.Proofs.YtiilmjojffjhlaaGreatDoor.Vm

