/-
  Draws: pairs of automata. No conditions.
-/
import Derived.Test.YtnfldmfamnhpcaaDoorY9
namespace Go.Proofs.YtnfldmfamnhpcaaDoor.Vm
open Go
open List renaming getD_eq_getElem?_getD → zg,drop_one → zd,replicate → zrP
open Ne renaming symm → zS
noncomputable section
set_option linter.unusedVariables false
set_option linter.unusedSimpArgs false
set_option maxRecDepth 200000

@[go_sem] def Jp:Au → D:=sA
theorem l7Mutate2_flat (x:Au):dat (Jp x) = Jp x:=by simp [go_sem]
def zaay (a:List Int) (e:List Bool) (g:List Tr4):Au → Prop:=fun x=>x.1.length ≤ a.length + 1 ∧ x.2.1.length ≤ 5000 ∧ x.2.2.length ≤ 5000 ∧ SmallT x.2.2
def zaez (a:List Int) (e:List Bool) (g:List Tr4) (x:(Au) × D):Prop:=zaay a e g x.1 ∧ dat x.2 = Jp x.1
def zaah (a:List Int) (e:List Bool) (g:List Tr4) (p:Int) (c:Any):((Au) × D) × Int:=dsel (zaez a e g) ((([],[],[]):Au),Jp (([],[],[]))) 3 p c
def Xv (a:List Int) (e:List Bool) (g:List Tr4) (p:Int) (c:Any):(Au) × Int:=((zaah a e g p c).1.1,(zaah a e g p c).2)
theorem zagx (a:List Int) (e:List Bool) (g:List Tr4) (hS:AuM (a,e,g)) (p:Int) (c:Any):(zaay a e g (Xv a e g p c).1 ∧ p ≤ (Xv a e g p c).2 ∧ (Xv a e g p c).2 ≤ p + 3) ∧ dat (zaah a e g p c).1.2 = Jp (Xv a e g p c).1:=by
  have hx:zaay a e g (([],[],[])):=⟨by simp,by simp,by simp,SmallT.nil⟩
  have h:=dsel_ok (good:=zaez a e g) (x0:=((([],[],[]):Au),Jp (([],[],[])))) ⟨hx,l7Mutate2_flat _⟩ (K:=3) (by omega) (p:=p) c
  exact ⟨⟨h.1.1,h.2.1,h.2.2⟩,h.1.2⟩
theorem zair (a:List Int) (e:List Bool) (g:List Tr4) (hS:AuM (a,e,g)) (p:Int) (c:Any):zaay a e g (Xv a e g p c).1 ∧ p ≤ (Xv a e g p c).2 ∧ (Xv a e g p c).2 ≤ p + 3:=(zagx a e g hS p c).1
theorem zacr (a:List Int) (e:List Bool) (g:List Tr4) (ys:List UInt8) (p:Int) (b:Nat) {e_:Exit} {S_:St} (x:Au) (p':Int) (he_:e_ = .ret ∨ e_ = .normal)
    (h1:(Qe Tryd.prog S_ Tryd.f41.results.toList).1 ∧ dat (resD (Qe Tryd.prog S_ Tryd.f41.results.toList).2.1) = Jp x ∧ (Qe Tryd.prog S_ Tryd.f41.results.toList).2.2.H b = some [li cY ys,.int .i64 p']) (hg:zaay a e g x) (h2:p ≤ p' ∧ p' ≤ p + 3) :
    retR Tryd.prog Tryd.f41 (fun c=>((zaah a e g p c).1.2,one b [li cY ys,.int .i64 (zaah a e g p c).2])) e_ S_ :=
  zaif (good:=zaez a e g) (enc:=fun x:(Au) × D=>x.2) (cells:=fun q=>[li cY ys,.int .i64 q]) (x,resD (Qe Tryd.prog S_ Tryd.f41.results.toList).2.1) p' he_ ⟨h1.1,rfl,h1.2.2⟩ ⟨hg,h1.2.1⟩ h2
set_option maxHeartbeats 16000000 in
theorem l7Mutate2_spec (ys:List UInt8) (p:Int) (b:Nat) (a:List Int) (e:List Bool) (g:List Tr4) (hl:ys.length ≤ 2000) (h0_:0 ≤ p) (hp_:p + 3 ≤ 1000000) (hS:AuM (a,e,g)):SpecR Tryd.prog 41 [.ptr b 0,.st [li cI a,li cB e,li cT g]] (one b [li cY ys,.int .i64 p]) (fun c=>((zaah a e g p c).1.2,one b [li cY ys,.int .i64 (zaah a e g p c).2])):=by
  refine SpecR.of_walk Tryd.func41 rfl (by simp [Tryd.f41]) fun B=>?_
  obtain ⟨s1,s2,s3,s4⟩:=hS;dsimp only at s1 s2 s3 s4
  all_goals (repeat' (first
 | refine Qu ?_
 | refine Qc (id:=0) Xo [] (by kernel_rfl) ?_;simp [-zg,-zd,↓Qb,↓Qa,go_sem];try (refine Xk 3 ?_;simp [go_sem])
 | refine Zb (id:=1) Xo mixed [] [3] (by kernel_rfl) (by kernel_rfl) (by simp [-zg,-zd,↓Qb,↓Qa,go_sem,(show a.length ≤ 9223372036854775807 by omega),(show 2 * a.length * 8 ≤ 281474976710656 by omega),(show e.length ≤ 9223372036854775807 by omega),(show 2 * e.length * 1 ≤ 281474976710656 by omega),(show 2 * e.length ≤ 281474976710656 by omega),(show g.length ≤ 9223372036854775807 by omega),(show 2 * g.length * 32 ≤ 281474976710656 by omega)]) ?_;simp [-zg,-zd,↓Qb,↓Qa,go_sem,(show a.length ≤ 9223372036854775807 by omega),(show 2 * a.length * 8 ≤ 281474976710656 by omega),(show e.length ≤ 9223372036854775807 by omega),(show 2 * e.length * 1 ≤ 281474976710656 by omega),(show 2 * e.length ≤ 281474976710656 by omega),(show g.length ≤ 9223372036854775807 by omega),(show 2 * g.length * 32 ≤ 281474976710656 by omega)];try ((refine zado 5 rfl fun ab hab=>?_);(have nba:¬ b = ab:=(by rintro rfl;simp [upd] at hab));(clear hab);(refine Vo ab 2 (all:=[.fr 1 a.length (cat cI a),.fr 1 e.length (cat cB e),.fr 4 g.length (cat cT g)]) (by simp [upd]) rfl fun zb cz jz hzb hcz hdz=>?_);(have nbz:¬ b = zb:=(by rintro rfl;simp [upd,nba] at hzb));(have naz:¬ ab = zb:=(by rintro rfl;simp [upd] at hzb));(clear hzb);(refine Xb (fun H1=>LM b ab zb ys a e g cz jz p H1) ⟨by simp [upd,nba,zS nba,nbz,zS nbz,naz,zS naz],by simp [upd,nba,zS nba,nbz,zS nbz,naz,zS naz],by simp [upd]⟩ fun H1 ⟨w1,w2,w3⟩=>?_))
 | refine Qc (id:=2) Xo [] (by kernel_rfl) ?_;simp [-zg,-zd,↓Qb,↓Qa,go_sem,w1,hl,(show 0 ≤ p by omega),(show p ≤ 1000000 by omega),(show 0 ≤ p + 1 by omega),(show p + 1 ≤ 1000000 by omega)];try ((generalize pkI ys p 40 = kk at *);(refine Xb (fun H2=>LM b ab zb ys a e g cz jz (p + 1) H2) ⟨by simp [upd,nba,zS nba,nbz,zS nbz,naz,zS naz],by simp [upd,nba,zS nba,nbz,zS nbz,naz,zS naz,w2],by simp [upd,nba,zS nba,nbz,zS nbz,naz,zS naz,w3]⟩ fun H2 ⟨w1,w2,w3⟩=>?_))
 | refine Qc (id:=3) Xo [] (by kernel_rfl) ?_;simp [-zg,-zd,↓Qb,↓Qa,go_sem]
 | ((refine Vo ab 0 (all:=[.fr 1 a.length (cat cI a),.fr 1 e.length (cat cB e),.sl zb 4 0 g.length cz]) w2 rfl fun xb cx jx hxb hcx hdx=>?_);(have nbx:¬ b = xb:=(by rintro rfl;simp [upd,nba,w1] at hxb));(have nax:¬ ab = xb:=(by rintro rfl;simp [upd,w2] at hxb));(have nzx:¬ zb = xb:=(by rintro rfl;simp [upd,zS naz,w3] at hxb));(clear hxb));refine Xr (id:=4) Xo mixed [(ab,[.sl xb 1 0 a.length cx,.fr 1 e.length (cat cB e),.sl zb 4 0 g.length cz])] [] [] (by kernel_rfl) (by kernel_rfl) (by simp [-zg,-zd,↓Qb,↓Qa,go_sem,w1,hl,nba,zS nba,nbz,zS nbz,naz,zS naz,nbx,zS nbx,nax,zS nax,nzx,zS nzx,(show 0 ≤ p + 1 by omega),(show p + 1 ≤ 1000000 by omega),(show 0 ≤ p + 1 + 1 by omega),(show p + 1 + 1 ≤ 1000000 by omega),(show a.length ≤ 9223372036854775806 by omega),(show 2 * (a.length + 1) * 8 ≤ 281474976710656 by omega),(show cx ≤ a.length + jx by omega)]) (by simp [-zg,-zd,↓Qb,↓Qa,go_sem,w1,hl,nba,zS nba,nbz,zS nbz,naz,zS naz,nbx,zS nbx,nax,zS nax,nzx,zS nzx,(show 0 ≤ p + 1 by omega),(show p + 1 ≤ 1000000 by omega),(show 0 ≤ p + 1 + 1 by omega),(show p + 1 + 1 ≤ 1000000 by omega),(show a.length ≤ 9223372036854775806 by omega),(show 2 * (a.length + 1) * 8 ≤ 281474976710656 by omega),(show cx ≤ a.length + jx by omega)]) ?_;simp [-zg,-zd,↓Qb,↓Qa,go_sem,w1,hl,nba,zS nba,nbz,zS nbz,naz,zS naz,nbx,zS nbx,nax,zS nax,nzx,zS nzx,(show 0 ≤ p + 1 by omega),(show p + 1 ≤ 1000000 by omega),(show 0 ≤ p + 1 + 1 by omega),(show p + 1 + 1 ≤ 1000000 by omega),(show a.length ≤ 9223372036854775806 by omega),(show 2 * (a.length + 1) * 8 ≤ 281474976710656 by omega),(show cx ≤ a.length + jx by omega)];try ((generalize numI ys (p + 1) [0,-1,64,3] = vv at *);(refine Xb (fun H3=>LM b ab zb ys (a ++ [vv]) e g cz jz (p + 1 + 1) H3) ⟨by simp [upd,nba,zS nba,nbz,zS nbz,naz,zS naz,nbx,zS nbx,nax,zS nax],by simp [upd,nba,zS nba,nbz,zS nbz,naz,zS naz,nax,zS nax,snoc_cI],by simp [upd,nba,zS nba,nbz,zS nbz,naz,zS naz,nzx,zS nzx,w3]⟩ fun H3 hM=>?_))
 | refine Qc (id:=5) Xo [] (by kernel_rfl) ?_;simp [-zg,-zd,↓Qb,↓Qa,go_sem]
 | refine Qc (id:=6) Xo [] (by kernel_rfl) ?_;simp [-zg,-zd,↓Qb,↓Qa,go_sem,w2]
 | ((have hc0:0 < g.length:=(by omega)));refine Xr (id:=7) Xo mixed [(ab,[.fr 1 a.length (cat cI a),.fr 1 e.length (cat cB e),.sl zb 4 0 g.length cz])] [] [] (by kernel_rfl) (by kernel_rfl) (by simp [-zg,-zd,↓Qb,↓Qa,go_sem,w1,w2,w3,hl,nba,zS nba,nbz,zS nbz,naz,zS naz,(show 0 ≤ p + 1 by omega),(show p + 1 ≤ 1000000 by omega),(show 0 ≤ p + 1 + 1 by omega),(show p + 1 + 1 ≤ 1000000 by omega),hc0,(show 4 ≤ g.length * 4 + jz by omega),(show 2 < g.length * 4 + jz by omega),(show 3 ≤ g.length * 4 + jz by omega)]) (by simp [-zg,-zd,↓Qb,↓Qa,go_sem,w1,w2,w3,hl,nba,zS nba,nbz,zS nbz,naz,zS naz,(show 0 ≤ p + 1 by omega),(show p + 1 ≤ 1000000 by omega),(show 0 ≤ p + 1 + 1 by omega),(show p + 1 + 1 ≤ 1000000 by omega),hc0,(show 4 ≤ g.length * 4 + jz by omega),(show 2 < g.length * 4 + jz by omega),(show 3 ≤ g.length * 4 + jz by omega)]) ?_;simp [-zg,-zd,↓Qb,↓Qa,go_sem,w1,w2,w3,hl,nba,zS nba,nbz,zS nbz,naz,zS naz,(show 0 ≤ p + 1 by omega),(show p + 1 ≤ 1000000 by omega),(show 0 ≤ p + 1 + 1 by omega),(show p + 1 + 1 ≤ 1000000 by omega),hc0,(show 4 ≤ g.length * 4 + jz by omega),(show 2 < g.length * 4 + jz by omega),(show 3 ≤ g.length * 4 + jz by omega)];try ((have hrv:=Jv ys (p:=p + 1) (by omega) (xs:=[8,-1,7]) (lo:=-1) (hi:=8) (by simp) (by simp));(generalize numI ys (p + 1) [8,-1,7] = vv at *);(obtain ⟨g',hc1,hc2,hc3⟩:=set_cT g (zrP jz D.any) 2 vv (by omega));(have hc4:stSeg (cat cT g ++ zrP jz D.any) (2) [.int .i64 vv] = cat cT g' ++ zrP jz D.any:=hc3);(refine Xb (fun H1=>LM b ab zb ys a e g' cz jz (p + 1 + 1) H1) ⟨by simp [upd,nba,zS nba,nbz,zS nbz,naz,zS naz],by simp [upd,nba,zS nba,nbz,zS nbz,naz,zS naz,w2,hc1],by simp [upd,nba,zS nba,nbz,zS nbz,naz,zS naz,hc4]⟩ fun H2 hM=>?_))
 | refine Qc (id:=8) Xo [] (by kernel_rfl) ?_;simp [-zg,-zd,↓Qb,↓Qa,go_sem]
 | refine Qc (id:=9) Xo [] (by kernel_rfl) ?_;simp [-zg,-zd,↓Qb,↓Qa,go_sem,w2]
 | ((have hc0:0 < g.length:=(by omega)));refine Xr (id:=10) Xo mixed [(ab,[.fr 1 a.length (cat cI a),.fr 1 e.length (cat cB e),.sl zb 4 0 g.length cz])] [] [] (by kernel_rfl) (by kernel_rfl) (by simp [-zg,-zd,↓Qb,↓Qa,go_sem,w1,w2,w3,hl,nba,zS nba,nbz,zS nbz,naz,zS naz,(show 0 ≤ p + 1 by omega),(show p + 1 ≤ 1000000 by omega),(show 0 ≤ p + 1 + 1 by omega),(show p + 1 + 1 ≤ 1000000 by omega),hc0,(show 4 ≤ g.length * 4 + jz by omega),(show 3 < g.length * 4 + jz by omega)]) (by simp [-zg,-zd,↓Qb,↓Qa,go_sem,w1,w2,w3,hl,nba,zS nba,nbz,zS nbz,naz,zS naz,(show 0 ≤ p + 1 by omega),(show p + 1 ≤ 1000000 by omega),(show 0 ≤ p + 1 + 1 by omega),(show p + 1 + 1 ≤ 1000000 by omega),hc0,(show 4 ≤ g.length * 4 + jz by omega),(show 3 < g.length * 4 + jz by omega)]) ?_;simp [-zg,-zd,↓Qb,↓Qa,go_sem,w1,w2,w3,hl,nba,zS nba,nbz,zS nbz,naz,zS naz,(show 0 ≤ p + 1 by omega),(show p + 1 ≤ 1000000 by omega),(show 0 ≤ p + 1 + 1 by omega),(show p + 1 + 1 ≤ 1000000 by omega),hc0,(show 4 ≤ g.length * 4 + jz by omega),(show 3 < g.length * 4 + jz by omega)];try ((have hrv:=Jv ys (p:=p + 1) (by omega) (xs:=[-1,0,64,9223372036854775807]) (lo:=-1) (hi:=9223372036854775807) (by simp) (by simp));(generalize numI ys (p + 1) [-1,0,64,9223372036854775807] = vv at *);(obtain ⟨g',hc1,hc2,hc3⟩:=set_cT g (zrP jz D.any) 3 vv (by omega));(have hc4:stSeg (cat cT g ++ zrP jz D.any) (3) [.int .i64 vv] = cat cT g' ++ zrP jz D.any:=hc3);(refine Xb (fun H1=>LM b ab zb ys a e g' cz jz (p + 1 + 1) H1) ⟨by simp [upd,nba,zS nba,nbz,zS nbz,naz,zS naz],by simp [upd,nba,zS nba,nbz,zS nbz,naz,zS naz,w2,hc1],by simp [upd,nba,zS nba,nbz,zS nbz,naz,zS naz,hc4]⟩ fun H2 hM=>?_))
 | refine Qc (id:=11) Xo [] (by kernel_rfl) ?_;simp [-zg,-zd,↓Qb,↓Qa,go_sem]
 | refine Qc (id:=12) Xo [] (by kernel_rfl) ?_;simp [-zg,-zd,↓Qb,↓Qa,go_sem]
 | refine Qc (id:=13) Xo [] (by kernel_rfl) ?_;simp [-zg,-zd,↓Qb,↓Qa,go_sem]
 | refine Qc (id:=14) Xo [] (by kernel_rfl) ?_;simp [-zg,-zd,↓Qb,↓Qa,go_sem,w2]
 | ((have hc0:0 < g.length:=(by omega)));refine Xr (id:=15) Xo mixed [(ab,[.fr 1 a.length (cat cI a),.fr 1 e.length (cat cB e),.sl zb 4 0 g.length cz])] [] [5] (by kernel_rfl) (by kernel_rfl) (by simp [-zg,-zd,↓Qb,↓Qa,go_sem,w1,w2,w3,hl,nba,zS nba,nbz,zS nbz,naz,zS naz,(show 0 ≤ p + 1 by omega),(show p + 1 ≤ 1000000 by omega),(show 0 ≤ p + 1 + 1 by omega),(show p + 1 + 1 ≤ 1000000 by omega),hc0,wrap_in (x:=(g.length:Int) - 1) (by omega) (by omega),(show 0 ≤ (g.length:Int) - 1 by omega),(show (g.length:Int) - 1 < (g.length:Int) by omega),(show ((g.length:Int) - 1).toNat = g.length - 1 by omega),(show (g.length - 1) * 4 + 4 ≤ g.length * 4 + jz by omega),(show (g.length - 1) * 4 + 1 < g.length * 4 + jz by omega),(show (1:Int) ≤ (g.length:Int) by omega),(show (g.length - 1) * 4 + 1 + 1 ≤ g.length * 4 + jz by omega),(show g.length - 1 < g.length by omega)]) (by simp [-zg,-zd,↓Qb,↓Qa,go_sem,w1,w2,w3,hl,nba,zS nba,nbz,zS nbz,naz,zS naz,(show 0 ≤ p + 1 by omega),(show p + 1 ≤ 1000000 by omega),(show 0 ≤ p + 1 + 1 by omega),(show p + 1 + 1 ≤ 1000000 by omega),hc0,wrap_in (x:=(g.length:Int) - 1) (by omega) (by omega),(show 0 ≤ (g.length:Int) - 1 by omega),(show (g.length:Int) - 1 < (g.length:Int) by omega),(show ((g.length:Int) - 1).toNat = g.length - 1 by omega),(show (g.length - 1) * 4 + 4 ≤ g.length * 4 + jz by omega),(show (g.length - 1) * 4 + 1 < g.length * 4 + jz by omega),(show (1:Int) ≤ (g.length:Int) by omega),(show (g.length - 1) * 4 + 1 + 1 ≤ g.length * 4 + jz by omega),(show g.length - 1 < g.length by omega)]) ?_;simp [-zg,-zd,↓Qb,↓Qa,go_sem,w1,w2,w3,hl,nba,zS nba,nbz,zS nbz,naz,zS naz,(show 0 ≤ p + 1 by omega),(show p + 1 ≤ 1000000 by omega),(show 0 ≤ p + 1 + 1 by omega),(show p + 1 + 1 ≤ 1000000 by omega),hc0,wrap_in (x:=(g.length:Int) - 1) (by omega) (by omega),(show 0 ≤ (g.length:Int) - 1 by omega),(show (g.length:Int) - 1 < (g.length:Int) by omega),(show ((g.length:Int) - 1).toNat = g.length - 1 by omega),(show (g.length - 1) * 4 + 4 ≤ g.length * 4 + jz by omega),(show (g.length - 1) * 4 + 1 < g.length * 4 + jz by omega),(show (1:Int) ≤ (g.length:Int) by omega),(show (g.length - 1) * 4 + 1 + 1 ≤ g.length * 4 + jz by omega),(show g.length - 1 < g.length by omega)];try ((have hrv:=Jv ys (p:=p + 1) (by omega) (xs:=[8,-1,0]) (lo:=-1) (hi:=8) (by simp) (by simp));(generalize numI ys (p + 1) [8,-1,0] = vv at *);(obtain ⟨g',hc1,hc2,hc3⟩:=set_cT g (zrP jz D.any) ((g.length - 1) * 4 + 1) vv (by omega));(have hc4:stSeg (cat cT g ++ zrP jz D.any) (((g.length - 1) * 4 + 1)) [.int .i64 vv] = cat cT g' ++ zrP jz D.any:=hc3);(refine Xb (fun H1=>LM b ab zb ys a e g' cz jz (p + 1 + 1) H1) ⟨by simp [upd,nba,zS nba,nbz,zS nbz,naz,zS naz],by simp [upd,nba,zS nba,nbz,zS nbz,naz,zS naz,w2,hc1],by simp [upd,nba,zS nba,nbz,zS nbz,naz,zS naz,hc4]⟩ fun H2 hM=>?_))
 | (first | (obtain ⟨t1,t2,t3⟩:=hM;refine zaav ab 2 (b':=zb) (sz:=4) (m:=g'.length) (cp:=cz) (all:=[.fr 1 a.length (cat cI a),.fr 1 e.length (cat cB e),.sl zb 4 0 g'.length cz]) (cs:=cat cT g' ++ zrP jz .any) t2 rfl naz t3 (by omega) (by simp [Qy]) (by simp [Qy,hc1];omega) ?_;simp only [Js (f:=cT)]) | (obtain ⟨t1,t2,t3⟩:=hM;obtain ⟨a',ha'⟩:∃ a',a ++ [vv] = a':=⟨_,rfl⟩;have hal:a'.length = a.length + 1:=(by rw [← ha'];simp);rw [ha'] at t2;refine zaav ab 2 (b':=zb) (sz:=4) (m:=g.length) (cp:=cz) (all:=[.fr 1 a'.length (cat cI a'),.fr 1 e.length (cat cB e),.sl zb 4 0 g.length cz]) (cs:=cat cT g ++ zrP jz .any) t2 rfl naz t3 (by omega) (by simp [Qy]) (by simp [Qy];omega) ?_;simp only [Js (f:=cT)]) | (have t1:=w1;refine zaav ab 2 (b':=zb) (sz:=4) (m:=g.length) (cp:=cz) (all:=[.fr 1 a.length (cat cI a),.fr 1 e.length (cat cB e),.sl zb 4 0 g.length cz]) (cs:=cat cT g ++ zrP jz .any) w2 rfl naz w3 (by omega) (by simp [Qy]) (by simp [Qy];omega) ?_;simp only [Js (f:=cT)]));refine Qc (id:=16) Xo [] (by kernel_rfl) ?_;simp [-zg,-zd,↓Qb,↓Qa,go_sem,nba,zS nba,nbz,zS nbz,naz,zS naz]
 | refine Qd (c:=.tmp 21) ?_;simp [-zg,-zd,↓Qb,↓Qa,go_sem];try first | (refine ⟨?_,?_⟩ <;> refine zA ?_) | (refine ⟨fun c21=>?_,fun c21=>?_⟩ <;> (try simp [B_iff,B_not] at c21))
 | refine Qd (c:=.tmp 31) ?_;simp [-zg,-zd,↓Qb,↓Qa,go_sem];try first | (refine ⟨?_,?_⟩ <;> refine zA ?_) | (refine ⟨fun c31=>?_,fun c31=>?_⟩ <;> (try simp [B_iff,B_not] at c31))
 | refine Qd (c:=.tmp 36) ?_;simp [-zg,-zd,↓Qb,↓Qa,go_sem];try first | (refine ⟨?_,?_⟩ <;> refine zA ?_) | (refine ⟨fun c36=>?_,fun c36=>?_⟩ <;> (try simp [B_iff,B_not] at c36))
 | refine Qd (c:=.tmp 44) ?_;simp [-zg,-zd,↓Qb,↓Qa,go_sem];try first | (refine ⟨?_,?_⟩ <;> refine zA ?_) | (refine ⟨fun c44=>?_,fun c44=>?_⟩ <;> (try simp [B_iff,B_not] at c44))
 | refine Qd (c:=.tmp 49) ?_;simp [-zg,-zd,↓Qb,↓Qa,go_sem];try first | (refine ⟨?_,?_⟩ <;> refine zA ?_) | (refine ⟨fun c49=>?_,fun c49=>?_⟩ <;> (try simp [B_iff,B_not] at c49))
 | refine Qd (c:=.tmp 57) ?_;simp [-zg,-zd,↓Qb,↓Qa,go_sem];try first | (refine ⟨?_,?_⟩ <;> refine zA ?_) | (refine ⟨fun c57=>?_,fun c57=>?_⟩ <;> (try simp [B_iff,B_not] at c57))
 | refine Qd (c:=.tmp 60) ?_;simp [-zg,-zd,↓Qb,↓Qa,go_sem];try first | (refine ⟨?_,?_⟩ <;> refine zA ?_) | (refine ⟨fun c60=>?_,fun c60=>?_⟩ <;> (try simp [B_iff,B_not] at c60))
 | refine Qd (c:=.tmp 65) ?_;simp [-zg,-zd,↓Qb,↓Qa,go_sem];try first | (refine ⟨?_,?_⟩ <;> refine zA ?_) | (refine ⟨fun c65=>?_,fun c65=>?_⟩ <;> (try simp [B_iff,B_not] at c65))
 | (refine Qh ?_)
 | (refine Qt ?_;simp [-zg,-zd,↓Qb,↓Qa,go_sem])
 | (refine Qs ?_;simp [-zg,-zd,↓Qb,↓Qa,go_sem])
 | (refine Qv ?_;try simp [-zg,-zd,↓Qb,↓Qa,go_sem,Tryd.results41])
 | (intro hx;refine zA ?_)
 | (intro hx;change retR _ _ _ _ _)
 | (refine ⟨?_,?_⟩ <;> refine zA ?_)
 | (intro hx;constructor <;> intro hs)
 | (constructor <;> intro hs)
 | (refine ⟨?_,fun hs=>?_⟩;refine zA ?_)
 | (refine ⟨fun hs=>?_,?_⟩;rotate_left;refine zA ?_;rotate_left)
 | ((fail_if_success change retR _ _ _ _ _);(exfalso;omega))))
  all_goals (first
 | (refine zacr _ _ _ _ _ _ (([],[],[])) (p + 1) ?_ ?_ ?_ ?_;(first | exact Or.inl rfl | exact Or.inr rfl);(focus (simp [-zg,-zd,↓Qb,↓Qa,go_sem,Tryd.results41,dat,datL,datL_map,li,Xe,w1,nba,zS nba,nbz,zS nbz,naz,zS naz];done));(focus ((exact ⟨by simp,by simp,by simp,SmallT.nil⟩);done));(focus (refine ⟨?_,?_⟩ <;> omega)))
 | (refine zacr _ _ _ _ _ _ ((a,e,g')) (p + 1 + 1) ?_ ?_ ?_ ?_;(first | exact Or.inl rfl | exact Or.inr rfl);(focus (simp [-zg,-zd,↓Qb,↓Qa,go_sem,Tryd.results41,dat,datL_map,li,Zg,t1,nba,zS nba,nbz,zS nbz,naz,zS naz];done));(focus ((exact ⟨by dsimp only;omega,by dsimp only;omega,by dsimp only;omega,hc2 s4 (by omega)⟩);done));(focus (refine ⟨?_,?_⟩ <;> omega)))
 | (refine zacr _ _ _ _ _ _ ((a',e,g)) (p + 1 + 1) ?_ ?_ ?_ ?_;(first | exact Or.inl rfl | exact Or.inr rfl);(focus (simp [-zg,-zd,↓Qb,↓Qa,go_sem,Tryd.results41,dat,datL_map,li,Zg,t1,nba,zS nba,nbz,zS nbz,naz,zS naz];done));(focus ((exact ⟨by dsimp only;omega,by dsimp only;omega,by dsimp only;omega,s4⟩);done));(focus (refine ⟨?_,?_⟩ <;> omega)))
 | (refine zacr _ _ _ _ _ _ ((a,e,g)) (p + 1) ?_ ?_ ?_ ?_;(first | exact Or.inl rfl | exact Or.inr rfl);(focus (simp [-zg,-zd,↓Qb,↓Qa,go_sem,Tryd.results41,dat,datL_map,li,Zg,t1,nba,zS nba,nbz,zS nbz,naz,zS naz];done));(focus ((exact ⟨by dsimp only;omega,by dsimp only;omega,by dsimp only;omega,s4⟩);done));(focus (refine ⟨?_,?_⟩ <;> omega)))
 | skip)
@[go_sem] def zais:Con:=.rel fun args H=>match args with
  | [.ptr b 0,.st [.list n_a c_a,.list n_e c_e,.list n_g c_g]]=>match H b with
    | some [.list m cs,.int .i64 p]=>((Is cY m cs) ∧ (m ≤ 2000) ∧ (0 ≤ p) ∧ (p + 3 ≤ 1000000) ∧ (Is cI n_a c_a) ∧ (Is cB n_e c_e) ∧ (Is cT n_g c_g) ∧ (AuM ((de cI c_a),(de cB c_e),(de cT c_g))),fun c=>(Jp (Xv (de cI c_a) (de cB c_e) (de cT c_g) p c).1,upd H b (some [.list m cs,.int .i64 (Xv (de cI c_a) (de cB c_e) (de cT c_g) p c).2])))
    | _=>(False,fun _=>(.any,H))
  | _=>(False,fun _=>(.any,H))
theorem l7Mutate2C_ok:ConOk Tryd.prog 41 zais:=by
  refine ⟨Qq Tryd.func41 (by decide) rfl,fun args H h=>?_⟩
  revert h
  dsimp only
  split
  · split
    · rename_i hH
      intro h
      obtain ⟨⟨ys,rfl,rfl⟩,hl,h0_,hp_,⟨a,rfl,rfl⟩,⟨e,rfl,rfl⟩,⟨g,rfl,rfl⟩,hS⟩:=h
      try simp only [Qj] at *
      exact SpecR.enc ((l7Mutate2_spec ys _ _ a e g hl h0_ hp_ hS).frame hH).shut fun c=>Prod.ext (zagx _ _ _ hS _ _).2.symm rfl
    · intro h;exact h.elim
  · intro h
    exact h.elim
@[go_sem] def Γy51:FuncId → Con:=ext Γy29 41 zais
theorem zagb:∀ g,ConOk Tryd.prog g (Γy51 g):=Qp Xo l7Mutate2C_ok

@[go_sem] def Vb:Au × Au → D:=fun x=>.tup [sA x.1,sA x.2]
theorem zaee (x:Au × Au):dat (Vb x) = Vb x:=by simp [go_sem]
def zaad (xs:List UInt8):Au × Au → Prop:=fun x=>SmallT x.1.2.2 ∧ SmallT x.2.2.2
def zaak (xs:List UInt8) (x:(Au × Au) × D):Prop:=zaad xs x.1 ∧ dat x.2 = Vb x.1
def zaac (xs:List UInt8) (c:Any):(Au × Au) × D:=sel (zaak xs) (((([],[],[]),([],[],[])):Au × Au),Vb ((([],[],[]),([],[],[])))) c
def zaar (xs:List UInt8) (c:Any):Au × Au:=(zaac xs c).1
theorem zabw (xs:List UInt8)  (c:Any):zaak xs (zaac xs c):=by
  have hx:zaad xs ((([],[],[]),([],[],[]))):=⟨SmallT.nil,SmallT.nil⟩
  exact Zd (p:=zaak xs) (x0:=(((([],[],[]),([],[],[])):Au × Au),Vb ((([],[],[]),([],[],[]))))) ⟨hx,zaee _⟩ c
theorem zafi (xs:List UInt8)  (c:Any):zaad xs (zaar xs c):=(zabw xs  c).1
theorem zaer (xs:List UInt8) {e_:Exit} {S_:St} (x:Au × Au) (he_:e_ = .ret ∨ e_ = .normal)
    (h1:(Qe Tryd.prog S_ Tryd.f16.results.toList).1 ∧ dat (resD (Qe Tryd.prog S_ Tryd.f16.results.toList).2.1) = Vb x) (hg:zaad xs x) :
    retR Tryd.prog Tryd.f16 (fun c=>((zaac xs c).2,fun _=>none)) e_ S_ :=
  Xz (good:=zaak xs) (enc:=fun x:(Au × Au) × D=>x.2) (x,resD (Qe Tryd.prog S_ Tryd.f16.results.toList).2.1) he_ ⟨h1.1,rfl⟩ ⟨hg,h1.2⟩
set_option maxHeartbeats 8000000 in
theorem zaed (xs:List UInt8)  : SpecR Tryd.prog 16 [li cY xs] (fun _=>none) (fun c=>((zaac xs c).2,fun _=>none)):=by
  refine SpecR.of_walk Tryd.func16 rfl (by simp [Tryd.f16]) fun B=>?_
  have hl:=cut_len xs
  all_goals (repeat' (first
 | refine Qu ?_
 | refine Qc (id:=0) zagb [] (by kernel_rfl) ?_;simp [-zg,-zd,↓Qb,↓Qa,go_sem]
 | refine Qc (id:=1) zagb [] (by kernel_rfl) ?_;simp [-zg,-zd,↓Qb,↓Qa,go_sem];try (refine zado 4 rfl fun b hb=>?_;clear hb)
 | refine Qc (id:=2) zagb [] (by kernel_rfl) ?_;simp [-zg,-zd,↓Qb,↓Qa,go_sem,hl];try ((intro c2);(have h2:=zafr 0 c2);(generalize (Zo 0 c2) = z at *);(obtain ⟨⟨za,zb,zc⟩,pz⟩:=z);(have h3:AuS (za,zb,zc):=h2.1);(have h4:0 ≤ pz ∧ pz ≤ 300:=⟨by have:=h2.2;omega,by have:=h2.2;omega⟩);(clear h2);(have h2m:AuM (za,zb,zc):=⟨Nat.le_succ_of_le h3.1,h3.2.1,h3.2.2.1,h3.2.2.2⟩);(dsimp only);(refine Xk 5 ?_);(simp [go_sem,dat,datL_map]))
 | refine Qc (id:=3) zagb [] (by kernel_rfl) ?_;simp [-zg,-zd,↓Qb,↓Qa,go_sem,hl,(show 0 ≤ pz by omega),(show pz ≤ 1000000 by omega),(show 0 ≤ pz + 1 by omega),(show pz + 1 ≤ 1000000 by omega)]
 | refine Xr (id:=4) zagb mixed [] [] [] (by kernel_rfl) (by kernel_rfl) (by simp [-zg,-zd,↓Qb,↓Qa,go_sem,hl,(show 0 ≤ pz + 1 by omega),(show pz + 1 + 300 ≤ 1000000 by omega)]) (by simp [-zg,-zd,↓Qb,↓Qa,go_sem,hl,(show 0 ≤ pz + 1 by omega),(show pz + 1 + 300 ≤ 1000000 by omega)]) ?_;simp [-zg,-zd,↓Qb,↓Qa,go_sem,hl,(show 0 ≤ pz + 1 by omega),(show pz + 1 + 300 ≤ 1000000 by omega)];try ((intro c4);(have y0:=zafr (pz + 1) c4);(generalize Zo (pz + 1) c4 = y at *);(obtain ⟨⟨ya,yb,yc⟩,py⟩:=y);(have f4:SmallT yc:=y0.1.2.2.2))
 | ((have u5:∀ c,AuM ((Xv za zb zc (pz + 1) c).1.1,(Xv za zb zc (pz + 1) c).1.2.1,(Xv za zb zc (pz + 1) c).1.2.2) ∧ 0 ≤ (Xv za zb zc (pz + 1) c).2 ∧ (Xv za zb zc (pz + 1) c).2 + 3 ≤ 1000000:=(fun c=>by have h:=zair za zb zc h2m (pz + 1) c;exact ⟨⟨Nat.le_trans h.1.1 (by have:=h3.1;dsimp only at *;omega),h.1.2.1,h.1.2.2.1,h.1.2.2.2⟩,by have:=h.2;omega,by have:=h.2;omega⟩)));refine Xr (id:=5) zagb mixed [] [] [4,5] (by kernel_rfl) (by kernel_rfl) (by simp [-zg,-zd,↓Qb,↓Qa,go_sem,hl,h2m,u5,(show 0 ≤ pz + 1 by omega),(show pz + 1 + 3 ≤ 1000000 by omega)]) (by simp [-zg,-zd,↓Qb,↓Qa,go_sem,hl,h2m,u5,(show 0 ≤ pz + 1 by omega),(show pz + 1 + 3 ≤ 1000000 by omega)]) ?_;simp [-zg,-zd,↓Qb,↓Qa,go_sem,hl,h2m,u5,(show 0 ≤ pz + 1 by omega),(show pz + 1 + 3 ≤ 1000000 by omega)];try ((intro c5 c5');(have u6:=u5 c5);(generalize Xv za zb zc (pz + 1) c5 = w at *);(obtain ⟨⟨wa,wb,wc⟩,pw⟩:=w);(have y1:=zair wa wb wc u6.1 pw c5');(dsimp only at y1 ⊢);(generalize Xv wa wb wc pw c5' = w2 at *);(obtain ⟨⟨ya,yb,yc⟩,py⟩:=w2);(have f4:SmallT yc:=y1.1.2.2.2))
 | refine Qd (c:=.tmp 12) ?_;simp [-zg,-zd,↓Qb,↓Qa,go_sem];try first | (refine ⟨?_,?_⟩ <;> refine zA ?_) | (refine ⟨fun c12=>?_,fun c12=>?_⟩ <;> (try simp [B_iff,B_not] at c12))
 | (refine Qh ?_)
 | (refine Qt ?_;simp [-zg,-zd,↓Qb,↓Qa,go_sem])
 | (refine Qs ?_;simp [-zg,-zd,↓Qb,↓Qa,go_sem])
 | (refine Qv ?_;try simp [-zg,-zd,↓Qb,↓Qa,go_sem,Tryd.results16])
 | (intro hx;refine zA ?_)
 | (intro hx;change retR _ _ _ _ _)
 | (refine ⟨?_,?_⟩ <;> refine zA ?_)
 | (intro hx;constructor <;> intro hs)
 | (constructor <;> intro hs)
 | (refine ⟨?_,fun hs=>?_⟩;refine zA ?_)
 | (refine ⟨fun hs=>?_,?_⟩;rotate_left;refine zA ?_;rotate_left)))
  all_goals (first
 | (refine zaer _ (((za,zb,zc),(ya,yb,yc))) ?_ ?_ ?_;(first | exact Or.inl rfl | exact Or.inr rfl);(focus (simp [-zg,-zd,↓Qb,↓Qa,go_sem,Tryd.results16,dat,datL_map,li];done));(focus ((exact ⟨h3.2.2.2,f4⟩);done)))
 | skip)
@[go_sem] def zabm:Con:=.rel fun args H=>match args with
  | [.list n_xs c_xs]=>((Is cY n_xs c_xs),fun c=>(Vb (zaar (de cY c_xs) c),H))
  | _=>(False,fun _=>(.any,H))
theorem zaes:ConOk Tryd.prog 16 zabm:=by
  refine ⟨Qq Tryd.func16 (by decide) rfl,fun args H h=>?_⟩
  revert h
  dsimp only
  split
  · intro h
    obtain ⟨xs,rfl,rfl⟩:=h
    try simp only [Qj] at *
    exact SpecR.enc ((SpecR.frame0 (zaed xs ) (H:=H)).shut) fun c=>Prod.ext (zabw _  c).2.symm rfl
  · intro h
    exact h.elim
end
end Go.Proofs.YtnfldmfamnhpcaaDoor.Vm

