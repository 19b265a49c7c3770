/-
  Draws: automata bent; arguments. No conditions.
-/
import Derived.Test.YtnfldmfamnhpcaaY8
namespace Go.Proofs.Ytnfldmfamnhpcaa.Vm
open Go
open List renaming getD_eq_getElem?_getD → zg,drop_one → zd,replicate → zrP
open Ne renaming symm → zS
noncomputable section
set_option linter.unusedVariables false
set_option linter.unusedSimpArgs false
set_option maxRecDepth 200000

theorem SmallT.cons {x:Tr4} {xs:List Tr4}:SmallT (x :: xs) ↔ x.2.2.1 ≤ 9223372036854775807 ∧ SmallT xs:=by
  constructor
  · intro h
    exact ⟨h 0 (by simp),fun i hi=>h (i + 1) (by simp;omega)⟩
  · rintro ⟨h1,h2⟩ i hi
    cases i with
    | zero=>exact h1
    | succ i=>exact h2 i (by simpa using hi)
theorem set_cT:∀ (c:List Tr4) (ys:List D) (i:Nat) (v:Int),i < c.length * 4 → ∃ c':List Tr4,c'.length = c.length ∧ (SmallT c → v ≤ 9223372036854775807 → SmallT c') ∧ (cat cT c ++ ys).set i (.int .i64 v) = cat cT c' ++ ys
  | [],ys,i,v,h=>by simp at h
  | x :: c,ys,0,v,h=>⟨(v,x.2) :: c,by simp,fun k _=>by rw [SmallT.cons] at k ⊢;exact k,rfl⟩
  | x :: c,ys,1,v,h=>⟨(x.1,v,x.2.2) :: c,by simp,fun k _=>by rw [SmallT.cons] at k ⊢;exact k,rfl⟩
  | x :: c,ys,2,v,h=>⟨(x.1,x.2.1,v,x.2.2.2) :: c,by simp,fun k hv=>by rw [SmallT.cons] at k ⊢;exact ⟨hv,k.2⟩,rfl⟩
  | x :: c,ys,3,v,h=>⟨(x.1,x.2.1,x.2.2.1,v) :: c,by simp,fun k _=>by rw [SmallT.cons] at k ⊢;exact k,rfl⟩
  | x :: c,ys,i + 4,v,h=>by
    obtain ⟨c',h1,h2,h3⟩:=set_cT c ys i v (by simp only [List.length_cons] at h;omega)
    refine ⟨x :: c',by simp [h1],fun k hv=>?_,?_⟩
    · rw [SmallT.cons] at k ⊢;exact ⟨k.1,h2 k.2 hv⟩
    · show (cT x ++ cat cT c ++ ys).set (i + 4) _ = cT x ++ cat cT c' ++ ys
      rw [List.append_assoc,List.append_assoc,← h3]
      rfl
def LM (b ab zb:Nat) (ys:List UInt8) (a:List Int) (e:List Bool) (g:List Tr4) (cz jz:Nat) (q:Int) (H:Hp):Prop:=H b = some [.list ys.length (cat cY ys),.int .i64 (q)] ∧ H ab = some [.fr 1 a.length (cat cI a),.fr 1 e.length (cat cB e),.sl zb 4 0 g.length cz] ∧ H zb = some (cat cT g ++ zrP jz .any)

@[go_sem] def Ui:Au → D:=sA
theorem l7Mutate_flat (x:Au):dat (Ui x) = Ui x:=by simp [go_sem]
def zabu (a:List Int) (e:List Bool) (g:List Tr4):Au → Prop:=fun x=>x.1.length ≤ 5001 ∧ x.2.1.length ≤ 5000 ∧ x.2.2.length ≤ 5000 ∧ SmallT x.2.2
def zaia (a:List Int) (e:List Bool) (g:List Tr4) (x:(Au) × D):Prop:=zabu a e g x.1 ∧ dat x.2 = Ui x.1
def zaan (a:List Int) (e:List Bool) (g:List Tr4) (p:Int) (c:Any):((Au) × D) × Int:=dsel (zaia a e g) ((([],[],[]):Au),Ui (([],[],[]))) 3 p c
def Vc (a:List Int) (e:List Bool) (g:List Tr4) (p:Int) (c:Any):(Au) × Int:=((zaan a e g p c).1.1,(zaan a e g p c).2)
theorem zalg (a:List Int) (e:List Bool) (g:List Tr4) (hS:AuS (a,e,g)) (p:Int) (c:Any):(zabu a e g (Vc a e g p c).1 ∧ p ≤ (Vc a e g p c).2 ∧ (Vc a e g p c).2 ≤ p + 3) ∧ dat (zaan a e g p c).1.2 = Ui (Vc a e g p c).1:=by
  have hx:zabu a e g (([],[],[])):=⟨by simp,by simp,by simp,SmallT.nil⟩
  have h:=zamg (good:=zaia a e g) (x0:=((([],[],[]):Au),Ui (([],[],[])))) ⟨hx,l7Mutate_flat _⟩ (K:=3) (by omega) (p:=p) c
  exact ⟨⟨h.1.1,h.2.1,h.2.2⟩,h.1.2⟩
theorem zahz (a:List Int) (e:List Bool) (g:List Tr4) (hS:AuS (a,e,g)) (p:Int) (c:Any):zabu a e g (Vc a e g p c).1 ∧ p ≤ (Vc a e g p c).2 ∧ (Vc a e g p c).2 ≤ p + 3:=(zalg a e g hS p c).1
theorem zadt (a:List Int) (e:List Bool) (g:List Tr4) (ys:List UInt8) (p:Int) (b:Nat) {e_:Exit} {S_:St} (x:Au) (p':Int) (he_:e_ = .ret ∨ e_ = .normal)
    (h1:(Ql Try.prog S_ Try.f39.results.toList).1 ∧ dat (resD (Ql Try.prog S_ Try.f39.results.toList).2.1) = Ui x ∧ (Ql Try.prog S_ Try.f39.results.toList).2.2.H b = some [li cY ys,.int .i64 p']) (hg:zabu a e g x) (h2:p ≤ p' ∧ p' ≤ p + 3) :
    retR Try.prog Try.f39 (fun c=>((zaan a e g p c).1.2,one b [li cY ys,.int .i64 (zaan a e g p c).2])) e_ S_ :=
  zafw (good:=zaia a e g) (enc:=fun x:(Au) × D=>x.2) (cells:=fun q=>[li cY ys,.int .i64 q]) (x,resD (Ql Try.prog S_ Try.f39.results.toList).2.1) p' he_ ⟨h1.1,rfl,h1.2.2⟩ ⟨hg,h1.2.1⟩ h2
set_option maxHeartbeats 16000000 in
theorem l7Mutate_spec (ys:List UInt8) (p:Int) (b:Nat) (a:List Int) (e:List Bool) (g:List Tr4) (hl:ys.length ≤ 2000) (h0_:0 ≤ p) (hp_:p + 3 ≤ 1000000) (hS:AuS (a,e,g)):SpecR Try.prog 39 [.ptr b 0,.st [li cI a,li cB e,li cT g]] (one b [li cY ys,.int .i64 p]) (fun c=>((zaan a e g p c).1.2,one b [li cY ys,.int .i64 (zaan a e g p c).2])):=by
  refine SpecR.of_walk Try.func39 rfl (by simp [Try.f39]) fun B=>?_
  obtain ⟨s1,s2,s3,s4⟩:=hS;dsimp only at s1 s2 s3 s4
  all_goals (repeat' (first
 | refine Qu ?_
 | refine Qc (id:=0) Zt [] (by kernel_rfl) ?_;simp [-zg,-zd,↓Qb,↓Qa,go_sem];try (refine Xv 3 ?_;simp [go_sem])
 | refine Xr (id:=1) Zt mixed [] [3] (by kernel_rfl) (by kernel_rfl) (by simp [-zg,-zd,↓Qb,↓Qa,go_sem,(show a.length ≤ 9223372036854775807 by omega),(show 2 * a.length * 8 ≤ 281474976710656 by omega),(show e.length ≤ 9223372036854775807 by omega),(show 2 * e.length * 1 ≤ 281474976710656 by omega),(show 2 * e.length ≤ 281474976710656 by omega),(show g.length ≤ 9223372036854775807 by omega),(show 2 * g.length * 32 ≤ 281474976710656 by omega)]) ?_;simp [-zg,-zd,↓Qb,↓Qa,go_sem,(show a.length ≤ 9223372036854775807 by omega),(show 2 * a.length * 8 ≤ 281474976710656 by omega),(show e.length ≤ 9223372036854775807 by omega),(show 2 * e.length * 1 ≤ 281474976710656 by omega),(show 2 * e.length ≤ 281474976710656 by omega),(show g.length ≤ 9223372036854775807 by omega),(show 2 * g.length * 32 ≤ 281474976710656 by omega)];try ((refine Xu 5 rfl fun ab hab=>?_);(have nba:¬ b = ab:=(by rintro rfl;simp [upd] at hab));(clear hab);(refine Xs ab 2 (all:=[.fr 1 a.length (cat cI a),.fr 1 e.length (cat cB e),.fr 4 g.length (cat cT g)]) (by simp [upd]) rfl fun zb cz jz hzb hcz hdz=>?_);(have nbz:¬ b = zb:=(by rintro rfl;simp [upd,nba] at hzb));(have naz:¬ ab = zb:=(by rintro rfl;simp [upd] at hzb));(clear hzb);(refine Qq (fun H1=>LM b ab zb ys a e g cz jz p H1) ⟨by simp [upd,nba,zS nba,nbz,zS nbz,naz,zS naz],by simp [upd,nba,zS nba,nbz,zS nbz,naz,zS naz],by simp [upd]⟩ fun H1 ⟨w1,w2,w3⟩=>?_))
 | refine Qc (id:=2) Zt [] (by kernel_rfl) ?_;simp [-zg,-zd,↓Qb,↓Qa,go_sem,w1,hl,(show 0 ≤ p by omega),(show p ≤ 1000000 by omega),(show 0 ≤ p + 1 by omega),(show p + 1 ≤ 1000000 by omega)];try ((generalize pkI ys p 40 = kk at *);(refine Qq (fun H2=>LM b ab zb ys a e g cz jz (p + 1) H2) ⟨by simp [upd,nba,zS nba,nbz,zS nbz,naz,zS naz],by simp [upd,nba,zS nba,nbz,zS nbz,naz,zS naz,w2],by simp [upd,nba,zS nba,nbz,zS nbz,naz,zS naz,w3]⟩ fun H2 ⟨w1,w2,w3⟩=>?_))
 | refine Qc (id:=3) Zt [] (by kernel_rfl) ?_;simp [-zg,-zd,↓Qb,↓Qa,go_sem]
 | ((refine Xs ab 0 (all:=[.fr 1 a.length (cat cI a),.fr 1 e.length (cat cB e),.sl zb 4 0 g.length cz]) w2 rfl fun xb cx jx hxb hcx hdx=>?_);(have nbx:¬ b = xb:=(by rintro rfl;simp [upd,nba,w1] at hxb));(have nax:¬ ab = xb:=(by rintro rfl;simp [upd,w2] at hxb));(have nzx:¬ zb = xb:=(by rintro rfl;simp [upd,zS naz,w3] at hxb));(clear hxb));refine Xq (id:=4) Zt mixed [(ab,[.sl xb 1 0 a.length cx,.fr 1 e.length (cat cB e),.sl zb 4 0 g.length cz])] [] [] (by kernel_rfl) (by kernel_rfl) (by simp [-zg,-zd,↓Qb,↓Qa,go_sem,w1,hl,nba,zS nba,nbz,zS nbz,naz,zS naz,nbx,zS nbx,nax,zS nax,nzx,zS nzx,(show 0 ≤ p + 1 by omega),(show p + 1 ≤ 1000000 by omega),(show 0 ≤ p + 1 + 1 by omega),(show p + 1 + 1 ≤ 1000000 by omega),(show a.length ≤ 9223372036854775806 by omega),(show 2 * (a.length + 1) * 8 ≤ 281474976710656 by omega),(show cx ≤ a.length + jx by omega)]) (by simp [-zg,-zd,↓Qb,↓Qa,go_sem,w1,hl,nba,zS nba,nbz,zS nbz,naz,zS naz,nbx,zS nbx,nax,zS nax,nzx,zS nzx,(show 0 ≤ p + 1 by omega),(show p + 1 ≤ 1000000 by omega),(show 0 ≤ p + 1 + 1 by omega),(show p + 1 + 1 ≤ 1000000 by omega),(show a.length ≤ 9223372036854775806 by omega),(show 2 * (a.length + 1) * 8 ≤ 281474976710656 by omega),(show cx ≤ a.length + jx by omega)]) ?_;simp [-zg,-zd,↓Qb,↓Qa,go_sem,w1,hl,nba,zS nba,nbz,zS nbz,naz,zS naz,nbx,zS nbx,nax,zS nax,nzx,zS nzx,(show 0 ≤ p + 1 by omega),(show p + 1 ≤ 1000000 by omega),(show 0 ≤ p + 1 + 1 by omega),(show p + 1 + 1 ≤ 1000000 by omega),(show a.length ≤ 9223372036854775806 by omega),(show 2 * (a.length + 1) * 8 ≤ 281474976710656 by omega),(show cx ≤ a.length + jx by omega)];try ((generalize numI ys (p + 1) [0,-1,64,3] = vv at *);(refine Qq (fun H3=>LM b ab zb ys (a ++ [vv]) e g cz jz (p + 1 + 1) H3) ⟨by simp [upd,nba,zS nba,nbz,zS nbz,naz,zS naz,nbx,zS nbx,nax,zS nax],by simp [upd,nba,zS nba,nbz,zS nbz,naz,zS naz,nax,zS nax,Ja],by simp [upd,nba,zS nba,nbz,zS nbz,naz,zS naz,nzx,zS nzx,w3]⟩ fun H3 hM=>?_))
 | refine Qc (id:=5) Zt [] (by kernel_rfl) ?_;simp [-zg,-zd,↓Qb,↓Qa,go_sem]
 | refine Qc (id:=6) Zt [] (by kernel_rfl) ?_;simp [-zg,-zd,↓Qb,↓Qa,go_sem,w2]
 | ((have hc0:0 < g.length:=(by omega)));refine Xq (id:=7) Zt mixed [(ab,[.fr 1 a.length (cat cI a),.fr 1 e.length (cat cB e),.sl zb 4 0 g.length cz])] [] [] (by kernel_rfl) (by kernel_rfl) (by simp [-zg,-zd,↓Qb,↓Qa,go_sem,w1,w2,w3,hl,nba,zS nba,nbz,zS nbz,naz,zS naz,(show 0 ≤ p + 1 by omega),(show p + 1 ≤ 1000000 by omega),(show 0 ≤ p + 1 + 1 by omega),(show p + 1 + 1 ≤ 1000000 by omega),hc0,(show 4 ≤ g.length * 4 + jz by omega),(show 2 < g.length * 4 + jz by omega),(show 3 ≤ g.length * 4 + jz by omega)]) (by simp [-zg,-zd,↓Qb,↓Qa,go_sem,w1,w2,w3,hl,nba,zS nba,nbz,zS nbz,naz,zS naz,(show 0 ≤ p + 1 by omega),(show p + 1 ≤ 1000000 by omega),(show 0 ≤ p + 1 + 1 by omega),(show p + 1 + 1 ≤ 1000000 by omega),hc0,(show 4 ≤ g.length * 4 + jz by omega),(show 2 < g.length * 4 + jz by omega),(show 3 ≤ g.length * 4 + jz by omega)]) ?_;simp [-zg,-zd,↓Qb,↓Qa,go_sem,w1,w2,w3,hl,nba,zS nba,nbz,zS nbz,naz,zS naz,(show 0 ≤ p + 1 by omega),(show p + 1 ≤ 1000000 by omega),(show 0 ≤ p + 1 + 1 by omega),(show p + 1 + 1 ≤ 1000000 by omega),hc0,(show 4 ≤ g.length * 4 + jz by omega),(show 2 < g.length * 4 + jz by omega),(show 3 ≤ g.length * 4 + jz by omega)];try ((have hrv:=Un ys (p:=p + 1) (by omega) (xs:=[8,-1,7]) (lo:=-1) (hi:=8) (by simp) (by simp));(generalize numI ys (p + 1) [8,-1,7] = vv at *);(obtain ⟨g',hc1,hc2,hc3⟩:=set_cT g (zrP jz D.any) 2 vv (by omega));(have hc4:stSeg (cat cT g ++ zrP jz D.any) (2) [.int .i64 vv] = cat cT g' ++ zrP jz D.any:=hc3);(refine Qq (fun H1=>LM b ab zb ys a e g' cz jz (p + 1 + 1) H1) ⟨by simp [upd,nba,zS nba,nbz,zS nbz,naz,zS naz],by simp [upd,nba,zS nba,nbz,zS nbz,naz,zS naz,w2,hc1],by simp [upd,nba,zS nba,nbz,zS nbz,naz,zS naz,hc4]⟩ fun H2 hM=>?_))
 | refine Qc (id:=8) Zt [] (by kernel_rfl) ?_;simp [-zg,-zd,↓Qb,↓Qa,go_sem]
 | refine Qc (id:=9) Zt [] (by kernel_rfl) ?_;simp [-zg,-zd,↓Qb,↓Qa,go_sem,w2]
 | ((have hc0:0 < g.length:=(by omega)));refine Xq (id:=10) Zt mixed [(ab,[.fr 1 a.length (cat cI a),.fr 1 e.length (cat cB e),.sl zb 4 0 g.length cz])] [] [] (by kernel_rfl) (by kernel_rfl) (by simp [-zg,-zd,↓Qb,↓Qa,go_sem,w1,w2,w3,hl,nba,zS nba,nbz,zS nbz,naz,zS naz,(show 0 ≤ p + 1 by omega),(show p + 1 ≤ 1000000 by omega),(show 0 ≤ p + 1 + 1 by omega),(show p + 1 + 1 ≤ 1000000 by omega),hc0,(show 4 ≤ g.length * 4 + jz by omega),(show 3 < g.length * 4 + jz by omega)]) (by simp [-zg,-zd,↓Qb,↓Qa,go_sem,w1,w2,w3,hl,nba,zS nba,nbz,zS nbz,naz,zS naz,(show 0 ≤ p + 1 by omega),(show p + 1 ≤ 1000000 by omega),(show 0 ≤ p + 1 + 1 by omega),(show p + 1 + 1 ≤ 1000000 by omega),hc0,(show 4 ≤ g.length * 4 + jz by omega),(show 3 < g.length * 4 + jz by omega)]) ?_;simp [-zg,-zd,↓Qb,↓Qa,go_sem,w1,w2,w3,hl,nba,zS nba,nbz,zS nbz,naz,zS naz,(show 0 ≤ p + 1 by omega),(show p + 1 ≤ 1000000 by omega),(show 0 ≤ p + 1 + 1 by omega),(show p + 1 + 1 ≤ 1000000 by omega),hc0,(show 4 ≤ g.length * 4 + jz by omega),(show 3 < g.length * 4 + jz by omega)];try ((have hrv:=Un ys (p:=p + 1) (by omega) (xs:=[-1,0,64,9223372036854775807]) (lo:=-1) (hi:=9223372036854775807) (by simp) (by simp));(generalize numI ys (p + 1) [-1,0,64,9223372036854775807] = vv at *);(obtain ⟨g',hc1,hc2,hc3⟩:=set_cT g (zrP jz D.any) 3 vv (by omega));(have hc4:stSeg (cat cT g ++ zrP jz D.any) (3) [.int .i64 vv] = cat cT g' ++ zrP jz D.any:=hc3);(refine Qq (fun H1=>LM b ab zb ys a e g' cz jz (p + 1 + 1) H1) ⟨by simp [upd,nba,zS nba,nbz,zS nbz,naz,zS naz],by simp [upd,nba,zS nba,nbz,zS nbz,naz,zS naz,w2,hc1],by simp [upd,nba,zS nba,nbz,zS nbz,naz,zS naz,hc4]⟩ fun H2 hM=>?_))
 | refine Qc (id:=11) Zt [] (by kernel_rfl) ?_;simp [-zg,-zd,↓Qb,↓Qa,go_sem]
 | refine Qc (id:=12) Zt [] (by kernel_rfl) ?_;simp [-zg,-zd,↓Qb,↓Qa,go_sem]
 | refine Qc (id:=13) Zt [] (by kernel_rfl) ?_;simp [-zg,-zd,↓Qb,↓Qa,go_sem]
 | refine Qc (id:=14) Zt [] (by kernel_rfl) ?_;simp [-zg,-zd,↓Qb,↓Qa,go_sem,w2]
 | ((have hc0:0 < g.length:=(by omega)));refine Xq (id:=15) Zt mixed [(ab,[.fr 1 a.length (cat cI a),.fr 1 e.length (cat cB e),.sl zb 4 0 g.length cz])] [] [5] (by kernel_rfl) (by kernel_rfl) (by simp [-zg,-zd,↓Qb,↓Qa,go_sem,w1,w2,w3,hl,nba,zS nba,nbz,zS nbz,naz,zS naz,(show 0 ≤ p + 1 by omega),(show p + 1 ≤ 1000000 by omega),(show 0 ≤ p + 1 + 1 by omega),(show p + 1 + 1 ≤ 1000000 by omega),hc0,Qw (x:=(g.length:Int) - 1) (by omega) (by omega),(show 0 ≤ (g.length:Int) - 1 by omega),(show (g.length:Int) - 1 < (g.length:Int) by omega),(show ((g.length:Int) - 1).toNat = g.length - 1 by omega),(show (g.length - 1) * 4 + 4 ≤ g.length * 4 + jz by omega),(show (g.length - 1) * 4 + 1 < g.length * 4 + jz by omega),(show (1:Int) ≤ (g.length:Int) by omega),(show (g.length - 1) * 4 + 1 + 1 ≤ g.length * 4 + jz by omega),(show g.length - 1 < g.length by omega)]) (by simp [-zg,-zd,↓Qb,↓Qa,go_sem,w1,w2,w3,hl,nba,zS nba,nbz,zS nbz,naz,zS naz,(show 0 ≤ p + 1 by omega),(show p + 1 ≤ 1000000 by omega),(show 0 ≤ p + 1 + 1 by omega),(show p + 1 + 1 ≤ 1000000 by omega),hc0,Qw (x:=(g.length:Int) - 1) (by omega) (by omega),(show 0 ≤ (g.length:Int) - 1 by omega),(show (g.length:Int) - 1 < (g.length:Int) by omega),(show ((g.length:Int) - 1).toNat = g.length - 1 by omega),(show (g.length - 1) * 4 + 4 ≤ g.length * 4 + jz by omega),(show (g.length - 1) * 4 + 1 < g.length * 4 + jz by omega),(show (1:Int) ≤ (g.length:Int) by omega),(show (g.length - 1) * 4 + 1 + 1 ≤ g.length * 4 + jz by omega),(show g.length - 1 < g.length by omega)]) ?_;simp [-zg,-zd,↓Qb,↓Qa,go_sem,w1,w2,w3,hl,nba,zS nba,nbz,zS nbz,naz,zS naz,(show 0 ≤ p + 1 by omega),(show p + 1 ≤ 1000000 by omega),(show 0 ≤ p + 1 + 1 by omega),(show p + 1 + 1 ≤ 1000000 by omega),hc0,Qw (x:=(g.length:Int) - 1) (by omega) (by omega),(show 0 ≤ (g.length:Int) - 1 by omega),(show (g.length:Int) - 1 < (g.length:Int) by omega),(show ((g.length:Int) - 1).toNat = g.length - 1 by omega),(show (g.length - 1) * 4 + 4 ≤ g.length * 4 + jz by omega),(show (g.length - 1) * 4 + 1 < g.length * 4 + jz by omega),(show (1:Int) ≤ (g.length:Int) by omega),(show (g.length - 1) * 4 + 1 + 1 ≤ g.length * 4 + jz by omega),(show g.length - 1 < g.length by omega)];try ((have hrv:=Un ys (p:=p + 1) (by omega) (xs:=[8,-1,0]) (lo:=-1) (hi:=8) (by simp) (by simp));(generalize numI ys (p + 1) [8,-1,0] = vv at *);(obtain ⟨g',hc1,hc2,hc3⟩:=set_cT g (zrP jz D.any) ((g.length - 1) * 4 + 1) vv (by omega));(have hc4:stSeg (cat cT g ++ zrP jz D.any) (((g.length - 1) * 4 + 1)) [.int .i64 vv] = cat cT g' ++ zrP jz D.any:=hc3);(refine Qq (fun H1=>LM b ab zb ys a e g' cz jz (p + 1 + 1) H1) ⟨by simp [upd,nba,zS nba,nbz,zS nbz,naz,zS naz],by simp [upd,nba,zS nba,nbz,zS nbz,naz,zS naz,w2,hc1],by simp [upd,nba,zS nba,nbz,zS nbz,naz,zS naz,hc4]⟩ fun H2 hM=>?_))
 | (first | (obtain ⟨t1,t2,t3⟩:=hM;refine Zh ab 2 (b':=zb) (sz:=4) (m:=g'.length) (cp:=cz) (all:=[.fr 1 a.length (cat cI a),.fr 1 e.length (cat cB e),.sl zb 4 0 g'.length cz]) (cs:=cat cT g' ++ zrP jz .any) t2 rfl naz t3 (by omega) (by simp [Qx]) (by simp [Qx,hc1];omega) ?_;simp only [Zl (f:=cT)]) | (obtain ⟨t1,t2,t3⟩:=hM;obtain ⟨a',ha'⟩:∃ a',a ++ [vv] = a':=⟨_,rfl⟩;have hal:a'.length = a.length + 1:=(by rw [← ha'];simp);rw [ha'] at t2;refine Zh ab 2 (b':=zb) (sz:=4) (m:=g.length) (cp:=cz) (all:=[.fr 1 a'.length (cat cI a'),.fr 1 e.length (cat cB e),.sl zb 4 0 g.length cz]) (cs:=cat cT g ++ zrP jz .any) t2 rfl naz t3 (by omega) (by simp [Qx]) (by simp [Qx];omega) ?_;simp only [Zl (f:=cT)]) | (have t1:=w1;refine Zh ab 2 (b':=zb) (sz:=4) (m:=g.length) (cp:=cz) (all:=[.fr 1 a.length (cat cI a),.fr 1 e.length (cat cB e),.sl zb 4 0 g.length cz]) (cs:=cat cT g ++ zrP jz .any) w2 rfl naz w3 (by omega) (by simp [Qx]) (by simp [Qx];omega) ?_;simp only [Zl (f:=cT)]));refine Qc (id:=16) Zt [] (by kernel_rfl) ?_;simp [-zg,-zd,↓Qb,↓Qa,go_sem,nba,zS nba,nbz,zS nbz,naz,zS naz]
 | refine Qd (c:=.tmp 21) ?_;simp [-zg,-zd,↓Qb,↓Qa,go_sem];try first | (refine ⟨?_,?_⟩ <;> refine zA ?_) | (refine ⟨fun c21=>?_,fun c21=>?_⟩ <;> (try simp [B_iff,B_not] at c21))
 | refine Qd (c:=.tmp 31) ?_;simp [-zg,-zd,↓Qb,↓Qa,go_sem];try first | (refine ⟨?_,?_⟩ <;> refine zA ?_) | (refine ⟨fun c31=>?_,fun c31=>?_⟩ <;> (try simp [B_iff,B_not] at c31))
 | refine Qd (c:=.tmp 36) ?_;simp [-zg,-zd,↓Qb,↓Qa,go_sem];try first | (refine ⟨?_,?_⟩ <;> refine zA ?_) | (refine ⟨fun c36=>?_,fun c36=>?_⟩ <;> (try simp [B_iff,B_not] at c36))
 | refine Qd (c:=.tmp 44) ?_;simp [-zg,-zd,↓Qb,↓Qa,go_sem];try first | (refine ⟨?_,?_⟩ <;> refine zA ?_) | (refine ⟨fun c44=>?_,fun c44=>?_⟩ <;> (try simp [B_iff,B_not] at c44))
 | refine Qd (c:=.tmp 49) ?_;simp [-zg,-zd,↓Qb,↓Qa,go_sem];try first | (refine ⟨?_,?_⟩ <;> refine zA ?_) | (refine ⟨fun c49=>?_,fun c49=>?_⟩ <;> (try simp [B_iff,B_not] at c49))
 | refine Qd (c:=.tmp 57) ?_;simp [-zg,-zd,↓Qb,↓Qa,go_sem];try first | (refine ⟨?_,?_⟩ <;> refine zA ?_) | (refine ⟨fun c57=>?_,fun c57=>?_⟩ <;> (try simp [B_iff,B_not] at c57))
 | refine Qd (c:=.tmp 60) ?_;simp [-zg,-zd,↓Qb,↓Qa,go_sem];try first | (refine ⟨?_,?_⟩ <;> refine zA ?_) | (refine ⟨fun c60=>?_,fun c60=>?_⟩ <;> (try simp [B_iff,B_not] at c60))
 | refine Qd (c:=.tmp 65) ?_;simp [-zg,-zd,↓Qb,↓Qa,go_sem];try first | (refine ⟨?_,?_⟩ <;> refine zA ?_) | (refine ⟨fun c65=>?_,fun c65=>?_⟩ <;> (try simp [B_iff,B_not] at c65))
 | (refine Qe ?_)
 | (refine Qt ?_;simp [-zg,-zd,↓Qb,↓Qa,go_sem])
 | (refine Qs ?_;simp [-zg,-zd,↓Qb,↓Qa,go_sem])
 | (refine Qv ?_;try simp [-zg,-zd,↓Qb,↓Qa,go_sem,Try.results39])
 | (intro hx;refine zA ?_)
 | (intro hx;change retR _ _ _ _ _)
 | (refine ⟨?_,?_⟩ <;> refine zA ?_)
 | (intro hx;constructor <;> intro hs)
 | (constructor <;> intro hs)
 | (refine ⟨?_,fun hs=>?_⟩;refine zA ?_)
 | (refine ⟨fun hs=>?_,?_⟩;rotate_left;refine zA ?_;rotate_left)
 | ((fail_if_success change retR _ _ _ _ _);(exfalso;omega))))
  all_goals (first
 | (refine zadt _ _ _ _ _ _ (([],[],[])) (p + 1) ?_ ?_ ?_ ?_;(first | exact Or.inl rfl | exact Or.inr rfl);(focus (simp [-zg,-zd,↓Qb,↓Qa,go_sem,Try.results39,dat,datL,Xd,li,Xg,w1,nba,zS nba,nbz,zS nbz,naz,zS naz];done));(focus ((exact ⟨by simp,by simp,by simp,SmallT.nil⟩);done));(focus (refine ⟨?_,?_⟩ <;> omega)))
 | (refine zadt _ _ _ _ _ _ ((a,e,g')) (p + 1 + 1) ?_ ?_ ?_ ?_;(first | exact Or.inl rfl | exact Or.inr rfl);(focus (simp [-zg,-zd,↓Qb,↓Qa,go_sem,Try.results39,dat,Xd,li,Zj,t1,nba,zS nba,nbz,zS nbz,naz,zS naz];done));(focus ((exact ⟨by dsimp only;omega,by dsimp only;omega,by dsimp only;omega,hc2 s4 (by omega)⟩);done));(focus (refine ⟨?_,?_⟩ <;> omega)))
 | (refine zadt _ _ _ _ _ _ ((a',e,g)) (p + 1 + 1) ?_ ?_ ?_ ?_;(first | exact Or.inl rfl | exact Or.inr rfl);(focus (simp [-zg,-zd,↓Qb,↓Qa,go_sem,Try.results39,dat,Xd,li,Zj,t1,nba,zS nba,nbz,zS nbz,naz,zS naz];done));(focus ((exact ⟨by dsimp only;omega,by dsimp only;omega,by dsimp only;omega,s4⟩);done));(focus (refine ⟨?_,?_⟩ <;> omega)))
 | (refine zadt _ _ _ _ _ _ ((a,e,g)) (p + 1) ?_ ?_ ?_ ?_;(first | exact Or.inl rfl | exact Or.inr rfl);(focus (simp [-zg,-zd,↓Qb,↓Qa,go_sem,Try.results39,dat,Xd,li,Zj,t1,nba,zS nba,nbz,zS nbz,naz,zS naz];done));(focus ((exact ⟨by dsimp only;omega,by dsimp only;omega,by dsimp only;omega,s4⟩);done));(focus (refine ⟨?_,?_⟩ <;> omega)))
 | skip)
@[go_sem] def l7MutateC:Con:=.rel fun args H=>match args with
  | [.ptr b 0,.st [.list n_a c_a,.list n_e c_e,.list n_g c_g]]=>match H b with
    | some [.list m cs,.int .i64 p]=>((Is cY m cs) ∧ (m ≤ 2000) ∧ (0 ≤ p) ∧ (p + 3 ≤ 1000000) ∧ (Is cI n_a c_a) ∧ (Is cB n_e c_e) ∧ (Is cT n_g c_g) ∧ (AuS ((de cI c_a),(de cB c_e),(de cT c_g))),fun c=>(Ui (Vc (de cI c_a) (de cB c_e) (de cT c_g) p c).1,upd H b (some [.list m cs,.int .i64 (Vc (de cI c_a) (de cB c_e) (de cT c_g) p c).2])))
    | _=>(False,fun _=>(.any,H))
  | _=>(False,fun _=>(.any,H))
theorem l7MutateC_ok:ConOk Try.prog 39 l7MutateC:=by
  refine ⟨Qp Try.func39 (by decide) rfl,fun args H h=>?_⟩
  revert h
  dsimp only
  split
  · split
    · rename_i hH
      intro h
      obtain ⟨⟨ys,rfl,rfl⟩,hl,h0_,hp_,⟨a,rfl,rfl⟩,⟨e,rfl,rfl⟩,⟨g,rfl,rfl⟩,hS⟩:=h
      try simp only [Qr] at *
      exact SpecR.enc ((l7Mutate_spec ys _ _ a e g hl h0_ hp_ hS).frame hH).shut fun c=>Prod.ext (zalg _ _ _ hS _ _).2.symm rfl
    · intro h;exact h.elim
  · intro h
    exact h.elim
@[go_sem] def Γy28:FuncId → Con:=ext Γy27 39 l7MutateC
theorem Γy28_ok:∀ g,ConOk Try.prog g (Γy28 g):=Qo Zt l7MutateC_ok

theorem AuS.of {x:Au} (h:x.1.length ≤ 5000 ∧ x.2.1.length ≤ 5000 ∧ x.2.2.length ≤ 5000 ∧ SmallT x.2.2):AuS x:=h
def AuM (x:Au):Prop:=x.1.length ≤ 5001 ∧ x.2.1.length ≤ 5000 ∧ x.2.2.length ≤ 5000 ∧ SmallT x.2.2
theorem AuM.nil:AuM ([],[],[]):=⟨by simp,by simp,by simp,SmallT.nil⟩
@[go_sem] def Γy29:FuncId → Con:=Γy28
theorem Γy29_ok:∀ g,ConOk Try.prog g (Γy29 g):=Γy28_ok

@[go_sem] def Γy30:FuncId → Con:=Γy29
theorem Wo:∀ g,ConOk Try.prog g (Γy30 g):=Γy29_ok
end
end Go.Proofs.Ytnfldmfamnhpcaa.Vm

