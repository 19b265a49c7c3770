import Derived.Test.YtkjimmkemnmajaaY8
/-
  Draws: automata bent; arguments. No conditions.
-/
namespace Go.Proofs.Ytkjimmkemnmajaa.Vm
open Go
open List renaming getD_eq_getElem?_getD → zg,drop_one → zd,replicate → zrP
open Ne renaming symm → zS
noncomputable section
set_option linter.unusedVariables false
set_option linter.unusedSimpArgs false
set_option maxRecDepth 200000

theorem SmallT.cons {x:Tr4} {xs:List Tr4}:SmallT (x :: xs) ↔ x.2.2.1 ≤ 9223372036854775807 ∧ SmallT xs:=by
  constructor
  · intro h
    exact ⟨h 0 (by simp),fun i hi=>h (i + 1) (by simp;omega)⟩
  · rintro ⟨h1,h2⟩ i hi
    cases i with
    | zero=>exact h1
    | succ i=>exact h2 i (by simpa using hi)
theorem set_cT:∀ (c:List Tr4) (ys:List D) (i:Nat) (v:Int),i < c.length * 4 → ∃ c':List Tr4,c'.length = c.length ∧ (SmallT c → v ≤ 9223372036854775807 → SmallT c') ∧ (cat cT c ++ ys).set i (.int .i64 v) = cat cT c' ++ ys
  | [],ys,i,v,h=>by simp at h
  | x :: c,ys,0,v,h=>⟨(v,x.2) :: c,by simp,fun k _=>by rw [SmallT.cons] at k ⊢;exact k,rfl⟩
  | x :: c,ys,1,v,h=>⟨(x.1,v,x.2.2) :: c,by simp,fun k _=>by rw [SmallT.cons] at k ⊢;exact k,rfl⟩
  | x :: c,ys,2,v,h=>⟨(x.1,x.2.1,v,x.2.2.2) :: c,by simp,fun k hv=>by rw [SmallT.cons] at k ⊢;exact ⟨hv,k.2⟩,rfl⟩
  | x :: c,ys,3,v,h=>⟨(x.1,x.2.1,x.2.2.1,v) :: c,by simp,fun k _=>by rw [SmallT.cons] at k ⊢;exact k,rfl⟩
  | x :: c,ys,i + 4,v,h=>by
    obtain ⟨c',h1,h2,h3⟩:=set_cT c ys i v (by simp only [List.length_cons] at h;omega)
    refine ⟨x :: c',by simp [h1],fun k hv=>?_,?_⟩
    · rw [SmallT.cons] at k ⊢;exact ⟨k.1,h2 k.2 hv⟩
    · show (cT x ++ cat cT c ++ ys).set (i + 4) _ = cT x ++ cat cT c' ++ ys
      rw [List.append_assoc,List.append_assoc,← h3]
      rfl
def LM (b ab zb:Nat) (ys:List UInt8) (a:List Int) (e:List Bool) (g:List Tr4) (cz jz:Nat) (q:Int) (H:Hp):Prop:=H b = some [.list ys.length (cat cY ys),.int .i64 (q)] ∧ H ab = some [.fr 1 a.length (cat cI a),.fr 1 e.length (cat cB e),.sl zb 4 0 g.length cz] ∧ H zb = some (cat cT g ++ zrP jz .any)

@[go_sem] def Us:Au → D:=sA
theorem l7Mutate_flat (x:Au):dat (Us x) = Us x:=by simp [go_sem]
def zabt (a:List Int) (e:List Bool) (g:List Tr4):Au → Prop:=fun x=>x.1.length ≤ 5001 ∧ x.2.1.length ≤ 5000 ∧ x.2.2.length ≤ 5000 ∧ SmallT x.2.2
def zais (a:List Int) (e:List Bool) (g:List Tr4) (x:(Au) × D):Prop:=zabt a e g x.1 ∧ dat x.2 = Us x.1
def zaao (a:List Int) (e:List Bool) (g:List Tr4) (p:Int) (c:Any):((Au) × D) × Int:=dsel (zais a e g) ((([],[],[]):Au),Us (([],[],[]))) 3 p c
def Ue (a:List Int) (e:List Bool) (g:List Tr4) (p:Int) (c:Any):(Au) × Int:=((zaao a e g p c).1.1,(zaao a e g p c).2)
theorem zamn (a:List Int) (e:List Bool) (g:List Tr4) (hS:AuS (a,e,g)) (p:Int) (c:Any):(zabt a e g (Ue a e g p c).1 ∧ p ≤ (Ue a e g p c).2 ∧ (Ue a e g p c).2 ≤ p + 3) ∧ dat (zaao a e g p c).1.2 = Us (Ue a e g p c).1:=by
  have hx:zabt a e g (([],[],[])):=⟨by simp,by simp,by simp,SmallT.nil⟩
  have h:=dsel_ok (good:=zais a e g) (x0:=((([],[],[]):Au),Us (([],[],[])))) ⟨hx,l7Mutate_flat _⟩ (K:=3) (by omega) (p:=p) c
  exact ⟨⟨h.1.1,h.2.1,h.2.2⟩,h.1.2⟩
theorem l7Mutate_ok (a:List Int) (e:List Bool) (g:List Tr4) (hS:AuS (a,e,g)) (p:Int) (c:Any):zabt a e g (Ue a e g p c).1 ∧ p ≤ (Ue a e g p c).2 ∧ (Ue a e g p c).2 ≤ p + 3:=(zamn a e g hS p c).1
theorem zadx (a:List Int) (e:List Bool) (g:List Tr4) (ys:List UInt8) (p:Int) (b:Nat) {e_:Exit} {S_:St} (x:Au) (p':Int) (he_:e_ = .ret ∨ e_ = .normal)
    (h1:(Qk Try.prog S_ Try.f130.results.toList).1 ∧ dat (resD (Qk Try.prog S_ Try.f130.results.toList).2.1) = Us x ∧ (Qk Try.prog S_ Try.f130.results.toList).2.2.H b = some [li cY ys,.int .i64 p']) (hg:zabt a e g x) (h2:p ≤ p' ∧ p' ≤ p + 3) :
    retR Try.prog Try.f130 (fun c=>((zaao a e g p c).1.2,one b [li cY ys,.int .i64 (zaao a e g p c).2])) e_ S_ :=
  ret_draw (good:=zais a e g) (enc:=fun x:(Au) × D=>x.2) (cells:=fun q=>[li cY ys,.int .i64 q]) (x,resD (Qk Try.prog S_ Try.f130.results.toList).2.1) p' he_ ⟨h1.1,rfl,h1.2.2⟩ ⟨hg,h1.2.1⟩ h2
set_option maxHeartbeats 16000000 in
theorem l7Mutate_spec (ys:List UInt8) (p:Int) (b:Nat) (a:List Int) (e:List Bool) (g:List Tr4) (hl:ys.length ≤ 2000) (h0_:0 ≤ p) (hp_:p + 3 ≤ 1000000) (hS:AuS (a,e,g)):SpecR Try.prog 130 [.ptr b 0,.st [li cI a,li cB e,li cT g]] (one b [li cY ys,.int .i64 p]) (fun c=>((zaao a e g p c).1.2,one b [li cY ys,.int .i64 (zaao a e g p c).2])):=by
  refine SpecR.of_walk Try.func130 rfl (by simp [Try.f130]) fun B=>?_
  obtain ⟨s1,s2,s3,s4⟩:=hS;dsimp only at s1 s2 s3 s4
  all_goals (repeat' (first
 | refine Qt ?_
 | refine Qc (id:=0) Zv [] (by kernel_rfl) ?_;simp [-zg,-zd,↓Qb,↓Qa,go_sem];try (refine Zr 3 ?_;simp [go_sem])
 | refine Xu (id:=1) Zv mixed [] [3] (by kernel_rfl) (by kernel_rfl) (by simp [-zg,-zd,↓Qb,↓Qa,go_sem,(show a.length ≤ 9223372036854775807 by omega),(show 2 * a.length * 8 ≤ 281474976710656 by omega),(show e.length ≤ 9223372036854775807 by omega),(show 2 * e.length * 1 ≤ 281474976710656 by omega),(show 2 * e.length ≤ 281474976710656 by omega),(show g.length ≤ 9223372036854775807 by omega),(show 2 * g.length * 32 ≤ 281474976710656 by omega)]) ?_;simp [-zg,-zd,↓Qb,↓Qa,go_sem,(show a.length ≤ 9223372036854775807 by omega),(show 2 * a.length * 8 ≤ 281474976710656 by omega),(show e.length ≤ 9223372036854775807 by omega),(show 2 * e.length * 1 ≤ 281474976710656 by omega),(show 2 * e.length ≤ 281474976710656 by omega),(show g.length ≤ 9223372036854775807 by omega),(show 2 * g.length * 32 ≤ 281474976710656 by omega)];try ((refine Zi 5 rfl fun ab hab=>?_);(have nba:¬ b = ab:=(by rintro rfl;simp [upd] at hab));(clear hab);(refine Zu ab 2 (all:=[.fr 1 a.length (cat cI a),.fr 1 e.length (cat cB e),.fr 4 g.length (cat cT g)]) (by simp [upd]) rfl fun zb cz jz hzb hcz hdz=>?_);(have nbz:¬ b = zb:=(by rintro rfl;simp [upd,nba] at hzb));(have naz:¬ ab = zb:=(by rintro rfl;simp [upd] at hzb));(clear hzb);(refine Qx (fun H1=>LM b ab zb ys a e g cz jz p H1) ⟨by simp [upd,nba,zS nba,nbz,zS nbz,naz,zS naz],by simp [upd,nba,zS nba,nbz,zS nbz,naz,zS naz],by simp [upd]⟩ fun H1 ⟨w1,w2,w3⟩=>?_))
 | refine Qc (id:=2) Zv [] (by kernel_rfl) ?_;simp [-zg,-zd,↓Qb,↓Qa,go_sem,w1,hl,(show 0 ≤ p by omega),(show p ≤ 1000000 by omega),(show 0 ≤ p + 1 by omega),(show p + 1 ≤ 1000000 by omega)];try ((generalize pkI ys p 40 = kk at *);(refine Qx (fun H2=>LM b ab zb ys a e g cz jz (p + 1) H2) ⟨by simp [upd,nba,zS nba,nbz,zS nbz,naz,zS naz],by simp [upd,nba,zS nba,nbz,zS nbz,naz,zS naz,w2],by simp [upd,nba,zS nba,nbz,zS nbz,naz,zS naz,w3]⟩ fun H2 ⟨w1,w2,w3⟩=>?_))
 | refine Qc (id:=3) Zv [] (by kernel_rfl) ?_;simp [-zg,-zd,↓Qb,↓Qa,go_sem]
 | ((refine Zu ab 0 (all:=[.fr 1 a.length (cat cI a),.fr 1 e.length (cat cB e),.sl zb 4 0 g.length cz]) w2 rfl fun xb cx jx hxb hcx hdx=>?_);(have nbx:¬ b = xb:=(by rintro rfl;simp [upd,nba,w1] at hxb));(have nax:¬ ab = xb:=(by rintro rfl;simp [upd,w2] at hxb));(have nzx:¬ zb = xb:=(by rintro rfl;simp [upd,zS naz,w3] at hxb));(clear hxb));refine Xx (id:=4) Zv mixed [(ab,[.sl xb 1 0 a.length cx,.fr 1 e.length (cat cB e),.sl zb 4 0 g.length cz])] [] [] (by kernel_rfl) (by kernel_rfl) (by simp [-zg,-zd,↓Qb,↓Qa,go_sem,w1,hl,nba,zS nba,nbz,zS nbz,naz,zS naz,nbx,zS nbx,nax,zS nax,nzx,zS nzx,(show 0 ≤ p + 1 by omega),(show p + 1 ≤ 1000000 by omega),(show 0 ≤ p + 1 + 1 by omega),(show p + 1 + 1 ≤ 1000000 by omega),(show a.length ≤ 9223372036854775806 by omega),(show 2 * (a.length + 1) * 8 ≤ 281474976710656 by omega),(show cx ≤ a.length + jx by omega)]) (by simp [-zg,-zd,↓Qb,↓Qa,go_sem,w1,hl,nba,zS nba,nbz,zS nbz,naz,zS naz,nbx,zS nbx,nax,zS nax,nzx,zS nzx,(show 0 ≤ p + 1 by omega),(show p + 1 ≤ 1000000 by omega),(show 0 ≤ p + 1 + 1 by omega),(show p + 1 + 1 ≤ 1000000 by omega),(show a.length ≤ 9223372036854775806 by omega),(show 2 * (a.length + 1) * 8 ≤ 281474976710656 by omega),(show cx ≤ a.length + jx by omega)]) ?_;simp [-zg,-zd,↓Qb,↓Qa,go_sem,w1,hl,nba,zS nba,nbz,zS nbz,naz,zS naz,nbx,zS nbx,nax,zS nax,nzx,zS nzx,(show 0 ≤ p + 1 by omega),(show p + 1 ≤ 1000000 by omega),(show 0 ≤ p + 1 + 1 by omega),(show p + 1 + 1 ≤ 1000000 by omega),(show a.length ≤ 9223372036854775806 by omega),(show 2 * (a.length + 1) * 8 ≤ 281474976710656 by omega),(show cx ≤ a.length + jx by omega)];try ((generalize numI ys (p + 1) [0,-1,64,3] = vv at *);(refine Qx (fun H3=>LM b ab zb ys (a ++ [vv]) e g cz jz (p + 1 + 1) H3) ⟨by simp [upd,nba,zS nba,nbz,zS nbz,naz,zS naz,nbx,zS nbx,nax,zS nax],by simp [upd,nba,zS nba,nbz,zS nbz,naz,zS naz,nax,zS nax,Xv],by simp [upd,nba,zS nba,nbz,zS nbz,naz,zS naz,nzx,zS nzx,w3]⟩ fun H3 hM=>?_))
 | refine Qc (id:=5) Zv [] (by kernel_rfl) ?_;simp [-zg,-zd,↓Qb,↓Qa,go_sem]
 | refine Qc (id:=6) Zv [] (by kernel_rfl) ?_;simp [-zg,-zd,↓Qb,↓Qa,go_sem,w2]
 | ((have hc0:0 < g.length:=(by omega)));refine Xx (id:=7) Zv mixed [(ab,[.fr 1 a.length (cat cI a),.fr 1 e.length (cat cB e),.sl zb 4 0 g.length cz])] [] [] (by kernel_rfl) (by kernel_rfl) (by simp [-zg,-zd,↓Qb,↓Qa,go_sem,w1,w2,w3,hl,nba,zS nba,nbz,zS nbz,naz,zS naz,(show 0 ≤ p + 1 by omega),(show p + 1 ≤ 1000000 by omega),(show 0 ≤ p + 1 + 1 by omega),(show p + 1 + 1 ≤ 1000000 by omega),hc0,(show 4 ≤ g.length * 4 + jz by omega),(show 2 < g.length * 4 + jz by omega),(show 3 ≤ g.length * 4 + jz by omega)]) (by simp [-zg,-zd,↓Qb,↓Qa,go_sem,w1,w2,w3,hl,nba,zS nba,nbz,zS nbz,naz,zS naz,(show 0 ≤ p + 1 by omega),(show p + 1 ≤ 1000000 by omega),(show 0 ≤ p + 1 + 1 by omega),(show p + 1 + 1 ≤ 1000000 by omega),hc0,(show 4 ≤ g.length * 4 + jz by omega),(show 2 < g.length * 4 + jz by omega),(show 3 ≤ g.length * 4 + jz by omega)]) ?_;simp [-zg,-zd,↓Qb,↓Qa,go_sem,w1,w2,w3,hl,nba,zS nba,nbz,zS nbz,naz,zS naz,(show 0 ≤ p + 1 by omega),(show p + 1 ≤ 1000000 by omega),(show 0 ≤ p + 1 + 1 by omega),(show p + 1 + 1 ≤ 1000000 by omega),hc0,(show 4 ≤ g.length * 4 + jz by omega),(show 2 < g.length * 4 + jz by omega),(show 3 ≤ g.length * 4 + jz by omega)];try ((have hrv:=zadk ys (p:=p + 1) (by omega) (xs:=[8,-1,7]) (lo:=-1) (hi:=8) (by simp) (by simp));(generalize numI ys (p + 1) [8,-1,7] = vv at *);(obtain ⟨g',hc1,hc2,hc3⟩:=set_cT g (zrP jz D.any) 2 vv (by omega));(have hc4:stSeg (cat cT g ++ zrP jz D.any) (2) [.int .i64 vv] = cat cT g' ++ zrP jz D.any:=hc3);(refine Qx (fun H1=>LM b ab zb ys a e g' cz jz (p + 1 + 1) H1) ⟨by simp [upd,nba,zS nba,nbz,zS nbz,naz,zS naz],by simp [upd,nba,zS nba,nbz,zS nbz,naz,zS naz,w2,hc1],by simp [upd,nba,zS nba,nbz,zS nbz,naz,zS naz,hc4]⟩ fun H2 hM=>?_))
 | refine Qc (id:=8) Zv [] (by kernel_rfl) ?_;simp [-zg,-zd,↓Qb,↓Qa,go_sem]
 | refine Qc (id:=9) Zv [] (by kernel_rfl) ?_;simp [-zg,-zd,↓Qb,↓Qa,go_sem,w2]
 | ((have hc0:0 < g.length:=(by omega)));refine Xx (id:=10) Zv mixed [(ab,[.fr 1 a.length (cat cI a),.fr 1 e.length (cat cB e),.sl zb 4 0 g.length cz])] [] [] (by kernel_rfl) (by kernel_rfl) (by simp [-zg,-zd,↓Qb,↓Qa,go_sem,w1,w2,w3,hl,nba,zS nba,nbz,zS nbz,naz,zS naz,(show 0 ≤ p + 1 by omega),(show p + 1 ≤ 1000000 by omega),(show 0 ≤ p + 1 + 1 by omega),(show p + 1 + 1 ≤ 1000000 by omega),hc0,(show 4 ≤ g.length * 4 + jz by omega),(show 3 < g.length * 4 + jz by omega)]) (by simp [-zg,-zd,↓Qb,↓Qa,go_sem,w1,w2,w3,hl,nba,zS nba,nbz,zS nbz,naz,zS naz,(show 0 ≤ p + 1 by omega),(show p + 1 ≤ 1000000 by omega),(show 0 ≤ p + 1 + 1 by omega),(show p + 1 + 1 ≤ 1000000 by omega),hc0,(show 4 ≤ g.length * 4 + jz by omega),(show 3 < g.length * 4 + jz by omega)]) ?_;simp [-zg,-zd,↓Qb,↓Qa,go_sem,w1,w2,w3,hl,nba,zS nba,nbz,zS nbz,naz,zS naz,(show 0 ≤ p + 1 by omega),(show p + 1 ≤ 1000000 by omega),(show 0 ≤ p + 1 + 1 by omega),(show p + 1 + 1 ≤ 1000000 by omega),hc0,(show 4 ≤ g.length * 4 + jz by omega),(show 3 < g.length * 4 + jz by omega)];try ((have hrv:=zadk ys (p:=p + 1) (by omega) (xs:=[-1,0,64,9223372036854775807]) (lo:=-1) (hi:=9223372036854775807) (by simp) (by simp));(generalize numI ys (p + 1) [-1,0,64,9223372036854775807] = vv at *);(obtain ⟨g',hc1,hc2,hc3⟩:=set_cT g (zrP jz D.any) 3 vv (by omega));(have hc4:stSeg (cat cT g ++ zrP jz D.any) (3) [.int .i64 vv] = cat cT g' ++ zrP jz D.any:=hc3);(refine Qx (fun H1=>LM b ab zb ys a e g' cz jz (p + 1 + 1) H1) ⟨by simp [upd,nba,zS nba,nbz,zS nbz,naz,zS naz],by simp [upd,nba,zS nba,nbz,zS nbz,naz,zS naz,w2,hc1],by simp [upd,nba,zS nba,nbz,zS nbz,naz,zS naz,hc4]⟩ fun H2 hM=>?_))
 | refine Qc (id:=11) Zv [] (by kernel_rfl) ?_;simp [-zg,-zd,↓Qb,↓Qa,go_sem]
 | refine Qc (id:=12) Zv [] (by kernel_rfl) ?_;simp [-zg,-zd,↓Qb,↓Qa,go_sem]
 | refine Qc (id:=13) Zv [] (by kernel_rfl) ?_;simp [-zg,-zd,↓Qb,↓Qa,go_sem]
 | refine Qc (id:=14) Zv [] (by kernel_rfl) ?_;simp [-zg,-zd,↓Qb,↓Qa,go_sem,w2]
 | ((have hc0:0 < g.length:=(by omega)));refine Xx (id:=15) Zv mixed [(ab,[.fr 1 a.length (cat cI a),.fr 1 e.length (cat cB e),.sl zb 4 0 g.length cz])] [] [5] (by kernel_rfl) (by kernel_rfl) (by simp [-zg,-zd,↓Qb,↓Qa,go_sem,w1,w2,w3,hl,nba,zS nba,nbz,zS nbz,naz,zS naz,(show 0 ≤ p + 1 by omega),(show p + 1 ≤ 1000000 by omega),(show 0 ≤ p + 1 + 1 by omega),(show p + 1 + 1 ≤ 1000000 by omega),hc0,Qv (x:=(g.length:Int) - 1) (by omega) (by omega),(show 0 ≤ (g.length:Int) - 1 by omega),(show (g.length:Int) - 1 < (g.length:Int) by omega),(show ((g.length:Int) - 1).toNat = g.length - 1 by omega),(show (g.length - 1) * 4 + 4 ≤ g.length * 4 + jz by omega),(show (g.length - 1) * 4 + 1 < g.length * 4 + jz by omega),(show (1:Int) ≤ (g.length:Int) by omega),(show (g.length - 1) * 4 + 1 + 1 ≤ g.length * 4 + jz by omega),(show g.length - 1 < g.length by omega)]) (by simp [-zg,-zd,↓Qb,↓Qa,go_sem,w1,w2,w3,hl,nba,zS nba,nbz,zS nbz,naz,zS naz,(show 0 ≤ p + 1 by omega),(show p + 1 ≤ 1000000 by omega),(show 0 ≤ p + 1 + 1 by omega),(show p + 1 + 1 ≤ 1000000 by omega),hc0,Qv (x:=(g.length:Int) - 1) (by omega) (by omega),(show 0 ≤ (g.length:Int) - 1 by omega),(show (g.length:Int) - 1 < (g.length:Int) by omega),(show ((g.length:Int) - 1).toNat = g.length - 1 by omega),(show (g.length - 1) * 4 + 4 ≤ g.length * 4 + jz by omega),(show (g.length - 1) * 4 + 1 < g.length * 4 + jz by omega),(show (1:Int) ≤ (g.length:Int) by omega),(show (g.length - 1) * 4 + 1 + 1 ≤ g.length * 4 + jz by omega),(show g.length - 1 < g.length by omega)]) ?_;simp [-zg,-zd,↓Qb,↓Qa,go_sem,w1,w2,w3,hl,nba,zS nba,nbz,zS nbz,naz,zS naz,(show 0 ≤ p + 1 by omega),(show p + 1 ≤ 1000000 by omega),(show 0 ≤ p + 1 + 1 by omega),(show p + 1 + 1 ≤ 1000000 by omega),hc0,Qv (x:=(g.length:Int) - 1) (by omega) (by omega),(show 0 ≤ (g.length:Int) - 1 by omega),(show (g.length:Int) - 1 < (g.length:Int) by omega),(show ((g.length:Int) - 1).toNat = g.length - 1 by omega),(show (g.length - 1) * 4 + 4 ≤ g.length * 4 + jz by omega),(show (g.length - 1) * 4 + 1 < g.length * 4 + jz by omega),(show (1:Int) ≤ (g.length:Int) by omega),(show (g.length - 1) * 4 + 1 + 1 ≤ g.length * 4 + jz by omega),(show g.length - 1 < g.length by omega)];try ((have hrv:=zadk ys (p:=p + 1) (by omega) (xs:=[8,-1,0]) (lo:=-1) (hi:=8) (by simp) (by simp));(generalize numI ys (p + 1) [8,-1,0] = vv at *);(obtain ⟨g',hc1,hc2,hc3⟩:=set_cT g (zrP jz D.any) ((g.length - 1) * 4 + 1) vv (by omega));(have hc4:stSeg (cat cT g ++ zrP jz D.any) (((g.length - 1) * 4 + 1)) [.int .i64 vv] = cat cT g' ++ zrP jz D.any:=hc3);(refine Qx (fun H1=>LM b ab zb ys a e g' cz jz (p + 1 + 1) H1) ⟨by simp [upd,nba,zS nba,nbz,zS nbz,naz,zS naz],by simp [upd,nba,zS nba,nbz,zS nbz,naz,zS naz,w2,hc1],by simp [upd,nba,zS nba,nbz,zS nbz,naz,zS naz,hc4]⟩ fun H2 hM=>?_))
 | (first | (obtain ⟨t1,t2,t3⟩:=hM;refine Vu ab 2 (b':=zb) (sz:=4) (m:=g'.length) (cp:=cz) (all:=[.fr 1 a.length (cat cI a),.fr 1 e.length (cat cB e),.sl zb 4 0 g'.length cz]) (cs:=cat cT g' ++ zrP jz .any) t2 rfl naz t3 (by omega) (by simp [Qz]) (by simp [Qz,hc1];omega) ?_;simp only [zabo (f:=cT)]) | (obtain ⟨t1,t2,t3⟩:=hM;obtain ⟨a',ha'⟩:∃ a',a ++ [vv] = a':=⟨_,rfl⟩;have hal:a'.length = a.length + 1:=(by rw [← ha'];simp);rw [ha'] at t2;refine Vu ab 2 (b':=zb) (sz:=4) (m:=g.length) (cp:=cz) (all:=[.fr 1 a'.length (cat cI a'),.fr 1 e.length (cat cB e),.sl zb 4 0 g.length cz]) (cs:=cat cT g ++ zrP jz .any) t2 rfl naz t3 (by omega) (by simp [Qz]) (by simp [Qz];omega) ?_;simp only [zabo (f:=cT)]) | (have t1:=w1;refine Vu ab 2 (b':=zb) (sz:=4) (m:=g.length) (cp:=cz) (all:=[.fr 1 a.length (cat cI a),.fr 1 e.length (cat cB e),.sl zb 4 0 g.length cz]) (cs:=cat cT g ++ zrP jz .any) w2 rfl naz w3 (by omega) (by simp [Qz]) (by simp [Qz];omega) ?_;simp only [zabo (f:=cT)]));refine Qc (id:=16) Zv [] (by kernel_rfl) ?_;simp [-zg,-zd,↓Qb,↓Qa,go_sem,nba,zS nba,nbz,zS nbz,naz,zS naz]
 | refine Qd (c:=.tmp 21) ?_;simp [-zg,-zd,↓Qb,↓Qa,go_sem];try first | (refine ⟨?_,?_⟩ <;> refine zA ?_) | (refine ⟨fun c21=>?_,fun c21=>?_⟩ <;> (try simp [B_iff,B_not] at c21))
 | refine Qd (c:=.tmp 31) ?_;simp [-zg,-zd,↓Qb,↓Qa,go_sem];try first | (refine ⟨?_,?_⟩ <;> refine zA ?_) | (refine ⟨fun c31=>?_,fun c31=>?_⟩ <;> (try simp [B_iff,B_not] at c31))
 | refine Qd (c:=.tmp 36) ?_;simp [-zg,-zd,↓Qb,↓Qa,go_sem];try first | (refine ⟨?_,?_⟩ <;> refine zA ?_) | (refine ⟨fun c36=>?_,fun c36=>?_⟩ <;> (try simp [B_iff,B_not] at c36))
 | refine Qd (c:=.tmp 44) ?_;simp [-zg,-zd,↓Qb,↓Qa,go_sem];try first | (refine ⟨?_,?_⟩ <;> refine zA ?_) | (refine ⟨fun c44=>?_,fun c44=>?_⟩ <;> (try simp [B_iff,B_not] at c44))
 | refine Qd (c:=.tmp 49) ?_;simp [-zg,-zd,↓Qb,↓Qa,go_sem];try first | (refine ⟨?_,?_⟩ <;> refine zA ?_) | (refine ⟨fun c49=>?_,fun c49=>?_⟩ <;> (try simp [B_iff,B_not] at c49))
 | refine Qd (c:=.tmp 57) ?_;simp [-zg,-zd,↓Qb,↓Qa,go_sem];try first | (refine ⟨?_,?_⟩ <;> refine zA ?_) | (refine ⟨fun c57=>?_,fun c57=>?_⟩ <;> (try simp [B_iff,B_not] at c57))
 | refine Qd (c:=.tmp 60) ?_;simp [-zg,-zd,↓Qb,↓Qa,go_sem];try first | (refine ⟨?_,?_⟩ <;> refine zA ?_) | (refine ⟨fun c60=>?_,fun c60=>?_⟩ <;> (try simp [B_iff,B_not] at c60))
 | refine Qd (c:=.tmp 65) ?_;simp [-zg,-zd,↓Qb,↓Qa,go_sem];try first | (refine ⟨?_,?_⟩ <;> refine zA ?_) | (refine ⟨fun c65=>?_,fun c65=>?_⟩ <;> (try simp [B_iff,B_not] at c65))
 | (refine Qe ?_)
 | (refine Qs ?_;simp [-zg,-zd,↓Qb,↓Qa,go_sem])
 | (refine Qr ?_;simp [-zg,-zd,↓Qb,↓Qa,go_sem])
 | (refine Qu ?_;try simp [-zg,-zd,↓Qb,↓Qa,go_sem,Try.results130])
 | (intro hx;refine zA ?_)
 | (intro hx;change retR _ _ _ _ _)
 | (refine ⟨?_,?_⟩ <;> refine zA ?_)
 | (intro hx;constructor <;> intro hs)
 | (constructor <;> intro hs)
 | (refine ⟨?_,fun hs=>?_⟩;refine zA ?_)
 | (refine ⟨fun hs=>?_,?_⟩;rotate_left;refine zA ?_;rotate_left)
 | ((fail_if_success change retR _ _ _ _ _);(exfalso;omega))))
  all_goals (first
 | (refine zadx _ _ _ _ _ _ (([],[],[])) (p + 1) ?_ ?_ ?_ ?_;(first | exact Or.inl rfl | exact Or.inr rfl);(focus (simp [-zg,-zd,↓Qb,↓Qa,go_sem,Try.results130,dat,datL,Xm,li,Xs,w1,nba,zS nba,nbz,zS nbz,naz,zS naz];done));(focus ((exact ⟨by simp,by simp,by simp,SmallT.nil⟩);done));(focus (refine ⟨?_,?_⟩ <;> omega)))
 | (refine zadx _ _ _ _ _ _ ((a,e,g')) (p + 1 + 1) ?_ ?_ ?_ ?_;(first | exact Or.inl rfl | exact Or.inr rfl);(focus (simp [-zg,-zd,↓Qb,↓Qa,go_sem,Try.results130,dat,Xm,li,Jv,t1,nba,zS nba,nbz,zS nbz,naz,zS naz];done));(focus ((exact ⟨by dsimp only;omega,by dsimp only;omega,by dsimp only;omega,hc2 s4 (by omega)⟩);done));(focus (refine ⟨?_,?_⟩ <;> omega)))
 | (refine zadx _ _ _ _ _ _ ((a',e,g)) (p + 1 + 1) ?_ ?_ ?_ ?_;(first | exact Or.inl rfl | exact Or.inr rfl);(focus (simp [-zg,-zd,↓Qb,↓Qa,go_sem,Try.results130,dat,Xm,li,Jv,t1,nba,zS nba,nbz,zS nbz,naz,zS naz];done));(focus ((exact ⟨by dsimp only;omega,by dsimp only;omega,by dsimp only;omega,s4⟩);done));(focus (refine ⟨?_,?_⟩ <;> omega)))
 | (refine zadx _ _ _ _ _ _ ((a,e,g)) (p + 1) ?_ ?_ ?_ ?_;(first | exact Or.inl rfl | exact Or.inr rfl);(focus (simp [-zg,-zd,↓Qb,↓Qa,go_sem,Try.results130,dat,Xm,li,Jv,t1,nba,zS nba,nbz,zS nbz,naz,zS naz];done));(focus ((exact ⟨by dsimp only;omega,by dsimp only;omega,by dsimp only;omega,s4⟩);done));(focus (refine ⟨?_,?_⟩ <;> omega)))
 | skip)
@[go_sem] def l7MutateC:Con:=.rel fun args H=>match args with
  | [.ptr b 0,.st [.list n_a c_a,.list n_e c_e,.list n_g c_g]]=>match H b with
    | some [.list m cs,.int .i64 p]=>((Is cY m cs) ∧ (m ≤ 2000) ∧ (0 ≤ p) ∧ (p + 3 ≤ 1000000) ∧ (Is cI n_a c_a) ∧ (Is cB n_e c_e) ∧ (Is cT n_g c_g) ∧ (AuS ((de cI c_a),(de cB c_e),(de cT c_g))),fun c=>(Us (Ue (de cI c_a) (de cB c_e) (de cT c_g) p c).1,upd H b (some [.list m cs,.int .i64 (Ue (de cI c_a) (de cB c_e) (de cT c_g) p c).2])))
    | _=>(False,fun _=>(.any,H))
  | _=>(False,fun _=>(.any,H))
theorem l7MutateC_ok:ConOk Try.prog 130 l7MutateC:=by
  refine ⟨Qp Try.func130 (by decide) rfl,fun args H h=>?_⟩
  revert h
  dsimp only
  split
  · split
    · rename_i hH
      intro h
      obtain ⟨⟨ys,rfl,rfl⟩,hl,h0_,hp_,⟨a,rfl,rfl⟩,⟨e,rfl,rfl⟩,⟨g,rfl,rfl⟩,hS⟩:=h
      try simp only [Qm] at *
      exact SpecR.enc ((l7Mutate_spec ys _ _ a e g hl h0_ hp_ hS).frame hH).shut fun c=>Prod.ext (zamn _ _ _ hS _ _).2.symm rfl
    · intro h;exact h.elim
  · intro h
    exact h.elim
@[go_sem] def Γy28:FuncId → Con:=ext Γy27 130 l7MutateC
theorem Γy28_ok:∀ g,ConOk Try.prog g (Γy28 g):=Qo Zv l7MutateC_ok

theorem AuS.of {x:Au} (h:x.1.length ≤ 5000 ∧ x.2.1.length ≤ 5000 ∧ x.2.2.length ≤ 5000 ∧ SmallT x.2.2):AuS x:=h
def AuM (x:Au):Prop:=x.1.length ≤ 5001 ∧ x.2.1.length ≤ 5000 ∧ x.2.2.length ≤ 5000 ∧ SmallT x.2.2
theorem AuM.nil:AuM ([],[],[]):=⟨by simp,by simp,by simp,SmallT.nil⟩

@[go_sem] def Wk:Au → D:=sA
theorem zaen (x:Au):dat (Wk x) = Wk x:=by simp [go_sem]
def zaae (xs:List UInt8):Au → Prop:=fun x=>AuM x
def zaag (xs:List UInt8) (x:(Au) × D):Prop:=zaae xs x.1 ∧ dat x.2 = Wk x.1
def zaad (xs:List UInt8) (c:Any):(Au) × D:=sel (zaag xs) ((([],[],[]):Au),Wk (([],[],[]))) c
def zaaa (xs:List UInt8) (c:Any):Au:=(zaad xs c).1
theorem zabx (xs:List UInt8)  (c:Any):zaag xs (zaad xs c):=by
  have hx:zaae xs (([],[],[])):=AuM.nil
  exact Ji (p:=zaag xs) (x0:=((([],[],[]):Au),Wk (([],[],[])))) ⟨hx,zaen _⟩ c
theorem zacd (xs:List UInt8)  (c:Any):zaae xs (zaaa xs c):=(zabx xs  c).1
theorem zaff (xs:List UInt8) {e_:Exit} {S_:St} (x:Au) (he_:e_ = .ret ∨ e_ = .normal)
    (h1:(Qk Try.prog S_ Try.f124.results.toList).1 ∧ dat (resD (Qk Try.prog S_ Try.f124.results.toList).2.1) = Wk x) (hg:zaae xs x) :
    retR Try.prog Try.f124 (fun c=>((zaad xs c).2,fun _=>none)) e_ S_ :=
  Jd (good:=zaag xs) (enc:=fun x:(Au) × D=>x.2) (x,resD (Qk Try.prog S_ Try.f124.results.toList).2.1) he_ ⟨h1.1,rfl⟩ ⟨hg,h1.2⟩
set_option maxHeartbeats 8000000 in
theorem zaem (xs:List UInt8)  : SpecR Try.prog 124 [li cY xs] (fun _=>none) (fun c=>((zaad xs c).2,fun _=>none)):=by
  refine SpecR.of_walk Try.func124 rfl (by simp [Try.f124]) fun B=>?_
  have hl:=cut_len xs
  all_goals (repeat' (first
 | refine Qt ?_
 | refine Qc (id:=0) Γy28_ok [] (by kernel_rfl) ?_;simp [-zg,-zd,↓Qb,↓Qa,go_sem]
 | refine Qc (id:=1) Γy28_ok [] (by kernel_rfl) ?_;simp [-zg,-zd,↓Qb,↓Qa,go_sem];try (refine Zi 3 rfl fun b hb=>?_;clear hb)
 | ((have u2:∀ c,AuS (Zs 0 c).1 ∧ 0 ≤ (Zs 0 c).2 ∧ (Zs 0 c).2 ≤ 300:=(fun c=>by have h:=l7Automaton_ok 0 c;exact ⟨h.1,by omega,by omega⟩));(have u3:∀ c,AuS ((Zs 0 c).1.1,(Zs 0 c).1.2.1,(Zs 0 c).1.2.2) ∧ 0 ≤ (Zs 0 c).2 ∧ (Zs 0 c).2 + 3 ≤ 1000000:=(fun c=>⟨(u2 c).1,(u2 c).2.1,by have:=(u2 c).2.2;omega⟩)));refine Qc (id:=2) Γy28_ok [] (by kernel_rfl) ?_;simp [-zg,-zd,↓Qb,↓Qa,go_sem,hl,u3];try ((intro c2 c2');(have h2:=(u2 c2).1);(generalize (Zs 0 c2) = z at *);(obtain ⟨⟨za,zb,zc⟩,pz⟩:=z);(dsimp only at h2 ⊢);(have h3:=l7Mutate_ok za zb zc h2 pz c2');(generalize Ue za zb zc pz c2' = w at *);(obtain ⟨⟨wa,wb,wc⟩,pw⟩:=w);(have h4:AuM (wa,wb,wc):=h3.1))
 | (refine Qe ?_)
 | (refine Qs ?_;simp [-zg,-zd,↓Qb,↓Qa,go_sem])
 | (refine Qr ?_;simp [-zg,-zd,↓Qb,↓Qa,go_sem])
 | (refine Qu ?_;try simp [-zg,-zd,↓Qb,↓Qa,go_sem,Try.results124])
 | (intro hx;refine zA ?_)
 | (intro hx;change retR _ _ _ _ _)
 | (refine ⟨?_,?_⟩ <;> refine zA ?_)
 | (intro hx;constructor <;> intro hs)
 | (constructor <;> intro hs)
 | (refine ⟨?_,fun hs=>?_⟩;refine zA ?_)
 | (refine ⟨fun hs=>?_,?_⟩;rotate_left;refine zA ?_;rotate_left)))
  all_goals (first
 | (refine zaff _ ((wa,wb,wc)) ?_ ?_ ?_;(first | exact Or.inl rfl | exact Or.inr rfl);(focus (simp [-zg,-zd,↓Qb,↓Qa,go_sem,Try.results124,dat,Xm,li];done));(focus ((exact h4);done)))
 | skip)
@[go_sem] def zabf:Con:=.rel fun args H=>match args with
  | [.list n_xs c_xs]=>((Is cY n_xs c_xs),fun c=>(Wk (zaaa (de cY c_xs) c),H))
  | _=>(False,fun _=>(.any,H))
theorem zafg:ConOk Try.prog 124 zabf:=by
  refine ⟨Qp Try.func124 (by decide) rfl,fun args H h=>?_⟩
  revert h
  dsimp only
  split
  · intro h
    obtain ⟨xs,rfl,rfl⟩:=h
    try simp only [Qm] at *
    exact SpecR.enc ((SpecR.frame0 (zaem xs ) (H:=H)).shut) fun c=>Prod.ext (zabx _  c).2.symm rfl
  · intro h
    exact h.elim
@[go_sem] def Γy29:FuncId → Con:=ext Γy28 124 zabf
theorem Γy29_ok:∀ g,ConOk Try.prog g (Γy29 g):=Qo Γy28_ok zafg

@[go_sem] def Wm:Au → D:=sA
theorem zahz (x:Au):dat (Wm x) = Wm x:=by simp [go_sem]
def zaan (xs:List UInt8):Au → Prop:=fun x=>AuM x
def zaas (xs:List UInt8) (x:(Au) × D):Prop:=zaan xs x.1 ∧ dat x.2 = Wm x.1
def zaam (xs:List UInt8) (c:Any):(Au) × D:=sel (zaas xs) ((([],[],[]):Au),Wm (([],[],[]))) c
def zaaq (xs:List UInt8) (c:Any):Au:=(zaam xs c).1
theorem zadq (xs:List UInt8)  (c:Any):zaas xs (zaam xs c):=by
  have hx:zaan xs (([],[],[])):=AuM.nil
  exact Ji (p:=zaas xs) (x0:=((([],[],[]):Au),Wm (([],[],[])))) ⟨hx,zahz _⟩ c
theorem zaki (xs:List UInt8)  (c:Any):zaan xs (zaaq xs c):=(zadq xs  c).1
theorem zajl (xs:List UInt8) {e_:Exit} {S_:St} (x:Au) (he_:e_ = .ret ∨ e_ = .normal)
    (h1:(Qk Try.prog S_ Try.f42.results.toList).1 ∧ dat (resD (Qk Try.prog S_ Try.f42.results.toList).2.1) = Wm x) (hg:zaan xs x) :
    retR Try.prog Try.f42 (fun c=>((zaam xs c).2,fun _=>none)) e_ S_ :=
  Jd (good:=zaas xs) (enc:=fun x:(Au) × D=>x.2) (x,resD (Qk Try.prog S_ Try.f42.results.toList).2.1) he_ ⟨h1.1,rfl⟩ ⟨hg,h1.2⟩
set_option maxHeartbeats 8000000 in
theorem zahy (xs:List UInt8)  : SpecR Try.prog 42 [li cY xs] (fun _=>none) (fun c=>((zaam xs c).2,fun _=>none)):=by
  refine SpecR.of_walk Try.func42 rfl (by simp [Try.f42]) fun B=>?_
  (repeat' (first
 | refine Qt ?_
 | refine Qc (id:=0) Γy29_ok [] (by kernel_rfl) ?_;simp [-zg,-zd,↓Qb,↓Qa,go_sem]
 | refine Qc (id:=1) Γy29_ok [] (by kernel_rfl) ?_;simp [-zg,-zd,↓Qb,↓Qa,go_sem];try ((intro c2);(have h2:AuM (zaaa xs c2):=zacd xs c2);(generalize (zaaa xs c2) = z at *))
 | (refine Qe ?_)
 | (refine Qs ?_;simp [-zg,-zd,↓Qb,↓Qa,go_sem])
 | (refine Qr ?_;simp [-zg,-zd,↓Qb,↓Qa,go_sem])
 | (refine Qu ?_;try simp [-zg,-zd,↓Qb,↓Qa,go_sem,Try.results42])
 | (intro hx;refine zA ?_)
 | (intro hx;change retR _ _ _ _ _)
 | (refine ⟨?_,?_⟩ <;> refine zA ?_)
 | (intro hx;constructor <;> intro hs)
 | (constructor <;> intro hs)
 | (refine ⟨?_,fun hs=>?_⟩;refine zA ?_)
 | (refine ⟨fun hs=>?_,?_⟩;rotate_left;refine zA ?_;rotate_left)))
  all_goals (first
 | (refine zajl _ (z) ?_ ?_ ?_;(first | exact Or.inl rfl | exact Or.inr rfl);(focus (simp [-zg,-zd,↓Qb,↓Qa,go_sem,Try.results42,dat,Xm,li];done));(focus ((exact h2);done)))
 | skip)
@[go_sem] def zadh:Con:=.rel fun args H=>match args with
  | [.list n_xs c_xs]=>((Is cY n_xs c_xs),fun c=>(Wm (zaaq (de cY c_xs) c),H))
  | _=>(False,fun _=>(.any,H))
theorem zajm:ConOk Try.prog 42 zadh:=by
  refine ⟨Qp Try.func42 (by decide) rfl,fun args H h=>?_⟩
  revert h
  dsimp only
  split
  · intro h
    obtain ⟨xs,rfl,rfl⟩:=h
    try simp only [Qm] at *
    exact SpecR.enc ((SpecR.frame0 (zahy xs ) (H:=H)).shut) fun c=>Prod.ext (zadq _  c).2.symm rfl
  · intro h
    exact h.elim
end
end Go.Proofs.Ytkjimmkemnmajaa.Vm

