import Derived.Test.YtmiimodggpjkmaaGreatE8
/-
  Draws: guards, expressions. No conditions.
-/
namespace Go.Proofs.YtmiimodggpjkmaaGreat.Vm
open Go
open List renaming getD_eq_getElem?_getD → zg,drop_one → zd
open Ne renaming symm → zS
noncomputable section
set_option linter.unusedVariables false
set_option linter.unusedSimpArgs false
set_option maxRecDepth 200000

theorem SpecR.enc {P:Program} {f:FuncId} {args:List D} {H:Hp} {G G':Any → D × Hp} (h:SpecR P f args H G) (e:∀ c,G' c = G c):SpecR P f args H G':=by
  have:G' = G:=funext e
  rw [this];exact h
@[go_sem] def sX (t:Tree):D:=.st [.int .i64 t.k,.int .i64 t.v,li cX t.ks]
theorem zaks {μ:Nat → Nat} {I:Nat → Prop} {w:World} {v:Value} {f:List Nat} {sz:Nat} (h:Rep μ I w .nil v f):Rep μ I w (.fr sz 0 []) v f:=by
  simp only [Rep] at h ⊢
  exact ⟨Nat.zero_le _,by simp,.inl ⟨trivial,h.1,h.2⟩⟩
theorem zamx {P:Program} {B:Base} {n:Nat} {S:St} {c:Code} {Q:Exit → St → Prop} (t sz:Nat) {d e:D} (hT:S.T t = .box [d,e,.nil]) (h:AW P B n c Q ⟨upd S.T t (.box [d,e,.fr sz 0 []]),S.H⟩):AW P B n c Q S :=
  zamw t hT (fun μ I w vs f hr=>by
    simp only [RepL] at hr ⊢
    obtain ⟨v,vs',f1,f2,e1,e2,r1,v2,vs2,g1,g2,e3,e4,r2,v3,vs3,g3,g4,e5,e6,r3,r4⟩:=hr
    exact ⟨v,vs',f1,f2,e1,e2,r1,v2,vs2,g1,g2,e3,e4,r2,v3,vs3,g3,g4,e5,e6,zaks r3,r4⟩) (fun N hb=>by simp only [bndL,bnd] at hb ⊢;exact ⟨hb.1,hb.2.1,trivial,trivial⟩) h
@[go_sem] theorem is_lit1 (x0:Int):Is cI 1 [D.int .i64 x0] = True:=eq_true ⟨[x0],rfl,rfl⟩
@[go_sem] theorem de_lit1 (x0:Int):de cI [D.int .i64 x0] = [x0]:=Qm (f:=cI) [x0]
@[go_sem] theorem is_lit3 (x0 x1 x2:Int):Is cI 3 [D.int .i64 x0,D.int .i64 x1,D.int .i64 x2] = True:=eq_true ⟨[x0,x1,x2],rfl,rfl⟩
@[go_sem] theorem de_lit3 (x0 x1 x2:Int):de cI [D.int .i64 x0,D.int .i64 x1,D.int .i64 x2] = [x0,x1,x2]:=Qm (f:=cI) [x0,x1,x2]
@[go_sem] theorem is_lit4 (x0 x1 x2 x3:Int):Is cI 4 [D.int .i64 x0,D.int .i64 x1,D.int .i64 x2,D.int .i64 x3] = True:=eq_true ⟨[x0,x1,x2,x3],rfl,rfl⟩
@[go_sem] theorem de_lit4 (x0 x1 x2 x3:Int):de cI [D.int .i64 x0,D.int .i64 x1,D.int .i64 x2,D.int .i64 x3] = [x0,x1,x2,x3]:=Qm (f:=cI) [x0,x1,x2,x3]
@[go_sem] theorem is_lit5 (x0 x1 x2 x3 x4:Int):Is cI 5 [D.int .i64 x0,D.int .i64 x1,D.int .i64 x2,D.int .i64 x3,D.int .i64 x4] = True:=eq_true ⟨[x0,x1,x2,x3,x4],rfl,rfl⟩
@[go_sem] theorem de_lit5 (x0 x1 x2 x3 x4:Int):de cI [D.int .i64 x0,D.int .i64 x1,D.int .i64 x2,D.int .i64 x3,D.int .i64 x4] = [x0,x1,x2,x3,x4]:=Qm (f:=cI) [x0,x1,x2,x3,x4]
@[go_sem] theorem is_lit6 (x0 x1 x2 x3 x4 x5:Int):Is cI 6 [D.int .i64 x0,D.int .i64 x1,D.int .i64 x2,D.int .i64 x3,D.int .i64 x4,D.int .i64 x5] = True:=eq_true ⟨[x0,x1,x2,x3,x4,x5],rfl,rfl⟩
@[go_sem] theorem de_lit6 (x0 x1 x2 x3 x4 x5:Int):de cI [D.int .i64 x0,D.int .i64 x1,D.int .i64 x2,D.int .i64 x3,D.int .i64 x4,D.int .i64 x5] = [x0,x1,x2,x3,x4,x5]:=Qm (f:=cI) [x0,x1,x2,x3,x4,x5]
@[go_sem] theorem is_lit7 (x0 x1 x2 x3 x4 x5 x6:Int):Is cI 7 [D.int .i64 x0,D.int .i64 x1,D.int .i64 x2,D.int .i64 x3,D.int .i64 x4,D.int .i64 x5,D.int .i64 x6] = True:=eq_true ⟨[x0,x1,x2,x3,x4,x5,x6],rfl,rfl⟩
@[go_sem] theorem de_lit7 (x0 x1 x2 x3 x4 x5 x6:Int):de cI [D.int .i64 x0,D.int .i64 x1,D.int .i64 x2,D.int .i64 x3,D.int .i64 x4,D.int .i64 x5,D.int .i64 x6] = [x0,x1,x2,x3,x4,x5,x6]:=Qm (f:=cI) [x0,x1,x2,x3,x4,x5,x6]

mutual
def tm:Tree → Nat
  | .mk _ _ ks=>tms ks
def tms:List Tree → Nat
  | []=>0
  | t :: ts=>1 + tm t + tms ts
end
theorem tms_eq:∀ ts,tms ts = ts.length + msum tm ts ts.length
  | []=>by simp [tms,msum]
  | t :: ts=>by rw [tms,tms_eq ts];simp [msum];omega
theorem tm_eq (t:Tree):tm t = t.ks.length + msum tm t.ks t.ks.length:=by cases t;rw [tm,tms_eq];rfl

set_option maxHeartbeats 2000000 in

@[go_sem] def Uk:Tree → D:=sX
theorem l2Guard_flat (x:Tree):dat (Uk x) = Uk x:=by simp [go_sem]
def Uf  : Tree → Prop:=fun x=>tm x ≤ 4
def zalo  (x:(Tree) × D):Prop:=Uf x.1 ∧ dat x.2 = Uk x.1
def zabk  (p:Int) (c:Any):((Tree) × D) × Int:=dsel (zalo) ((.mk 1 1 []:Tree),Uk (.mk 1 1 [])) 5 p c
def Jq  (p:Int) (c:Any):(Tree) × Int:=((zabk p c).1.1,(zabk p c).2)
theorem zaog   (p:Int) (c:Any):(Uf (Jq p c).1 ∧ p ≤ (Jq p c).2 ∧ (Jq p c).2 ≤ p + 5) ∧ dat (zabk p c).1.2 = Uk (Jq p c).1:=by
  have hx:Uf (.mk 1 1 []):=by simp [Uf,tm,tms]
  have h:=Vc (good:=zalo) (x0:=((.mk 1 1 []:Tree),Uk (.mk 1 1 []))) ⟨hx,l2Guard_flat _⟩ (K:=5) (by omega) (p:=p) c
  exact ⟨⟨h.1.1,h.2.1,h.2.2⟩,h.1.2⟩
theorem l2Guard_ok   (p:Int) (c:Any):Uf (Jq p c).1 ∧ p ≤ (Jq p c).2 ∧ (Jq p c).2 ≤ p + 5:=(zaog  p c).1
theorem zaio  (ys:List UInt8) (p:Int) (b:Nat) {e_:Exit} {S_:St} (x:Tree) (p':Int) (he_:e_ = .ret ∨ e_ = .normal)
    (h1:(Qf Tryz.prog S_ Tryz.f56.results.toList).1 ∧ dat (resD (Qf Tryz.prog S_ Tryz.f56.results.toList).2.1) = Uk x ∧ (Qf Tryz.prog S_ Tryz.f56.results.toList).2.2.H b = some [li cY ys,.int .i64 p']) (hg:Uf x) (h2:p ≤ p' ∧ p' ≤ p + 5) :
    retR Tryz.prog Tryz.f56 (fun c=>((zabk p c).1.2,one b [li cY ys,.int .i64 (zabk p c).2])) e_ S_ :=
  Jv (good:=zalo) (enc:=fun x:(Tree) × D=>x.2) (cells:=fun q=>[li cY ys,.int .i64 q]) (x,resD (Qf Tryz.prog S_ Tryz.f56.results.toList).2.1) p' he_ ⟨h1.1,rfl,h1.2.2⟩ ⟨hg,h1.2.1⟩ h2
theorem l2Guard_spec (ys:List UInt8) (p:Int) (b:Nat)  (hl:ys.length ≤ 2000) (h0_:0 ≤ p) (hp_:p + 5 ≤ 1000000)  : SpecR Tryz.prog 56 [.ptr b 0] (one b [li cY ys,.int .i64 p]) (fun c=>((zabk p c).1.2,one b [li cY ys,.int .i64 (zabk p c).2])):=by
  refine SpecR.of_walk Tryz.func56 rfl (by simp [Tryz.f56]) fun B=>?_
  (repeat' (first
 | refine Qt ?_
 | refine Qc (id:=0) Vp [] (by kernel_rfl) ?_;simp [-zg,-zd,↓Qb,↓Qa,go_sem]
 | refine Qc (id:=1) Vp [] (by kernel_rfl) ?_;simp [-zg,-zd,↓Qb,↓Qa,go_sem,hl,(show 0 ≤ p by omega),(show p ≤ 1000000 by omega),(show 0 ≤ p + 1 by omega),(show p + 1 ≤ 1000000 by omega)]
 | refine Qc (id:=2) Vp [] (by kernel_rfl) ?_;simp [-zg,-zd,↓Qb,↓Qa,go_sem,hl]
 | refine Qc (id:=3) Vp [] (by kernel_rfl) ?_;simp [-zg,-zd,↓Qb,↓Qa,go_sem,hl,(show 0 ≤ p by omega),(show p ≤ 1000000 by omega),(show 0 ≤ p + 1 by omega),(show p + 1 ≤ 1000000 by omega),(show 0 ≤ p + 1 + 1 by omega),(show p + 1 + 1 ≤ 1000000 by omega)];try (refine Xe 3 ?_;simp [go_sem])
 | refine Qc (id:=4) Vp [] (by kernel_rfl) ?_;simp [-zg,-zd,↓Qb,↓Qa,go_sem,hl,(show 0 ≤ p by omega),(show p ≤ 1000000 by omega),(show 0 ≤ p + 1 by omega),(show p + 1 ≤ 1000000 by omega),(show 0 ≤ p + 1 + 1 by omega),(show p + 1 + 1 ≤ 1000000 by omega),(show 0 ≤ p + 1 + 1 + 1 by omega),(show p + 1 + 1 + 1 ≤ 1000000 by omega)];try (refine Xe 4 ?_;simp [go_sem])
 | refine Zu (id:=5) Vp mixed [] [] [] (by kernel_rfl) (by kernel_rfl) (by simp [-zg,-zd,↓Qb,↓Qa,go_sem,hl,(show 0 ≤ p by omega),(show p ≤ 1000000 by omega),(show 0 ≤ p + 1 by omega),(show p + 1 ≤ 1000000 by omega),(show 0 ≤ p + 1 + 1 by omega),(show p + 1 + 1 ≤ 1000000 by omega),(show 0 ≤ p + 1 + 1 + 1 by omega),(show p + 1 + 1 + 1 ≤ 1000000 by omega),(show 0 ≤ p + 1 + 1 + 1 + 1 by omega),(show p + 1 + 1 + 1 + 1 ≤ 1000000 by omega)]) (by simp [-zg,-zd,↓Qb,↓Qa,go_sem,hl,(show 0 ≤ p by omega),(show p ≤ 1000000 by omega),(show 0 ≤ p + 1 by omega),(show p + 1 ≤ 1000000 by omega),(show 0 ≤ p + 1 + 1 by omega),(show p + 1 + 1 ≤ 1000000 by omega),(show 0 ≤ p + 1 + 1 + 1 by omega),(show p + 1 + 1 + 1 ≤ 1000000 by omega),(show 0 ≤ p + 1 + 1 + 1 + 1 by omega),(show p + 1 + 1 + 1 + 1 ≤ 1000000 by omega)]) ?_;simp [-zg,-zd,↓Qb,↓Qa,go_sem,hl,(show 0 ≤ p by omega),(show p ≤ 1000000 by omega),(show 0 ≤ p + 1 by omega),(show p + 1 ≤ 1000000 by omega),(show 0 ≤ p + 1 + 1 by omega),(show p + 1 + 1 ≤ 1000000 by omega),(show 0 ≤ p + 1 + 1 + 1 by omega),(show p + 1 + 1 + 1 ≤ 1000000 by omega),(show 0 ≤ p + 1 + 1 + 1 + 1 by omega),(show p + 1 + 1 + 1 + 1 ≤ 1000000 by omega)];try (refine Xe 5 ?_;simp [go_sem])
 | refine Qc (id:=6) Vp [] (by kernel_rfl) ?_;simp [-zg,-zd,↓Qb,↓Qa,go_sem,hl,(show 0 ≤ p by omega),(show p ≤ 1000000 by omega),(show 0 ≤ p + 1 by omega),(show p + 1 ≤ 1000000 by omega),(show 0 ≤ p + 1 + 1 by omega),(show p + 1 + 1 ≤ 1000000 by omega),(show 0 ≤ p + 1 + 1 + 1 by omega),(show p + 1 + 1 + 1 ≤ 1000000 by omega),(show 0 ≤ p + 1 + 1 + 1 + 1 by omega),(show p + 1 + 1 + 1 + 1 ≤ 1000000 by omega),(show 0 ≤ p + 1 + 1 + 1 + 1 + 1 by omega),(show p + 1 + 1 + 1 + 1 + 1 ≤ 1000000 by omega)]
 | refine Qc (id:=7) Vp [] (by kernel_rfl) ?_;simp [-zg,-zd,↓Qb,↓Qa,go_sem]
 | refine Qc (id:=8) Vp [] (by kernel_rfl) ?_;simp [-zg,-zd,↓Qb,↓Qa,go_sem]
 | refine Qd (c:=.tmp 8) ?_;simp [-zg,-zd,↓Qb,↓Qa,go_sem];try first | (refine ⟨?_,?_⟩ <;> refine zA ?_) | (refine ⟨fun c8=>?_,fun c8=>?_⟩ <;> (try simp [B_iff,B_not] at c8))
 | refine Qd (c:=.tmp 26) ?_;simp [-zg,-zd,↓Qb,↓Qa,go_sem];try first | (refine ⟨?_,?_⟩ <;> refine zA ?_) | (refine ⟨fun c26=>?_,fun c26=>?_⟩ <;> (try simp [B_iff,B_not] at c26))
 | (refine Qg ?_)
 | (refine Qs ?_;simp [-zg,-zd,↓Qb,↓Qa,go_sem])
 | (refine Qr ?_;simp [-zg,-zd,↓Qb,↓Qa,go_sem])
 | (refine Qq ?_;try simp [-zg,-zd,↓Qb,↓Qa,go_sem,Tryz.results56])
 | (intro hx;refine zA ?_)
 | (intro hx;change retR _ _ _ _ _)
 | (refine ⟨?_,?_⟩ <;> refine zA ?_)
 | (intro hx;constructor <;> intro hs)
 | (constructor <;> intro hs)
 | (refine ⟨?_,fun hs=>?_⟩;refine zA ?_)
 | (refine ⟨fun hs=>?_,?_⟩;rotate_left;refine zA ?_;rotate_left)))
  all_goals (first
 | (refine zaio _ _ _ (.mk 1 1 []) (p + 1) ?_ ?_ ?_ ?_;(first | exact Or.inl rfl | exact Or.inr rfl);(focus (simp [-zg,-zd,↓Qb,↓Qa,go_sem,Tryz.results56];done));(focus ((simp [Uf,tm,tms]);done));(focus (refine ⟨?_,?_⟩ <;> omega)))
 | (refine zaio _ _ _ (.mk 3 0 [.mk (numI ys (p + 1 + 1 + 1) [6,7,6]) 0 [.mk 2 (numI ys (p + 1) [0,1,0,2]) [],.mk 1 (pkI ys (p + 1 + 1) 3) []]]) (p + 1 + 1 + 1 + 1 + 1) ?_ ?_ ?_ ?_;(first | exact Or.inl rfl | exact Or.inr rfl);(focus (simp [-zg,-zd,↓Qb,↓Qa,go_sem,Tryz.results56,li,Xg,cX_mk,dat,datL];done));(focus ((simp [Uf,tm,tms]);done));(focus (refine ⟨?_,?_⟩ <;> omega)))
 | (refine zaio _ _ _ (.mk (numI ys (p + 1 + 1 + 1) [6,7,6]) 0 [.mk 2 (numI ys (p + 1) [0,1,0,2]) [],.mk 1 (pkI ys (p + 1 + 1) 3) []]) (p + 1 + 1 + 1 + 1 + 1) ?_ ?_ ?_ ?_;(first | exact Or.inl rfl | exact Or.inr rfl);(focus (simp [-zg,-zd,↓Qb,↓Qa,go_sem,Tryz.results56,li,Xg,cX_mk,dat,datL];done));(focus ((simp [Uf,tm,tms]);done));(focus (refine ⟨?_,?_⟩ <;> omega)))
 | skip)
@[go_sem] def l2GuardC:Con:=.rel fun args H=>match args with
  | [.ptr b 0]=>match H b with
    | some [.list m cs,.int .i64 p]=>((Is cY m cs) ∧ (m ≤ 2000) ∧ (0 ≤ p) ∧ (p + 5 ≤ 1000000),fun c=>(Uk (Jq p c).1,upd H b (some [.list m cs,.int .i64 (Jq p c).2])))
    | _=>(False,fun _=>(.any,H))
  | _=>(False,fun _=>(.any,H))
theorem l2GuardC_ok:ConOk Tryz.prog 56 l2GuardC:=by
  refine ⟨Qo Tryz.func56 (by decide) rfl,fun args H h=>?_⟩
  revert h
  dsimp only
  split
  · split
    · rename_i hH
      intro h
      obtain ⟨⟨ys,rfl,rfl⟩,hl,h0_,hp_⟩:=h
      try simp only [Qm] at *
      exact SpecR.enc ((l2Guard_spec ys _ _ hl h0_ hp_ ).frame hH).shut fun c=>Prod.ext (zaog  _ _).2.symm rfl
    · intro h;exact h.elim
  · intro h
    exact h.elim
@[go_sem] def Γe21:FuncId → Con:=ext Γe20 56 l2GuardC
theorem Γe21_ok:∀ g,ConOk Tryz.prog g (Γe21 g):=Qn Vp l2GuardC_ok

def kR:Nat → Int
  | 0=>3
  | n + 1=>3 + 2 * kR n
theorem kR_ge:∀ n,3 ≤ kR n
  | 0=>by simp [kR]
  | n + 1=>by have:=kR_ge n;simp only [kR];omega
theorem kR_nn (n:Nat):0 ≤ kR n:=by have:=kR_ge n;omega
theorem kR_step {d:Int} (h:2 ≤ d):kR d.toNat = 3 + 2 * kR (d - 1).toNat:=by
  obtain ⟨m,hm⟩:∃ m:Nat,d.toNat = m + 1:=⟨d.toNat - 1,by omega⟩
  rw [hm,show (d - 1).toNat = m by omega];rfl
@[go_sem] theorem makeD_6 (x:D):makeD [x] 6 = [x,x,x,x,x,x]:=by rw [Js];rfl
@[go_sem] theorem makeD_7 (x:D):makeD [x] 7 = [x,x,x,x,x,x,x]:=by rw [Js];rfl

set_option maxHeartbeats 4000000 in

@[go_sem] def Vi:Tree → D:=sX
theorem l1Random_flat (x:Tree):dat (Vi x) = Vi x:=by simp [go_sem]
def zacn (d:Int):Tree → Prop:=fun _=>True
def zaiq (d:Int) (x:(Tree) × D):Prop:=zacn d x.1 ∧ dat x.2 = Vi x.1
def Jn (d:Int) (p:Int) (c:Any):((Tree) × D) × Int:=dsel (zaiq d) ((.mk 1 1 []:Tree),Vi (.mk 1 1 [])) (kR d.toNat) p c
def Zv (d:Int) (p:Int) (c:Any):(Tree) × Int:=((Jn d p c).1.1,(Jn d p c).2)
theorem zagq (d:Int) (hd:d ≤ 4) (p:Int) (c:Any):(zacn d (Zv d p c).1 ∧ p ≤ (Zv d p c).2 ∧ (Zv d p c).2 ≤ p + (kR d.toNat)) ∧ dat (Jn d p c).1.2 = Vi (Zv d p c).1:=by
  have hx:zacn d (.mk 1 1 []):=trivial
  have h:=Vc (good:=zaiq d) (x0:=((.mk 1 1 []:Tree),Vi (.mk 1 1 []))) ⟨hx,l1Random_flat _⟩ (K:=(kR d.toNat)) (kR_nn _) (p:=p) c
  exact ⟨⟨h.1.1,h.2.1,h.2.2⟩,h.1.2⟩
theorem zaoh (d:Int) (hd:d ≤ 4) (p:Int) (c:Any):zacn d (Zv d p c).1 ∧ p ≤ (Zv d p c).2 ∧ (Zv d p c).2 ≤ p + (kR d.toNat):=(zagq d hd p c).1
theorem zadd (d:Int) (ys:List UInt8) (p:Int) (b:Nat) {e_:Exit} {S_:St} (x:Tree) (p':Int) (he_:e_ = .ret ∨ e_ = .normal)
    (h1:(Qf Tryz.prog S_ Tryz.f94.results.toList).1 ∧ dat (resD (Qf Tryz.prog S_ Tryz.f94.results.toList).2.1) = Vi x ∧ (Qf Tryz.prog S_ Tryz.f94.results.toList).2.2.H b = some [li cY ys,.int .i64 p']) (hg:zacn d x) (h2:p ≤ p' ∧ p' ≤ p + (kR d.toNat)) :
    retR Tryz.prog Tryz.f94 (fun c=>((Jn d p c).1.2,one b [li cY ys,.int .i64 (Jn d p c).2])) e_ S_ :=
  Jv (good:=zaiq d) (enc:=fun x:(Tree) × D=>x.2) (cells:=fun q=>[li cY ys,.int .i64 q]) (x,resD (Qf Tryz.prog S_ Tryz.f94.results.toList).2.1) p' he_ ⟨h1.1,rfl,h1.2.2⟩ ⟨hg,h1.2.1⟩ h2
@[go_sem] def l1RandomCn (n_:Nat):Con:=.rel fun args H=>match args with
  | [.ptr b 0,.int .i64 d]=>match H b with
    | some [.list m cs,.int .i64 p]=>((Is cY m cs) ∧ (m ≤ 2000) ∧ (0 ≤ p) ∧ (p + (kR d.toNat) ≤ 1000000) ∧ (d ≤ 4) ∧ (d.toNat < n_),fun c=>(Vi (Zv d p c).1,upd H b (some [.list m cs,.int .i64 (Zv d p c).2])))
    | _=>(False,fun _=>(.any,H))
  | _=>(False,fun _=>(.any,H))
theorem l1RandomCn_ok {n_:Nat} (ih:∀ (ys:List UInt8) (p:Int) (b:Nat) (d:Int) (hl:ys.length ≤ 2000) (h0_:0 ≤ p) (hp_:p + (kR d.toNat) ≤ 1000000) (hd:d ≤ 4) (hm_:d.toNat < n_),SpecR Tryz.prog 94 [.ptr b 0,.int .i64 d] (one b [li cY ys,.int .i64 p]) (fun c=>((Jn d p c).1.2,one b [li cY ys,.int .i64 (Jn d p c).2]))):ConOk Tryz.prog 94 (l1RandomCn n_):=by
  refine ⟨Qo Tryz.func94 (by decide) rfl,fun args H h=>?_⟩
  revert h
  dsimp only
  split
  · split
    · rename_i hH
      intro h
      obtain ⟨⟨ys,rfl,rfl⟩,hl,h0_,hp_,hd,hm_⟩:=h
      try simp only [Qm] at *
      exact SpecR.enc ((ih ys _ _ _ hl h0_ hp_ hd hm_).frame hH).shut fun c=>Prod.ext (zagq _ hd _ _).2.symm rfl
    · intro h;exact h.elim
  · intro h
    exact h.elim
theorem l1Random_rec:∀ (n_:Nat),∀ (ys:List UInt8) (p:Int) (b:Nat) (d:Int) (hl:ys.length ≤ 2000) (h0_:0 ≤ p) (hp_:p + (kR d.toNat) ≤ 1000000) (hd:d ≤ 4) (hm_:d.toNat < n_),SpecR Tryz.prog 94 [.ptr b 0,.int .i64 d] (one b [li cY ys,.int .i64 p]) (fun c=>((Jn d p c).1.2,one b [li cY ys,.int .i64 (Jn d p c).2])):=by
  intro n_
  induction n_ with
  | zero=>intros;omega
  | succ n_ ih =>
  intro ys p b d hl h0_ hp_ hd hm_
  have Γr_ok:=Qn Γe21_ok (l1RandomCn_ok ih)
  refine SpecR.of_walk Tryz.func94 rfl (by simp [Tryz.f94]) fun B=>?_
  have hk3:=kR_ge d.toNat;by_cases hd2:d < 2
  all_goals (repeat' (first
 | refine Qt ?_
 | refine Qc (id:=0) Γr_ok [] (by kernel_rfl) ?_;simp [-zg,-zd,↓Qb,↓Qa,go_sem]
 | refine Qc (id:=1) Γr_ok [10] (by kernel_rfl) ?_;simp [-zg,-zd,↓Qb,↓Qa,go_sem,hd2,hl,(show 0 ≤ p by omega),(show p ≤ 1000000 by omega),(show 0 ≤ p + 1 by omega),(show p + 1 ≤ 1000000 by omega)];try (refine ⟨fun s1a=>?_,fun s1a=>?_⟩ <;> (try simp [B_iff,B_not] at s1a) <;> try (refine ⟨fun s1b=>?_,fun s1b=>?_⟩ <;> (try simp [B_iff,B_not] at s1b)))
 | refine Qc (id:=2) Γr_ok [] (by kernel_rfl) ?_;simp [-zg,-zd,↓Qb,↓Qa,go_sem,hl,(show 0 ≤ p by omega),(show p ≤ 1000000 by omega),(show 0 ≤ p + 1 by omega),(show p + 1 ≤ 1000000 by omega),(show 0 ≤ p + 1 + 1 by omega),(show p + 1 + 1 ≤ 1000000 by omega)]
 | refine Qc (id:=3) Γr_ok [] (by kernel_rfl) ?_;simp [-zg,-zd,↓Qb,↓Qa,go_sem,hl,(show 0 ≤ p by omega),(show p ≤ 1000000 by omega),(show 0 ≤ p + 1 by omega),(show p + 1 ≤ 1000000 by omega),(show 0 ≤ p + 1 + 1 by omega),(show p + 1 + 1 ≤ 1000000 by omega),(show 0 ≤ p + 1 + 1 + 1 by omega),(show p + 1 + 1 + 1 ≤ 1000000 by omega)]
 | refine Qc (id:=4) Γr_ok [] (by kernel_rfl) ?_;simp [-zg,-zd,↓Qb,↓Qa,go_sem,hl,(show 0 ≤ p by omega),(show p ≤ 1000000 by omega),(show 0 ≤ p + 1 by omega),(show p + 1 ≤ 1000000 by omega),(show 0 ≤ p + 1 + 1 by omega),(show p + 1 + 1 ≤ 1000000 by omega),(show 0 ≤ p + 1 + 1 + 1 by omega),(show p + 1 + 1 + 1 ≤ 1000000 by omega)]
 | refine Qc (id:=5) Γr_ok [] (by kernel_rfl) ?_;simp [-zg,-zd,↓Qb,↓Qa,go_sem,hl,(show 0 ≤ p by omega),(show p ≤ 1000000 by omega),(show 0 ≤ p + 1 by omega),(show p + 1 ≤ 1000000 by omega),(show 0 ≤ p + 1 + 1 by omega),(show p + 1 + 1 ≤ 1000000 by omega),(show 0 ≤ p + 1 + 1 + 1 by omega),(show p + 1 + 1 + 1 ≤ 1000000 by omega)];try (generalize numI ys (p + 1) [6,8,7,4,3,5,9] = kk at *)
 | refine Qc (id:=6) Γr_ok [] (by kernel_rfl) ?_;simp [-zg,-zd,↓Qb,↓Qa,go_sem];try ((have hks:=kR_step (d:=d) (by omega));(have hM:=kR_ge (d - 1).toNat);(have hd1:(d - 1).toNat = d.toNat - 1:=(by omega));(rw [hd1] at hks hM);(refine zamx 6 3 rfl ?_);(refine Zn 6 rfl fun qb hqb=>?_);(have hbq:¬ b = qb:=(by rintro rfl;simp [go_sem] at hqb));(clear hqb);(refine Qw (fun H1=>H1 b = some [.list ys.length (cat cY ys),.int .i64 (p + 1 + 1)] ∧ H1 qb = some [.int .i64 kk,.int .i64 0,.fr 3 0 []]) ⟨by simp [go_sem,hbq],by simp [go_sem,hbq]⟩ fun H1 ⟨w1,w2⟩=>?_))
 | refine Qc (id:=7) Γr_ok [] (by kernel_rfl) ?_;simp [-zg,-zd,↓Qb,↓Qa,go_sem];try (have hal:=ar_le kk;generalize ar kk = aa at *)
 | refine Qc (id:=8) Γr_ok [] (by kernel_rfl) ?_;simp [-zg,-zd,↓Qb,↓Qa,go_sem]
 | ((refine Zx qb 2 (all:=[.int .i64 kk,.int .i64 0,.fr 3 q.1.length (cat cX q.1)]) g6 rfl fun u cu ju hu hcu hdu=>?_);(have ub:¬ u = b:=(by intro e;rw [e] at hu;dsimp only at hu;rw [g5] at hu;cases hu));(have uq:¬ u = qb:=(by intro e;rw [e] at hu;dsimp only at hu;rw [g6] at hu;cases hu));(clear hu));refine Zu (id:=10) Γr_ok mixed [(qb,[.int .i64 kk,.int .i64 0,.sl u 3 0 q.1.length cu])] [] [] (by kernel_rfl) (by kernel_rfl) (by simp [-zg,-zd,↓Qb,↓Qa,go_sem,g5,hl,Xb (x:=d - 1) (by omega) (by omega),hbq,zS hbq,ub,uq,zS ub,zS uq,(show 0 ≤ q.2.2.1 by omega),(show d - 1 ≤ 4 by omega),(show d.toNat - 1 < n_ by omega),(show q.1.length ≤ 9223372036854775806 by omega),(show 2 * (q.1.length + 1) * 40 ≤ 281474976710656 by omega),(show q.2.2.1 + kR (d.toNat - 1) ≤ 1000000 by omega),hdu]) (by simp [-zg,-zd,↓Qb,↓Qa,go_sem,g5,hl,Xb (x:=d - 1) (by omega) (by omega),hbq,zS hbq,ub,uq,zS ub,zS uq,(show 0 ≤ q.2.2.1 by omega),(show d - 1 ≤ 4 by omega),(show d.toNat - 1 < n_ by omega),(show q.1.length ≤ 9223372036854775806 by omega),(show 2 * (q.1.length + 1) * 40 ≤ 281474976710656 by omega),(show q.2.2.1 + kR (d.toNat - 1) ≤ 1000000 by omega),hdu]) ?_;simp [-zg,-zd,↓Qb,↓Qa,go_sem,g5,hl,Xb (x:=d - 1) (by omega) (by omega),hbq,zS hbq,ub,uq,zS ub,zS uq,(show 0 ≤ q.2.2.1 by omega),(show d - 1 ≤ 4 by omega),(show d.toNat - 1 < n_ by omega),(show q.1.length ≤ 9223372036854775806 by omega),(show 2 * (q.1.length + 1) * 40 ≤ 281474976710656 by omega),(show q.2.2.1 + kR (d.toNat - 1) ≤ 1000000 by omega),hdu];try (intro c10;have z0:=zaoh (d - 1) (by omega) q.2.2.1 c10;generalize Zv (d - 1) q.2.2.1 c10 = z at *;obtain ⟨-,z1,z2⟩:=z0;rw [hd1] at z2;obtain ⟨t,p2⟩:=z;dsimp only at z1 z2;refine Qw (fun H2=>H2 b = some [.list ys.length (cat cY ys),.int .i64 p2] ∧ H2 qb = some [.int .i64 kk,.int .i64 0,.fr 3 (q.1 ++ [t]).length (cat cX (q.1 ++ [t]))]) ⟨by simp [upd,hbq,zS hbq,ub,uq,zS ub,zS uq],by simp [upd,hbq,zS hbq,ub,uq,zS ub,zS uq,Xk,Xi,cX_eq,li]⟩ fun H2 ⟨y1,y2⟩=>?_)
 | refine Qc (id:=9) Γr_ok [] (by kernel_rfl) ?_;simp [-zg,-zd,↓Qb,↓Qa,go_sem,Xb (x:=q.2.1 - 1) (by omega) (by omega)]
 | refine Qc (id:=11) Γr_ok [] (by kernel_rfl) ?_;simp [-zg,-zd,↓Qb,↓Qa,go_sem,g6]
 | refine Qd (c:=.tmp 14) ?_;simp [-zg,-zd,↓Qb,↓Qa,go_sem];try first | (refine ⟨?_,?_⟩ <;> refine zA ?_) | (refine ⟨fun c14=>?_,fun c14=>?_⟩ <;> (try simp [B_iff,B_not] at c14))
 | refine Qd (c:=.tmp 17) ?_;simp [-zg,-zd,↓Qb,↓Qa,go_sem];try first | (refine ⟨?_,?_⟩ <;> refine zA ?_) | (refine ⟨fun c17=>?_,fun c17=>?_⟩ <;> (try simp [B_iff,B_not] at c17))
 | refine Qd (c:=.tmp 33) ?_;simp [-zg,-zd,↓Qb,↓Qa,go_sem];try first | (refine ⟨?_,?_⟩ <;> refine zA ?_) | (refine ⟨fun c33=>?_,fun c33=>?_⟩ <;> (try simp [B_iff,B_not] at c33))
 | (refine Qg (id:=0) (Qx (ι:=List Tree × Int × Int × Hp) (fun q:List Tree × Int × Int × Hp=>⟨(upd (upd (upd (upd (upd (fun _=>.any) 0 (.ptr b 0)) 1 (.int .i64 d)) 4 (.box [.int .i64 0,.int .i64 0,.nil])) 6 (.ptr qb 0)) 7 (.int .i64 q.2.1)),q.2.2.2⟩) (fun q=>q.2.1 ≤ 2 ∧ (q.1.length:Int) + q.2.1 ≤ 2 ∧ p ≤ q.2.2.1 ∧ (q.2.1 ≤ 2 ∧ q.2.2.1 ≤ p + 3 ∨ q.2.1 ≤ 1 ∧ q.2.2.1 ≤ p + 3 + kR (d.toNat - 1) ∨ q.2.1 ≤ 0 ∧ q.2.2.1 ≤ p + 3 + 2 * kR (d.toNat - 1)) ∧ q.2.2.2 b = some [.list ys.length (cat cY ys),.int .i64 q.2.2.1] ∧ q.2.2.2 qb = some [.int .i64 kk,.int .i64 0,.fr 3 q.1.length (cat cX q.1)]) (fun q=>q.2.1.toNat) (([],aa,p + 1 + 1,H1)) ?_ ?_ ?_);exact ⟨by dsimp only;omega,by simpa using hal,by dsimp only;omega,by dsimp only;omega,by dsimp only;exact w1,by dsimp only;exact w2⟩;((repeat' (first | exact Qh (by assumption) | exact Qj | refine Qk ?_ ?_ | refine Qi ?_)) <;> simp [-zg,-zd,↓Qb,↓Qa,go_sem]);rintro q ⟨g1,g2,g3,g4,g5,g6⟩)
 | (refine ⟨(q.1 ++ [t],q.2.1 - 1,p2,H2),⟨by dsimp only;omega,by simp;omega,by dsimp only;omega,by dsimp only;omega,y1,y2⟩,by first | omega | (simp;done) | (simp;omega),?_⟩;((repeat' (first | exact Qh (by assumption) | exact Qj | refine Qk ?_ ?_ | refine Qi ?_)) <;> simp [-zg,-zd,↓Qb,↓Qa,go_sem,]))
 | (refine Qg ?_)
 | (refine Qs ?_;simp [-zg,-zd,↓Qb,↓Qa,go_sem])
 | (refine Qr ?_;simp [-zg,-zd,↓Qb,↓Qa,go_sem])
 | (refine Qq ?_;try simp [-zg,-zd,↓Qb,↓Qa,go_sem,Tryz.results94])
 | (intro hx;refine zA ?_)
 | (intro hx;change retR _ _ _ _ _)
 | (refine ⟨?_,?_⟩ <;> refine zA ?_)
 | (intro hx;constructor <;> intro hs)
 | (constructor <;> intro hs)
 | (refine ⟨?_,fun hs=>?_⟩;refine zA ?_)
 | (refine ⟨fun hs=>?_,?_⟩;rotate_left;refine zA ?_;rotate_left)
 | ((fail_if_success change retR _ _ _ _ _);(exfalso;omega))))
  all_goals (first
 | (refine zadd _ _ _ _ (.mk 1 (pkI ys (p + 1) 4) []) (p + 1 + 1) ?_ ?_ ?_ ?_;(first | exact Or.inl rfl | exact Or.inr rfl);(focus (simp [-zg,-zd,↓Qb,↓Qa,go_sem,Tryz.results94];done));(focus ((trivial);done));(focus (refine ⟨?_,?_⟩ <;> omega)))
 | (refine zadd _ _ _ _ (.mk 1 (pkI ys (p + 1 + 1) 4) []) (p + 1 + 1 + 1) ?_ ?_ ?_ ?_;(first | exact Or.inl rfl | exact Or.inr rfl);(focus (simp [-zg,-zd,↓Qb,↓Qa,go_sem,Tryz.results94];done));(focus ((trivial);done));(focus (refine ⟨?_,?_⟩ <;> omega)))
 | (refine zadd _ _ _ _ (.mk 2 (numI ys (p + 1) [0,1,0,2]) []) (p + 1 + 1) ?_ ?_ ?_ ?_;(first | exact Or.inl rfl | exact Or.inr rfl);(focus (simp [-zg,-zd,↓Qb,↓Qa,go_sem,Tryz.results94];done));(focus ((trivial);done));(focus (refine ⟨?_,?_⟩ <;> omega)))
 | (refine zadd _ _ _ _ (.mk 2 (numI ys (p + 1 + 1) [0,1,0,2]) []) (p + 1 + 1 + 1) ?_ ?_ ?_ ?_;(first | exact Or.inl rfl | exact Or.inr rfl);(focus (simp [-zg,-zd,↓Qb,↓Qa,go_sem,Tryz.results94];done));(focus ((trivial);done));(focus (refine ⟨?_,?_⟩ <;> omega)))
 | (refine zadd _ _ _ _ (.mk kk 0 q.1) (q.2.2.1) ?_ ?_ ?_ ?_;(first | exact Or.inl rfl | exact Or.inr rfl);(focus (simp [-zg,-zd,↓Qb,↓Qa,go_sem,Tryz.results94,li,dat,Xh,hbq,g5];done));(focus ((trivial);done));(focus (refine ⟨?_,?_⟩ <;> omega)))
 | skip)
theorem l1Random_spec (ys:List UInt8) (p:Int) (b:Nat) (d:Int) (hl:ys.length ≤ 2000) (h0_:0 ≤ p) (hp_:p + (kR d.toNat) ≤ 1000000) (hd:d ≤ 4):SpecR Tryz.prog 94 [.ptr b 0,.int .i64 d] (one b [li cY ys,.int .i64 p]) (fun c=>((Jn d p c).1.2,one b [li cY ys,.int .i64 (Jn d p c).2])):=l1Random_rec (d.toNat + 1) ys p b d hl h0_ hp_ hd (by omega)
@[go_sem] def l1RandomC:Con:=.rel fun args H=>match args with
  | [.ptr b 0,.int .i64 d]=>match H b with
    | some [.list m cs,.int .i64 p]=>((Is cY m cs) ∧ (m ≤ 2000) ∧ (0 ≤ p) ∧ (p + (kR d.toNat) ≤ 1000000) ∧ (d ≤ 4),fun c=>(Vi (Zv d p c).1,upd H b (some [.list m cs,.int .i64 (Zv d p c).2])))
    | _=>(False,fun _=>(.any,H))
  | _=>(False,fun _=>(.any,H))
theorem l1RandomC_ok:ConOk Tryz.prog 94 l1RandomC:=by
  refine ⟨Qo Tryz.func94 (by decide) rfl,fun args H h=>?_⟩
  revert h
  dsimp only
  split
  · split
    · rename_i hH
      intro h
      obtain ⟨⟨ys,rfl,rfl⟩,hl,h0_,hp_,hd⟩:=h
      try simp only [Qm] at *
      exact SpecR.enc ((l1Random_spec ys _ _ _ hl h0_ hp_ hd).frame hH).shut fun c=>Prod.ext (zagq _ hd _ _).2.symm rfl
    · intro h;exact h.elim
  · intro h
    exact h.elim
@[go_sem] def Γe22:FuncId → Con:=ext Γe21 94 l1RandomC
theorem zaie:∀ g,ConOk Tryz.prog g (Γe22 g):=Qn Γe21_ok l1RandomC_ok

theorem kR_le {d:Int} (h:d ≤ 4):kR d.toNat ≤ 93:=by
  have:d.toNat = 0 ∨ d.toNat = 1 ∨ d.toNat = 2 ∨ d.toNat = 3 ∨ d.toNat = 4:=by omega
  rcases this with e | e | e | e | e <;> rw [e] <;> decide

@[go_sem] def Um:Tree → D:=sX
theorem l1Expr_flat (x:Tree):dat (Um x) = Um x:=by simp [go_sem]
def zadx  : Tree → Prop:=fun _=>True
def l1Expr_gd  (x:(Tree) × D):Prop:=zadx x.1 ∧ dat x.2 = Um x.1
def zace  (p:Int) (c:Any):((Tree) × D) × Int:=dsel (l1Expr_gd) ((.mk 1 1 []:Tree),Um (.mk 1 1 [])) 100 p c
def Vk  (p:Int) (c:Any):(Tree) × Int:=((zace p c).1.1,(zace p c).2)
theorem l1Expr_okD   (p:Int) (c:Any):(zadx (Vk p c).1 ∧ p ≤ (Vk p c).2 ∧ (Vk p c).2 ≤ p + 100) ∧ dat (zace p c).1.2 = Um (Vk p c).1:=by
  have hx:zadx (.mk 1 1 []):=trivial
  have h:=Vc (good:=l1Expr_gd) (x0:=((.mk 1 1 []:Tree),Um (.mk 1 1 []))) ⟨hx,l1Expr_flat _⟩ (K:=100) (by omega) (p:=p) c
  exact ⟨⟨h.1.1,h.2.1,h.2.2⟩,h.1.2⟩
theorem l1Expr_ok   (p:Int) (c:Any):zadx (Vk p c).1 ∧ p ≤ (Vk p c).2 ∧ (Vk p c).2 ≤ p + 100:=(l1Expr_okD  p c).1
theorem l1Expr_ret  (ys:List UInt8) (p:Int) (b:Nat) {e_:Exit} {S_:St} (x:Tree) (p':Int) (he_:e_ = .ret ∨ e_ = .normal)
    (h1:(Qf Tryz.prog S_ Tryz.f84.results.toList).1 ∧ dat (resD (Qf Tryz.prog S_ Tryz.f84.results.toList).2.1) = Um x ∧ (Qf Tryz.prog S_ Tryz.f84.results.toList).2.2.H b = some [li cY ys,.int .i64 p']) (hg:zadx x) (h2:p ≤ p' ∧ p' ≤ p + 100) :
    retR Tryz.prog Tryz.f84 (fun c=>((zace p c).1.2,one b [li cY ys,.int .i64 (zace p c).2])) e_ S_ :=
  Jv (good:=l1Expr_gd) (enc:=fun x:(Tree) × D=>x.2) (cells:=fun q=>[li cY ys,.int .i64 q]) (x,resD (Qf Tryz.prog S_ Tryz.f84.results.toList).2.1) p' he_ ⟨h1.1,rfl,h1.2.2⟩ ⟨hg,h1.2.1⟩ h2
theorem l1Expr_spec (ys:List UInt8) (p:Int) (b:Nat)  (hl:ys.length ≤ 2000) (h0_:0 ≤ p) (hp_:p + 100 ≤ 1000000)  : SpecR Tryz.prog 84 [.ptr b 0] (one b [li cY ys,.int .i64 p]) (fun c=>((zace p c).1.2,one b [li cY ys,.int .i64 (zace p c).2])):=by
  refine SpecR.of_walk Tryz.func84 rfl (by simp [Tryz.f84]) fun B=>?_
  have hr:=zaet ys (p:=p) (by omega) (xs:=[3,2,3,4]) (lo:=2) (hi:=4) (by simp) (by simp);have hk:=kR_le (d:=numI ys p [3,2,3,4]) (by omega);have hk0:=kR_nn (numI ys p [3,2,3,4]).toNat
  all_goals (repeat' (first
 | refine Qt ?_
 | refine Qc (id:=0) zaie [] (by kernel_rfl) ?_;simp [-zg,-zd,↓Qb,↓Qa,go_sem]
 | refine Qc (id:=1) zaie [] (by kernel_rfl) ?_;simp [-zg,-zd,↓Qb,↓Qa,go_sem,hl,(show 0 ≤ p by omega),(show p ≤ 1000000 by omega),(show 0 ≤ p + 1 by omega),(show p + 1 ≤ 1000000 by omega),(show 0 ≤ p + 1 + 1 by omega),(show p + 1 + 1 ≤ 1000000 by omega),hr,(show p + 1 + kR (numI ys p [3,2,3,4]).toNat ≤ 1000000 by omega)];try (intro c1;have z0:=zaoh (numI ys p [3,2,3,4]) (by omega) (p + 1) c1;generalize Zv (numI ys p [3,2,3,4]) (p + 1) c1 = z at *;obtain ⟨-,z1,z2⟩:=z0;obtain ⟨⟨tk,tv,ts⟩,p2⟩:=z;dsimp only at z1 z2;refine Xe 3 ?_;simp [go_sem])
 | refine Qc (id:=2) zaie [] (by kernel_rfl) ?_;simp [-zg,-zd,↓Qb,↓Qa,go_sem]
 | refine Qc (id:=3) zaie [] (by kernel_rfl) ?_;simp [-zg,-zd,↓Qb,↓Qa,go_sem]
 | refine Qc (id:=4) zaie [] (by kernel_rfl) ?_;simp [-zg,-zd,↓Qb,↓Qa,go_sem,hl,(show 0 ≤ p2 by omega),(show p2 ≤ 1000000 by omega)]
 | refine Qd (c:=.tmp 10) ?_;simp [-zg,-zd,↓Qb,↓Qa,go_sem];try first | (refine ⟨?_,?_⟩ <;> refine zA ?_) | (refine ⟨fun c10=>?_,fun c10=>?_⟩ <;> (try simp [B_iff,B_not] at c10))
 | (refine Qg ?_)
 | (refine Qs ?_;simp [-zg,-zd,↓Qb,↓Qa,go_sem])
 | (refine Qr ?_;simp [-zg,-zd,↓Qb,↓Qa,go_sem])
 | (refine Qq ?_;try simp [-zg,-zd,↓Qb,↓Qa,go_sem,Tryz.results84])
 | (intro hx;refine zA ?_)
 | (intro hx;change retR _ _ _ _ _)
 | (refine ⟨?_,?_⟩ <;> refine zA ?_)
 | (intro hx;constructor <;> intro hs)
 | (constructor <;> intro hs)
 | (refine ⟨?_,fun hs=>?_⟩;refine zA ?_)
 | (refine ⟨fun hs=>?_,?_⟩;rotate_left;refine zA ?_;rotate_left)))
  all_goals (first
 | (refine l1Expr_ret _ _ _ (.mk tk tv ts) (p2) ?_ ?_ ?_ ?_;(first | exact Or.inl rfl | exact Or.inr rfl);(focus (simp [-zg,-zd,↓Qb,↓Qa,go_sem,Tryz.results84,li,dat,Xh];done));(focus ((trivial);done));(focus (refine ⟨?_,?_⟩ <;> omega)))
 | (refine l1Expr_ret _ _ _ (.mk 2 (pkI ys p2 3) []) (p2 + 1) ?_ ?_ ?_ ?_;(first | exact Or.inl rfl | exact Or.inr rfl);(focus (simp [-zg,-zd,↓Qb,↓Qa,go_sem,Tryz.results84];done));(focus ((trivial);done));(focus (refine ⟨?_,?_⟩ <;> omega)))
 | skip)
@[go_sem] def l1ExprC:Con:=.rel fun args H=>match args with
  | [.ptr b 0]=>match H b with
    | some [.list m cs,.int .i64 p]=>((Is cY m cs) ∧ (m ≤ 2000) ∧ (0 ≤ p) ∧ (p + 100 ≤ 1000000),fun c=>(Um (Vk p c).1,upd H b (some [.list m cs,.int .i64 (Vk p c).2])))
    | _=>(False,fun _=>(.any,H))
  | _=>(False,fun _=>(.any,H))
theorem l1ExprC_ok:ConOk Tryz.prog 84 l1ExprC:=by
  refine ⟨Qo Tryz.func84 (by decide) rfl,fun args H h=>?_⟩
  revert h
  dsimp only
  split
  · split
    · rename_i hH
      intro h
      obtain ⟨⟨ys,rfl,rfl⟩,hl,h0_,hp_⟩:=h
      try simp only [Qm] at *
      exact SpecR.enc ((l1Expr_spec ys _ _ hl h0_ hp_ ).frame hH).shut fun c=>Prod.ext (l1Expr_okD  _ _).2.symm rfl
    · intro h;exact h.elim
  · intro h
    exact h.elim
@[go_sem] def Γe23:FuncId → Con:=ext Γe22 84 l1ExprC
theorem Zc:∀ g,ConOk Tryz.prog g (Γe23 g):=Qn zaie l1ExprC_ok


section
variable {P:Program} {B:Base} {n:Nat} {S:St} {a:Act} {w:World} {μ:Nat → Nat} {fp:Root → List Nat} {N:Nat}
theorem R.shutBag {d:D} {v:Value} (hR:R B n S [d] [v] a w μ fp N):R B n S [dat d] [v] a w μ (fset fp .bag []) N:=by
  have hm:Moves fp (fset fp .bag []):=.drop hR.nod hR.dis fun r=>by
    by_cases e:r = .bag
    · subst e;exact .inr (Xj ..)
    · exact .inl (Xc e)
  refine ⟨hR.len,hR.dfs,hR.frm,hR.jk,hR.own' hm,hm.nod,hm.dis,fun t'=>?_,?_,?_,?_,hR.bT,?_,hR.bH,hR.rn⟩
  · rw [Xc (by simp)]
    exact (hR.tm t').sub hm.sub
  · rw [Xj]
    have hb1:=hR.bg
    simp only [RepL] at hb1 ⊢
    obtain ⟨v',vs',f1,f2,e1,e2,r1,r2⟩:=hb1
    obtain ⟨rfl,rfl⟩:v' = v ∧ vs' = []:=by simpa using e1.symm
    have e3:fp .bag = f1:=by rw [e2,r2.2,List.append_nil]
    refine ⟨v',[],[],[],rfl,rfl,Rep.dat (I:=Im B w fp) (fun b hb=>hb.sub hm.sub) (fun b hb=>?_) r1,rfl,rfl⟩
    rw [← e3] at hb
    have ho:=hR.own _ b hb
    refine ⟨ho.2,?_,fun r hr=>?_⟩
    · rcases ho.1 with q | q
      · exact .inl (.inr q)
      · exact .inr q
    · by_cases e:r = .bag
      · subst e;rw [Xj] at hr;cases hr
      · rw [Xc e] at hr;exact e (hR.dis _ _ b hr hb)
  · intro b cs hc;exact (hR.hp b cs hc).sub hm.sub (by simp [fset]) (by simp [fset])
  · intro b hb;have:=hR.hn b hb;simp [fset,this]
  · have:=hR.bB
    simp only [bndL] at this ⊢
    exact ⟨bnd_dat this.1,trivial⟩
theorem noTup {E:D} {n:Nat} {cs:List D} (h:dat E = .list n cs):isTup E = false:=by
  cases E <;> first | rfl | (simp [dat] at h)
theorem zafw (b i:Nat) {c:Code} {Q:Exit → St → Prop} {all:List D} {d:D} (hH:S.H b = some all) (hi:all[i]? = some d) (hnt:isTup d = false)
    (h:AW P B n c Q ⟨S.T,upd S.H b (some (all.set i (dat d)))⟩):AW P B n c Q S:=fun a w μ fp N hR=>by
  have hil:i < all.length:=by rcases Nat.lt_or_ge i all.length with q | q;exact q;rw [List.getElem?_eq_none q] at hi;cases hi
  obtain ⟨v,fp1,hw,hone,h1⟩:=hR.cellOut hH (.inr ⟨i,_,hi,hnt⟩) hi
  obtain ⟨fp3,h3⟩:=h1.shutBag.cellIn (b:=b) (i:=i) (cs:=all.set i .any) (by dsimp only;rw [Qp]) (.inr ⟨i,.any,by rw [List.getElem?_set_self hil],rfl⟩) (by simpa using hil) hone hw
  refine h a w μ fp3 N ?_
  have e:upd (upd S.H b (some (all.set i .any))) b (some ((all.set i .any).set i (dat d))) = upd S.H b (some (all.set i (dat d))):=by
    funext x
    by_cases e2:x = b
    · subst e2;rw [Qp,Qp,List.set_set]
    · rw [Ql e2,Ql e2,Ql e2]
  dsimp only at h3
  rw [e] at h3
  exact h3
theorem zaeb {c:Code} {Q:Exit → St → Prop} (t sz:Nat) {d:D} (hT:S.T t = .box [d,.nil]) (h:AW P B n c Q ⟨upd S.T t (.box [d,.fr sz 0 []]),S.H⟩):AW P B n c Q S :=
  zamw t hT (fun μ I w vs f hr=>by
    simp only [RepL] at hr ⊢
    obtain ⟨v,vs',f1,f2,e1,e2,r1,v2,vs2,g1,g2,e3,e4,r2,r3⟩:=hr
    exact ⟨v,vs',f1,f2,e1,e2,r1,v2,vs2,g1,g2,e3,e4,zaks r2,r3⟩) (fun N hb=>by simp only [bndL,bnd] at hb ⊢;exact ⟨hb.1,trivial,trivial⟩) h
end
@[go_sem] def sE (x:Ed):D:=.st [.int .i64 x.fr,.int .i64 x.to,.int .i64 x.g.k,.int .i64 x.g.v,li cX x.g.ks,.int .i64 x.v,.int .i64 x.e.k,.int .i64 x.e.v,li cX x.e.ks,.int .i64 x.sy]
@[go_sem] theorem makeD_10 (x:D):makeD [x] 1 = [x]:=by rw [Js];rfl

theorem dat_nilX:dat D.nil = li cX ([]:List Tree):=by simp [dat,li,cat]
theorem dat_liX (es:List Tree):dat (.list es.length (cat cX es)) = li cX es:=by simp [dat,li]
theorem dat_twoX (a b c d:Int):dat (.fr 3 2 [.int .i64 a,.int .i64 b,.list 0 [],.int .i64 c,.int .i64 d,.list 0 []]) = li cX [.mk a b [],.mk c d []]:=by
  simp [dat,datL,li,Xg,cX_mk,cat]

@[go_sem] def Vx:Ed → D:=sE
theorem zank (x:Ed):dat (Vx x) = Vx x:=by simp [go_sem]
def zabc (n:Int):Ed → Prop:=fun _=>True
def zaey (n:Int) (x:(Ed) × D):Prop:=zabc n x.1 ∧ dat x.2 = Vx x.1
def zaad (n:Int) (p:Int) (c:Any):((Ed) × D) × Int:=dsel (zaey n) ((⟨0,0,.mk 1 1 [],0,.mk 1 1 [],0⟩:Ed),Vx (⟨0,0,.mk 1 1 [],0,.mk 1 1 [],0⟩)) 115 p c
def Vd (n:Int) (p:Int) (c:Any):(Ed) × Int:=((zaad n p c).1.1,(zaad n p c).2)
theorem zahn (n:Int) (hn:n ≤ 1000000) (p:Int) (c:Any):(zabc n (Vd n p c).1 ∧ p ≤ (Vd n p c).2 ∧ (Vd n p c).2 ≤ p + 115) ∧ dat (zaad n p c).1.2 = Vx (Vd n p c).1:=by
  have hx:zabc n (⟨0,0,.mk 1 1 [],0,.mk 1 1 [],0⟩):=trivial
  have h:=Vc (good:=zaey n) (x0:=((⟨0,0,.mk 1 1 [],0,.mk 1 1 [],0⟩:Ed),Vx (⟨0,0,.mk 1 1 [],0,.mk 1 1 [],0⟩))) ⟨hx,zank _⟩ (K:=115) (by omega) (p:=p) c
  exact ⟨⟨h.1.1,h.2.1,h.2.2⟩,h.1.2⟩
theorem l2DrawEdge_ok (n:Int) (hn:n ≤ 1000000) (p:Int) (c:Any):zabc n (Vd n p c).1 ∧ p ≤ (Vd n p c).2 ∧ (Vd n p c).2 ≤ p + 115:=(zahn n hn p c).1
theorem zahm (n:Int) (ys:List UInt8) (p:Int) (b:Nat) {e_:Exit} {S_:St} (x:Ed) (p':Int) (he_:e_ = .ret ∨ e_ = .normal)
    (h1:(Qf Tryz.prog S_ Tryz.f63.results.toList).1 ∧ dat (resD (Qf Tryz.prog S_ Tryz.f63.results.toList).2.1) = Vx x ∧ (Qf Tryz.prog S_ Tryz.f63.results.toList).2.2.H b = some [li cY ys,.int .i64 p']) (hg:zabc n x) (h2:p ≤ p' ∧ p' ≤ p + 115) :
    retR Tryz.prog Tryz.f63 (fun c=>((zaad n p c).1.2,one b [li cY ys,.int .i64 (zaad n p c).2])) e_ S_ :=
  Jv (good:=zaey n) (enc:=fun x:(Ed) × D=>x.2) (cells:=fun q=>[li cY ys,.int .i64 q]) (x,resD (Qf Tryz.prog S_ Tryz.f63.results.toList).2.1) p' he_ ⟨h1.1,rfl,h1.2.2⟩ ⟨hg,h1.2.1⟩ h2
set_option maxHeartbeats 4000000 in
theorem zanj (ys:List UInt8) (p:Int) (b:Nat) (n:Int) (hl:ys.length ≤ 2000) (h0_:0 ≤ p) (hp_:p + 115 ≤ 1000000) (hn:n ≤ 1000000):SpecR Tryz.prog 63 [.ptr b 0,.int .i64 n] (one b [li cY ys,.int .i64 p]) (fun c=>((zaad n p c).1.2,one b [li cY ys,.int .i64 (zaad n p c).2])):=by
  refine SpecR.of_walk Tryz.func63 rfl (by simp [Tryz.f63]) fun B=>?_
  (repeat' (first
 | refine Qt ?_
 | refine Qc (id:=0) Zc [] (by kernel_rfl) ?_;simp [-zg,-zd,↓Qb,↓Qa,go_sem]
 | refine Qc (id:=1) Zc [] (by kernel_rfl) ?_;simp [-zg,-zd,↓Qb,↓Qa,go_sem,hl,(show 0 ≤ p by omega),(show p ≤ 1000000 by omega),(show 0 ≤ p + 1 by omega),(show p + 1 ≤ 1000000 by omega),(show 0 ≤ p + 1 + 1 by omega),(show p + 1 + 1 ≤ 1000000 by omega),hn,(show p + 1 + 1 + 5 ≤ 1000000 by omega)];try ((intro c1);(have z0:=l2Guard_ok (p + 1 + 1) c1);(generalize Jq (p + 1 + 1) c1 = z at *);(obtain ⟨-,z1,z2⟩:=z0);(obtain ⟨⟨gk,gv,gs⟩,p1⟩:=z);(dsimp only at z1 z2);(generalize pkI ys p n = x1 at *);(generalize pkI ys (p + 1) n = x2 at *);(refine Zn 5 rfl fun qb hqb=>?_);(have hbq:¬ b = qb:=(by rintro rfl;simp [go_sem] at hqb));(clear hqb);(refine Qw (fun H1=>H1 b = some [.list ys.length (cat cY ys),.int .i64 p1] ∧ H1 qb = some [.int .i64 x1,.int .i64 x2,.int .i64 gk,.int .i64 gv,li cX gs,.int .i64 (-1),.int .i64 0,.int .i64 0,.nil,.int .i64 0]) ⟨by simp [go_sem,hbq],by simp [go_sem,hbq,li]⟩ fun H1 ⟨w1,w2⟩=>?_))
 | refine Qc (id:=2) Zc [] (by kernel_rfl) ?_;simp [-zg,-zd,↓Qb,↓Qa,go_sem,w1,hl,(show 0 ≤ p1 by omega),(show p1 ≤ 1000000 by omega),(show 0 ≤ p1 + 1 by omega),(show p1 + 1 ≤ 1000000 by omega),(show 0 ≤ p1 + 1 + 1 by omega),(show p1 + 1 + 1 ≤ 1000000 by omega)]
 | refine Qc (id:=3) Zc [] (by kernel_rfl) ?_;simp [-zg,-zd,↓Qb,↓Qa,go_sem,w1,w2,hl,(show 0 ≤ p1 by omega),(show p1 ≤ 1000000 by omega),(show 0 ≤ p1 + 1 by omega),(show p1 + 1 ≤ 1000000 by omega),(show 0 ≤ p1 + 1 + 1 by omega),(show p1 + 1 + 1 ≤ 1000000 by omega),hbq,zS hbq];try (generalize numI ys (p1 + 1) [0,1,0,2] = x3 at *)
 | refine Qc (id:=4) Zc [] (by kernel_rfl) ?_;simp [-zg,-zd,↓Qb,↓Qa,go_sem,w1,w2,hbq,zS hbq];try (refine Xe 6 ?_;simp [go_sem])
 | refine Qc (id:=5) Zc [] (by kernel_rfl) ?_;simp [-zg,-zd,↓Qb,↓Qa,go_sem];try (refine Xe 7 ?_;simp [go_sem])
 | refine Qc (id:=6) Zc [] (by kernel_rfl) ?_;simp [-zg,-zd,↓Qb,↓Qa,go_sem,w1,w2,hbq,zS hbq,hl,(show 0 ≤ p1 by omega),(show p1 ≤ 1000000 by omega),(show 0 ≤ p1 + 1 by omega),(show p1 + 1 ≤ 1000000 by omega),(show 0 ≤ p1 + 1 + 1 by omega),(show p1 + 1 + 1 ≤ 1000000 by omega),(show 0 ≤ p1 + 1 + 1 + 1 by omega),(show p1 + 1 + 1 + 1 ≤ 1000000 by omega)]
 | refine Qc (id:=8) Zc [] (by kernel_rfl) ?_;simp [-zg,-zd,↓Qb,↓Qa,go_sem]
 | refine Qc (id:=9) Zc [] (by kernel_rfl) ?_;simp [-zg,-zd,↓Qb,↓Qa,go_sem,w1,w2,hbq,zS hbq,hl,(show 0 ≤ p1 by omega),(show p1 ≤ 1000000 by omega),(show 0 ≤ p1 + 1 by omega),(show p1 + 1 ≤ 1000000 by omega),(show 0 ≤ p1 + 1 + 1 by omega),(show p1 + 1 + 1 ≤ 1000000 by omega),(show 0 ≤ p1 + 1 + 1 + 1 by omega),(show p1 + 1 + 1 + 1 ≤ 1000000 by omega),(show 0 ≤ p1 + 1 + 1 + 1 + 1 by omega),(show p1 + 1 + 1 + 1 + 1 ≤ 1000000 by omega)]
 | refine Qc (id:=10) Zc [] (by kernel_rfl) ?_;simp [-zg,-zd,↓Qb,↓Qa,go_sem]
 | refine Qc (id:=11) Zc [] (by kernel_rfl) ?_;simp [-zg,-zd,↓Qb,↓Qa,go_sem,w1,w2,hbq,zS hbq]
 | refine Qc (id:=12) Zc [] (by kernel_rfl) ?_;simp [-zg,-zd,↓Qb,↓Qa,go_sem]
 | refine Qc (id:=13) Zc [] (by kernel_rfl) ?_;simp [-zg,-zd,↓Qb,↓Qa,go_sem,w1,w2,hbq,zS hbq]
 | refine Qc (id:=7) Zc [] (by kernel_rfl) ?_;simp [-zg,-zd,↓Qb,↓Qa,go_sem,w1,w2,hbq,zS hbq,hl,(show 0 ≤ p1 by omega),(show p1 ≤ 1000000 by omega),(show 0 ≤ p1 + 1 by omega),(show p1 + 1 ≤ 1000000 by omega),(show 0 ≤ p1 + 1 + 1 by omega),(show p1 + 1 + 1 ≤ 1000000 by omega),(show 0 ≤ p1 + 1 + 1 + 1 by omega),(show p1 + 1 + 1 + 1 ≤ 1000000 by omega),(show p1 + 1 + 1 + 1 + 100 ≤ 1000000 by omega)];try ((intro c7);(have y0:=l1Expr_ok (p1 + 1 + 1 + 1) c7);(generalize Vk (p1 + 1 + 1 + 1) c7 = y at *);(obtain ⟨-,y1,y2⟩:=y0);(obtain ⟨⟨ek,ev,es⟩,p2⟩:=y);(dsimp only at y1 y2))
 | ((refine Qw (fun H2=>∃ (v ek ev q:Int) (E:D),(∃ es,dat E = li cX es) ∧ p ≤ q ∧ q ≤ p + 113 ∧ H2 b = some [.list ys.length (cat cY ys),.int .i64 q] ∧ H2 qb = some [.int .i64 x1,.int .i64 x2,.int .i64 gk,.int .i64 gv,li cX gs,.int .i64 v,.int .i64 ek,.int .i64 ev,E,.int .i64 0]) (by (iterate 5 apply Exists.intro);refine ⟨?_,?_,?_,?_,?_⟩;rotate_left 3;(simp [upd,w1,w2,hbq,zS hbq];and_intros <;> rfl);(simp [upd,w1,w2,hbq,zS hbq,li];and_intros <;> rfl);(first | exact ⟨_,dat_nilX⟩ | exact ⟨_,dat_liX _⟩ | exact ⟨_,dat_twoX _ _ _ _⟩);omega;omega) fun H2 ⟨v,ek,ev,q,E,⟨es,hE⟩,k1,k2,k3',k4'⟩=>?_);(refine zafw qb 8 k4' rfl (noTup hE) ?_);(refine Qw (fun H3=>H3 b = some [.list ys.length (cat cY ys),.int .i64 q] ∧ H3 qb = some [.int .i64 x1,.int .i64 x2,.int .i64 gk,.int .i64 gv,li cX gs,.int .i64 v,.int .i64 ek,.int .i64 ev,li cX es,.int .i64 0]) ⟨by simp [upd,hbq,zS hbq,k3'],by simp [upd,hE]⟩ fun H3 ⟨k3,k4⟩=>?_));refine Qc (id:=14) Zc [] (by kernel_rfl) ?_;simp [-zg,-zd,↓Qb,↓Qa,go_sem,k3,hl,(show 0 ≤ q by omega),(show q ≤ 1000000 by omega),(show 0 ≤ q + 1 by omega),(show q + 1 ≤ 1000000 by omega),(show 0 ≤ q + 1 + 1 by omega),(show q + 1 + 1 ≤ 1000000 by omega)]
 | refine Qc (id:=15) Zc [] (by kernel_rfl) ?_;simp [-zg,-zd,↓Qb,↓Qa,go_sem,k3,k4,hl,(show 0 ≤ q by omega),(show q ≤ 1000000 by omega),(show 0 ≤ q + 1 by omega),(show q + 1 ≤ 1000000 by omega),(show 0 ≤ q + 1 + 1 by omega),(show q + 1 + 1 ≤ 1000000 by omega),hbq,zS hbq]
 | refine Qc (id:=16) Zc [] (by kernel_rfl) ?_;simp [-zg,-zd,↓Qb,↓Qa,go_sem,k3,k4,hbq,zS hbq]
 | refine Qd (c:=.tmp 19) ?_;simp [-zg,-zd,↓Qb,↓Qa,go_sem];try first | (refine ⟨?_,?_⟩ <;> refine zA ?_) | (refine ⟨fun c19=>?_,fun c19=>?_⟩ <;> (try simp [B_iff,B_not] at c19))
 | refine Qd (c:=.tmp 33) ?_;simp [-zg,-zd,↓Qb,↓Qa,go_sem];try first | (refine ⟨?_,?_⟩ <;> refine zA ?_) | (refine ⟨fun c33=>?_,fun c33=>?_⟩ <;> (try simp [B_iff,B_not] at c33))
 | refine Qd (c:=.tmp 39) ?_;simp [-zg,-zd,↓Qb,↓Qa,go_sem];try first | (refine ⟨?_,?_⟩ <;> refine zA ?_) | (refine ⟨fun c39=>?_,fun c39=>?_⟩ <;> (try simp [B_iff,B_not] at c39))
 | refine Qd (c:=.tmp 46) ?_;simp [-zg,-zd,↓Qb,↓Qa,go_sem];try first | (refine ⟨?_,?_⟩ <;> refine zA ?_) | (refine ⟨fun c46=>?_,fun c46=>?_⟩ <;> (try simp [B_iff,B_not] at c46))
 | refine Qd (c:=.tmp 55) ?_;simp [-zg,-zd,↓Qb,↓Qa,go_sem];try first | (refine ⟨?_,?_⟩ <;> refine zA ?_) | (refine ⟨fun c55=>?_,fun c55=>?_⟩ <;> (try simp [B_iff,B_not] at c55))
 | (refine Qg ?_)
 | (refine Qs ?_;simp [-zg,-zd,↓Qb,↓Qa,go_sem])
 | (refine Qr ?_;simp [-zg,-zd,↓Qb,↓Qa,go_sem])
 | (refine Qq ?_;try simp [-zg,-zd,↓Qb,↓Qa,go_sem,Tryz.results63])
 | (intro hx;refine zA ?_)
 | (intro hx;change retR _ _ _ _ _)
 | (refine ⟨?_,?_⟩ <;> refine zA ?_)
 | (intro hx;constructor <;> intro hs)
 | (constructor <;> intro hs)
 | (refine ⟨?_,fun hs=>?_⟩;refine zA ?_)
 | (refine ⟨fun hs=>?_,?_⟩;rotate_left;refine zA ?_;rotate_left)))
  all_goals (first
 | (refine zahm _ _ _ _ (⟨x1,x2,.mk gk gv gs,v,.mk ek ev es,0⟩) (q + 1) ?_ ?_ ?_ ?_;(first | exact Or.inl rfl | exact Or.inr rfl);(focus (simp [-zg,-zd,↓Qb,↓Qa,go_sem,Tryz.results63,k3,k4,dat,Xh,li,hbq,zS hbq];done));(focus ((trivial);done));(focus (refine ⟨?_,?_⟩ <;> omega)))
 | (refine zahm _ _ _ _ (⟨x1,x2,.mk gk gv gs,v,.mk ek ev es,numI ys (q + 1) [1,-1,1,-1,2,-2]⟩) (q + 1 + 1) ?_ ?_ ?_ ?_;(first | exact Or.inl rfl | exact Or.inr rfl);(focus (simp [-zg,-zd,↓Qb,↓Qa,go_sem,Tryz.results63,k3,k4,dat,Xh,li,hbq,zS hbq];done));(focus ((trivial);done));(focus (refine ⟨?_,?_⟩ <;> omega)))
 | skip)
@[go_sem] def zaip:Con:=.rel fun args H=>match args with
  | [.ptr b 0,.int .i64 n]=>match H b with
    | some [.list m cs,.int .i64 p]=>((Is cY m cs) ∧ (m ≤ 2000) ∧ (0 ≤ p) ∧ (p + 115 ≤ 1000000) ∧ (n ≤ 1000000),fun c=>(Vx (Vd n p c).1,upd H b (some [.list m cs,.int .i64 (Vd n p c).2])))
    | _=>(False,fun _=>(.any,H))
  | _=>(False,fun _=>(.any,H))
theorem l2DrawEdgeC_ok:ConOk Tryz.prog 63 zaip:=by
  refine ⟨Qo Tryz.func63 (by decide) rfl,fun args H h=>?_⟩
  revert h
  dsimp only
  split
  · split
    · rename_i hH
      intro h
      obtain ⟨⟨ys,rfl,rfl⟩,hl,h0_,hp_,hn⟩:=h
      try simp only [Qm] at *
      exact SpecR.enc ((zanj ys _ _ _ hl h0_ hp_ hn).frame hH).shut fun c=>Prod.ext (zahn _ hn _ _).2.symm rfl
    · intro h;exact h.elim
  · intro h
    exact h.elim
@[go_sem] def Γe24:FuncId → Con:=ext Γe23 63 zaip
theorem Zz:∀ g,ConOk Tryz.prog g (Γe24 g):=Qn Zc l2DrawEdgeC_ok


@[go_sem] def sS (x:List Int × List Pr):D:=.st [li cI x.1,li cR x.2]
@[go_sem] def Ue:List Int × List Pr → D:=sS
theorem l2System_flat (x:List Int × List Pr):dat (Ue x) = Ue x:=by simp [go_sem]
def zacm  : List Int × List Pr → Prop:=fun _=>True
def zain  (x:(List Int × List Pr) × D):Prop:=zacm x.1 ∧ dat x.2 = Ue x.1
def zaat  (p:Int) (c:Any):((List Int × List Pr) × D) × Int:=dsel (zain) ((([],[]):List Int × List Pr),Ue (([],[]))) 2000 p c
def Vh  (p:Int) (c:Any):(List Int × List Pr) × Int:=((zaat p c).1.1,(zaat p c).2)
theorem zalm   (p:Int) (c:Any):(zacm (Vh p c).1 ∧ p ≤ (Vh p c).2 ∧ (Vh p c).2 ≤ p + 2000) ∧ dat (zaat p c).1.2 = Ue (Vh p c).1:=by
  have hx:zacm (([],[])):=trivial
  have h:=Vc (good:=zain) (x0:=((([],[]):List Int × List Pr),Ue (([],[])))) ⟨hx,l2System_flat _⟩ (K:=2000) (by omega) (p:=p) c
  exact ⟨⟨h.1.1,h.2.1,h.2.2⟩,h.1.2⟩
theorem l2System_ok   (p:Int) (c:Any):zacm (Vh p c).1 ∧ p ≤ (Vh p c).2 ∧ (Vh p c).2 ≤ p + 2000:=(zalm  p c).1
theorem l2System_ret  (ys:List UInt8) (p:Int) (b:Nat) {e_:Exit} {S_:St} (x:List Int × List Pr) (p':Int) (he_:e_ = .ret ∨ e_ = .normal)
    (h1:(Qf Tryz.prog S_ Tryz.f42.results.toList).1 ∧ dat (resD (Qf Tryz.prog S_ Tryz.f42.results.toList).2.1) = Ue x ∧ (Qf Tryz.prog S_ Tryz.f42.results.toList).2.2.H b = some [li cY ys,.int .i64 p']) (hg:zacm x) (h2:p ≤ p' ∧ p' ≤ p + 2000) :
    retR Tryz.prog Tryz.f42 (fun c=>((zaat p c).1.2,one b [li cY ys,.int .i64 (zaat p c).2])) e_ S_ :=
  Jv (good:=zain) (enc:=fun x:(List Int × List Pr) × D=>x.2) (cells:=fun q=>[li cY ys,.int .i64 q]) (x,resD (Qf Tryz.prog S_ Tryz.f42.results.toList).2.1) p' he_ ⟨h1.1,rfl,h1.2.2⟩ ⟨hg,h1.2.1⟩ h2
set_option maxHeartbeats 4000000 in
theorem l2System_spec (ys:List UInt8) (p:Int) (b:Nat)  (hl:ys.length ≤ 2000) (h0_:0 ≤ p) (hp_:p + 2000 ≤ 1000000)  : SpecR Tryz.prog 42 [.ptr b 0] (one b [li cY ys,.int .i64 p]) (fun c=>((zaat p c).1.2,one b [li cY ys,.int .i64 (zaat p c).2])):=by
  refine SpecR.of_walk Tryz.func42 rfl (by simp [Tryz.f42]) fun B=>?_
  (repeat' (first
 | refine Qt ?_
 | refine Qc (id:=0) Zz [] (by kernel_rfl) ?_;simp [-zg,-zd,↓Qb,↓Qa,go_sem]
 | refine Qc (id:=1) Zz [] (by kernel_rfl) ?_;simp [-zg,-zd,↓Qb,↓Qa,go_sem,hl,(show 0 ≤ p by omega),(show p ≤ 1000000 by omega),(show 0 ≤ p + 1 by omega),(show p + 1 ≤ 1000000 by omega),(show 0 ≤ p + 1 + 1 by omega),(show p + 1 + 1 ≤ 1000000 by omega)];try ((generalize pkI ys p 2 = x1 at *);(generalize numI ys (p + 1) [0,0,1,3] = x2 at *);(refine zaeb 3 2 rfl ?_);(refine Zn 3 rfl fun sb hsb=>?_);(have hbs:¬ b = sb:=(by rintro rfl;simp [go_sem] at hsb));(clear hsb);(refine Qw (fun H1=>H1 b = some [.list ys.length (cat cY ys),.int .i64 (p + 1 + 1)] ∧ H1 sb = some [.fr 1 3 [.int .i64 x1,.int .i64 x2,.int .i64 0],.fr 2 0 []]) ⟨by simp [go_sem,hbs],by simp [go_sem,hbs]⟩ fun H1 ⟨w1,w2⟩=>?_))
 | refine Qc (id:=2) Zz [] (by kernel_rfl) ?_;simp [-zg,-zd,↓Qb,↓Qa,go_sem,w1,hl,(show 0 ≤ p + 1 + 1 by omega),(show p + 1 + 1 ≤ 1000000 by omega),(show 0 ≤ p + 1 + 1 + 1 by omega),(show p + 1 + 1 + 1 ≤ 1000000 by omega)];try ((have hr:=zaet ys (p:=p + 1 + 1) (by omega) (xs:=[2,1,2,3]) (lo:=1) (hi:=3) (by simp) (by simp));(generalize numI ys (p + 1 + 1) [2,1,2,3] = kk at *))
 | refine Qc (id:=3) Zz [] (by kernel_rfl) ?_;simp [-zg,-zd,↓Qb,↓Qa,go_sem]
 | refine Qc (id:=5) Zz [] (by kernel_rfl) ?_;simp [-zg,-zd,↓Qb,↓Qa,go_sem,g5,hl,(show 0 ≤ q.2.2.1 by omega),(show q.2.2.1 ≤ 1000000 by omega),(show 0 ≤ q.2.2.1 + 1 by omega),(show q.2.2.1 + 1 ≤ 1000000 by omega)];try ((have hr5:=zaet ys (p:=q.2.2.1) (by omega) (xs:=[2,3,1,2]) (lo:=1) (hi:=3) (by simp) (by simp));(generalize numI ys q.2.2.1 [2,3,1,2] = lc at *);(refine zaeb 5 10 rfl ?_);(refine Zn 5 rfl fun pb hpb=>?_);(have hbp:¬ b = pb:=(by rintro rfl;simp [upd] at hpb));(have hsp:¬ sb = pb:=(by rintro rfl;simp [upd,zS hbs,g6] at hpb));(clear hpb);(refine Qw (fun H2=>H2 b = some [.list ys.length (cat cY ys),.int .i64 (q.2.2.1 + 1)] ∧ H2 sb = some [.fr 1 3 [.int .i64 x1,.int .i64 x2,.int .i64 0],.fr 2 q.1.length (cat cR q.1)] ∧ H2 pb = some [.int .i64 lc,.fr 10 0 []]) ⟨by simp [upd,hbp],by simp [upd,hsp,zS hbs,g6],by simp [upd]⟩ fun H2 ⟨v1,v2,v3⟩=>?_))
 | refine Qc (id:=6) Zz [] (by kernel_rfl) ?_;simp [-zg,-zd,↓Qb,↓Qa,go_sem,v1,hl,(show 0 ≤ q.2.2.1 + 1 by omega),(show q.2.2.1 + 1 ≤ 1000000 by omega),(show 0 ≤ q.2.2.1 + 1 + 1 by omega),(show q.2.2.1 + 1 + 1 ≤ 1000000 by omega)];try ((have hr6:=zaet ys (p:=q.2.2.1 + 1) (by omega) (xs:=[3,4,2,5,1]) (lo:=1) (hi:=5) (by simp) (by simp));(generalize numI ys (q.2.2.1 + 1) [3,4,2,5,1] = mm at *))
 | refine Qc (id:=7) Zz [] (by kernel_rfl) ?_;simp [-zg,-zd,↓Qb,↓Qa,go_sem]
 | ((refine Zx pb 1 (all:=[.int .i64 lc,.fr 10 r.1.length (cat cE r.1)]) f7 rfl fun u cu ju hu hcu hdu=>?_);(have ub:¬ u = b:=(by intro e;rw [e] at hu;dsimp only at hu;rw [f5] at hu;cases hu));(have us:¬ u = sb:=(by intro e;rw [e] at hu;dsimp only at hu;rw [f6] at hu;cases hu));(have up:¬ u = pb:=(by intro e;rw [e] at hu;dsimp only at hu;rw [f7] at hu;cases hu));(clear hu));refine Zu (id:=9) Zz mixed [(pb,[.int .i64 lc,.sl u 10 0 r.1.length cu])] [] [5] (by kernel_rfl) (by kernel_rfl) (by simp [-zg,-zd,↓Qb,↓Qa,go_sem,f5,f6,hl,hbp,hbs,hsp,zS hbp,zS hbs,zS hsp,ub,us,up,zS ub,zS us,zS up,(show 0 ≤ r.2.2.1 by omega),(show lc ≤ 1000000 by omega),(show r.2.2.1 + 115 ≤ 1000000 by omega),hdu,(show r.1.length ≤ 9223372036854775806 by omega),(show 2 * (r.1.length + 1) * 112 ≤ 281474976710656 by omega)]) (by simp [-zg,-zd,↓Qb,↓Qa,go_sem,f5,f6,hl,hbp,hbs,hsp,zS hbp,zS hbs,zS hsp,ub,us,up,zS ub,zS us,zS up,(show 0 ≤ r.2.2.1 by omega),(show lc ≤ 1000000 by omega),(show r.2.2.1 + 115 ≤ 1000000 by omega),hdu,(show r.1.length ≤ 9223372036854775806 by omega),(show 2 * (r.1.length + 1) * 112 ≤ 281474976710656 by omega)]) ?_;simp [-zg,-zd,↓Qb,↓Qa,go_sem,f5,f6,hl,hbp,hbs,hsp,zS hbp,zS hbs,zS hsp,ub,us,up,zS ub,zS us,zS up,(show 0 ≤ r.2.2.1 by omega),(show lc ≤ 1000000 by omega),(show r.2.2.1 + 115 ≤ 1000000 by omega),hdu,(show r.1.length ≤ 9223372036854775806 by omega),(show 2 * (r.1.length + 1) * 112 ≤ 281474976710656 by omega)];try (intro c9;have z0:=l2DrawEdge_ok lc (by omega) r.2.2.1 c9;generalize Vd lc r.2.2.1 c9 = z at *;obtain ⟨-,z1,z2⟩:=z0;obtain ⟨t,p2⟩:=z;dsimp only at z1 z2;refine Qw (fun H3=>H3 b = some [.list ys.length (cat cY ys),.int .i64 p2] ∧ H3 sb = some [.fr 1 3 [.int .i64 x1,.int .i64 x2,.int .i64 0],.fr 2 q.1.length (cat cR q.1)] ∧ H3 pb = some [.int .i64 lc,.fr 10 (r.1 ++ [t]).length (cat cE (r.1 ++ [t]))]) ⟨by simp [upd,hbp,hbs,hsp,zS hbp,zS hbs,zS hsp,ub,us,up,zS ub,zS us,zS up],by simp [upd,hbp,hbs,hsp,zS hbp,zS hbs,zS hsp,ub,us,up,zS ub,zS us,zS up,f6],by simp [upd,hbp,hbs,hsp,zS hbp,zS hbs,zS hsp,ub,us,up,zS ub,zS us,zS up,Xk,Xi,cE,li]⟩ fun H3 ⟨u1,u2,u3⟩=>?_)
 | refine Qc (id:=8) Zz [] (by kernel_rfl) ?_;simp [-zg,-zd,↓Qb,↓Qa,go_sem,Xb (x:=r.2.1 - 1) (by omega) (by omega)]
 | ((refine zafw pb 1 (all:=[.int .i64 lc,.fr 10 r.1.length (cat cE r.1)]) f7 rfl rfl ?_));refine Qc (id:=10) Zz [] (by kernel_rfl) ?_;simp [-zg,-zd,↓Qb,↓Qa,go_sem,f6,hbp,hbs,hsp,zS hbp,zS hbs,zS hsp,dat,Xh,(show q.1.length ≤ 9223372036854775806 by omega),(show 2 * (q.1.length + 1) * 32 ≤ 281474976710656 by omega)];try (refine Qw (fun H5=>H5 b = some [.list ys.length (cat cY ys),.int .i64 r.2.2.1] ∧ H5 sb = some [.fr 1 3 [.int .i64 x1,.int .i64 x2,.int .i64 0],.fr 2 (q.1 ++ [Pr.mk lc r.1]).length (cat cR (q.1 ++ [Pr.mk lc r.1]))]) ⟨by simp [upd,hbp,hbs,hsp,zS hbp,zS hbs,zS hsp,f5],by simp [upd,hbp,hbs,hsp,zS hbp,zS hbs,zS hsp,Xk,Xi,cR,li]⟩ fun H5 ⟨y1,y2⟩=>?_)
 | refine Qc (id:=4) Zz [] (by kernel_rfl) ?_;simp [-zg,-zd,↓Qb,↓Qa,go_sem,Xb (x:=q.2.1 - 1) (by omega) (by omega)]
 | refine Qc (id:=11) Zz [] (by kernel_rfl) ?_;simp [-zg,-zd,↓Qb,↓Qa,go_sem,g6]
 | refine Qd (c:=.tmp 18) ?_;simp [-zg,-zd,↓Qb,↓Qa,go_sem];try first | (refine ⟨?_,?_⟩ <;> refine zA ?_) | (refine ⟨fun c18=>?_,fun c18=>?_⟩ <;> (try simp [B_iff,B_not] at c18))
 | refine Qd (c:=.tmp 29) ?_;simp [-zg,-zd,↓Qb,↓Qa,go_sem];try first | (refine ⟨?_,?_⟩ <;> refine zA ?_) | (refine ⟨fun c29=>?_,fun c29=>?_⟩ <;> (try simp [B_iff,B_not] at c29))
 | (refine Qg (id:=0) (Qx (ι:=List Pr × Int × Int × Hp) (fun q:List Pr × Int × Int × Hp=>⟨(upd (upd (upd (upd (fun _=>.any) 0 (.ptr b 0)) 2 (.box [.nil,.nil])) 3 (.ptr sb 0)) 4 (.int .i64 q.2.1)),q.2.2.2⟩) (fun q=>0 ≤ q.2.1 ∧ q.2.1 ≤ 3 ∧ (q.1.length:Int) + q.2.1 ≤ 3 ∧ p ≤ q.2.2.1 ∧ q.2.2.1 ≤ p + 3 + (3 - q.2.1) * 600 ∧ q.2.2.2 b = some [.list ys.length (cat cY ys),.int .i64 q.2.2.1] ∧ q.2.2.2 sb = some [.fr 1 3 [.int .i64 x1,.int .i64 x2,.int .i64 0],.fr 2 q.1.length (cat cR q.1)]) (fun q=>q.2.1.toNat) (([],kk,p + 1 + 1 + 1,upd H1 b (some [.list ys.length (cat cY ys),.int .i64 (p + 1 + 1 + 1)]))) ?_ ?_ ?_);exact ⟨by dsimp only;omega,by dsimp only;omega,by simp;omega,by dsimp only;omega,by dsimp only;omega,by simp [upd],by simp [upd,zS hbs,w2,Xl]⟩;((repeat' (first | exact Qh (by assumption) | exact Qj | refine Qk ?_ ?_ | refine Qi ?_)) <;> simp [-zg,-zd,↓Qb,↓Qa,go_sem]);rintro q ⟨g0,g1,g2,g3,g4,g5,g6⟩)
 | (refine ⟨(q.1 ++ [Pr.mk lc r.1],q.2.1 - 1,r.2.2.1,H5),⟨by dsimp only;omega,by dsimp only;omega,by simp;omega,by dsimp only;omega,by dsimp only;omega,y1,y2⟩,by first | omega | (simp;done) | (simp;omega),?_⟩;((repeat' (first | exact Qh (by assumption) | exact Qj | refine Qk ?_ ?_ | refine Qi ?_)) <;> simp [-zg,-zd,↓Qb,↓Qa,go_sem,]))
 | (refine Qg (id:=2) (Qx (ι:=List Ed × Int × Int × Hp) (fun r:List Ed × Int × Int × Hp=>⟨(upd (upd (upd (upd (upd (upd (fun _=>.any) 0 (.ptr b 0)) 2 (.box [.nil,.nil])) 3 (.ptr sb 0)) 4 (.int .i64 q.2.1)) 5 (.ptr pb 0)) 6 (.int .i64 r.2.1)),r.2.2.2⟩) (fun r=>r.2.1 ≤ 5 ∧ 0 ≤ r.2.1 ∧ (r.1.length:Int) + r.2.1 ≤ 5 ∧ q.2.2.1 ≤ r.2.2.1 ∧ r.2.2.1 ≤ q.2.2.1 + 2 + (5 - r.2.1) * 115 ∧ r.2.2.2 b = some [.list ys.length (cat cY ys),.int .i64 r.2.2.1] ∧ r.2.2.2 sb = some [.fr 1 3 [.int .i64 x1,.int .i64 x2,.int .i64 0],.fr 2 q.1.length (cat cR q.1)] ∧ r.2.2.2 pb = some [.int .i64 lc,.fr 10 r.1.length (cat cE r.1)]) (fun r=>r.2.1.toNat) (([],mm,q.2.2.1 + 1 + 1,upd H2 b (some [.list ys.length (cat cY ys),.int .i64 (q.2.2.1 + 1 + 1)]))) ?_ ?_ ?_);exact ⟨by dsimp only;omega,by dsimp only;omega,by simp;omega,by dsimp only;omega,by dsimp only;omega,by simp [upd],by simp [upd,zS hbs,v2],by simp [upd,zS hbp,v3,Xl]⟩;((repeat' (first | exact Qh (by assumption) | exact Qj | refine Qk ?_ ?_ | refine Qi ?_)) <;> simp [-zg,-zd,↓Qb,↓Qa,go_sem]);rintro r ⟨f1,f0,f2,f3,f4,f5,f6,f7⟩)
 | (refine ⟨(r.1 ++ [t],r.2.1 - 1,p2,H3),⟨by dsimp only;omega,by dsimp only;omega,by simp;omega,by dsimp only;omega,by dsimp only;omega,u1,u2,u3⟩,by first | omega | (simp;done) | (simp;omega),?_⟩;((repeat' (first | exact Qh (by assumption) | exact Qj | refine Qk ?_ ?_ | refine Qi ?_)) <;> simp [-zg,-zd,↓Qb,↓Qa,go_sem,]))
 | (refine Qg ?_)
 | (refine Qs ?_;simp [-zg,-zd,↓Qb,↓Qa,go_sem])
 | (refine Qr ?_;simp [-zg,-zd,↓Qb,↓Qa,go_sem])
 | (refine Qq ?_;try simp [-zg,-zd,↓Qb,↓Qa,go_sem,Tryz.results42])
 | (intro hx;refine zA ?_)
 | (intro hx;change retR _ _ _ _ _)
 | (refine ⟨?_,?_⟩ <;> refine zA ?_)
 | (intro hx;constructor <;> intro hs)
 | (constructor <;> intro hs)
 | (refine ⟨?_,fun hs=>?_⟩;refine zA ?_)
 | (refine ⟨fun hs=>?_,?_⟩;rotate_left;refine zA ?_;rotate_left)
 | ((fail_if_success change retR _ _ _ _ _);(exfalso;omega))))
  all_goals (first
 | (refine l2System_ret _ _ _ (([x1,x2,0],q.1)) (q.2.2.1) ?_ ?_ ?_ ?_;(first | exact Or.inl rfl | exact Or.inr rfl);(focus (simp [-zg,-zd,↓Qb,↓Qa,go_sem,Tryz.results42,li,dat,Xh,hbs,g5,Xg,cI,Xl];done));(focus ((trivial);done));(focus (refine ⟨?_,?_⟩ <;> omega)))
 | skip)
@[go_sem] def l2SystemC:Con:=.rel fun args H=>match args with
  | [.ptr b 0]=>match H b with
    | some [.list m cs,.int .i64 p]=>((Is cY m cs) ∧ (m ≤ 2000) ∧ (0 ≤ p) ∧ (p + 2000 ≤ 1000000),fun c=>(Ue (Vh p c).1,upd H b (some [.list m cs,.int .i64 (Vh p c).2])))
    | _=>(False,fun _=>(.any,H))
  | _=>(False,fun _=>(.any,H))
theorem l2SystemC_ok:ConOk Tryz.prog 42 l2SystemC:=by
  refine ⟨Qo Tryz.func42 (by decide) rfl,fun args H h=>?_⟩
  revert h
  dsimp only
  split
  · split
    · rename_i hH
      intro h
      obtain ⟨⟨ys,rfl,rfl⟩,hl,h0_,hp_⟩:=h
      try simp only [Qm] at *
      exact SpecR.enc ((l2System_spec ys _ _ hl h0_ hp_ ).frame hH).shut fun c=>Prod.ext (zalm  _ _).2.symm rfl
    · intro h;exact h.elim
  · intro h
    exact h.elim
@[go_sem] def Γe25:FuncId → Con:=ext Γe24 42 l2SystemC
theorem Γe25_ok:∀ g,ConOk Tryz.prog g (Γe25 g):=Qn Zz l2SystemC_ok

end
end Go.Proofs.YtmiimodggpjkmaaGreat.Vm

