import Derived.Test.YtiilmjojffjhlaaGreatDoorE8
/-
  Draws: guards, expressions. No conditions.
-/
namespace Go.Proofs.YtiilmjojffjhlaaGreatDoor.Vm
open Go
open List renaming getD_eq_getElem?_getD → zg,drop_one → zd
open Ne renaming symm → zS
noncomputable section
set_option linter.unusedVariables false
set_option linter.unusedSimpArgs false
set_option maxRecDepth 200000

theorem SpecR.enc {P:Program} {f:FuncId} {args:List D} {H:Hp} {G G':Any → D × Hp} (h:SpecR P f args H G) (e:∀ c,G' c = G c):SpecR P f args H G':=by
  have:G' = G:=funext e
  rw [this];exact h
@[go_sem] def sX (t:Tree):D:=.st [.int .i64 t.k,.int .i64 t.v,li cX t.ks]
theorem Jw {μ:Nat → Nat} {I:Nat → Prop} {w:World} {v:Value} {f:List Nat} {sz:Nat} (h:Rep μ I w .nil v f):Rep μ I w (.fr sz 0 []) v f:=by
  simp only [Rep] at h ⊢
  exact ⟨Nat.zero_le _,by simp,.inl ⟨trivial,h.1,h.2⟩⟩
theorem zaiw {P:Program} {B:Base} {n:Nat} {S:St} {c:Code} {Q:Exit → St → Prop} (t sz:Nat) {d e:D} (hT:S.T t = .box [d,e,.nil]) (h:AW P B n c Q ⟨upd S.T t (.box [d,e,.fr sz 0 []]),S.H⟩):AW P B n c Q S :=
  Yn t hT (fun μ I w vs f hr=>by
    simp only [RepL] at hr ⊢
    obtain ⟨v,vs',f1,f2,e1,e2,r1,v2,vs2,g1,g2,e3,e4,r2,v3,vs3,g3,g4,e5,e6,r3,r4⟩:=hr
    exact ⟨v,vs',f1,f2,e1,e2,r1,v2,vs2,g1,g2,e3,e4,r2,v3,vs3,g3,g4,e5,e6,Jw r3,r4⟩) (fun N hb=>by simp only [bndL,bnd] at hb ⊢;exact ⟨hb.1,hb.2.1,trivial,trivial⟩) h
@[go_sem] theorem is_lit1 (x0:Int):Is cI 1 [D.int .i64 x0] = True:=eq_true ⟨[x0],rfl,rfl⟩
@[go_sem] theorem de_lit1 (x0:Int):de cI [D.int .i64 x0] = [x0]:=Qm (f:=cI) [x0]
@[go_sem] theorem is_lit3 (x0 x1 x2:Int):Is cI 3 [D.int .i64 x0,D.int .i64 x1,D.int .i64 x2] = True:=eq_true ⟨[x0,x1,x2],rfl,rfl⟩
@[go_sem] theorem de_lit3 (x0 x1 x2:Int):de cI [D.int .i64 x0,D.int .i64 x1,D.int .i64 x2] = [x0,x1,x2]:=Qm (f:=cI) [x0,x1,x2]
@[go_sem] theorem is_lit4 (x0 x1 x2 x3:Int):Is cI 4 [D.int .i64 x0,D.int .i64 x1,D.int .i64 x2,D.int .i64 x3] = True:=eq_true ⟨[x0,x1,x2,x3],rfl,rfl⟩
@[go_sem] theorem de_lit4 (x0 x1 x2 x3:Int):de cI [D.int .i64 x0,D.int .i64 x1,D.int .i64 x2,D.int .i64 x3] = [x0,x1,x2,x3]:=Qm (f:=cI) [x0,x1,x2,x3]
@[go_sem] theorem is_lit5 (x0 x1 x2 x3 x4:Int):Is cI 5 [D.int .i64 x0,D.int .i64 x1,D.int .i64 x2,D.int .i64 x3,D.int .i64 x4] = True:=eq_true ⟨[x0,x1,x2,x3,x4],rfl,rfl⟩
@[go_sem] theorem de_lit5 (x0 x1 x2 x3 x4:Int):de cI [D.int .i64 x0,D.int .i64 x1,D.int .i64 x2,D.int .i64 x3,D.int .i64 x4] = [x0,x1,x2,x3,x4]:=Qm (f:=cI) [x0,x1,x2,x3,x4]
@[go_sem] theorem is_lit6 (x0 x1 x2 x3 x4 x5:Int):Is cI 6 [D.int .i64 x0,D.int .i64 x1,D.int .i64 x2,D.int .i64 x3,D.int .i64 x4,D.int .i64 x5] = True:=eq_true ⟨[x0,x1,x2,x3,x4,x5],rfl,rfl⟩
@[go_sem] theorem de_lit6 (x0 x1 x2 x3 x4 x5:Int):de cI [D.int .i64 x0,D.int .i64 x1,D.int .i64 x2,D.int .i64 x3,D.int .i64 x4,D.int .i64 x5] = [x0,x1,x2,x3,x4,x5]:=Qm (f:=cI) [x0,x1,x2,x3,x4,x5]
@[go_sem] theorem is_lit7 (x0 x1 x2 x3 x4 x5 x6:Int):Is cI 7 [D.int .i64 x0,D.int .i64 x1,D.int .i64 x2,D.int .i64 x3,D.int .i64 x4,D.int .i64 x5,D.int .i64 x6] = True:=eq_true ⟨[x0,x1,x2,x3,x4,x5,x6],rfl,rfl⟩
@[go_sem] theorem de_lit7 (x0 x1 x2 x3 x4 x5 x6:Int):de cI [D.int .i64 x0,D.int .i64 x1,D.int .i64 x2,D.int .i64 x3,D.int .i64 x4,D.int .i64 x5,D.int .i64 x6] = [x0,x1,x2,x3,x4,x5,x6]:=Qm (f:=cI) [x0,x1,x2,x3,x4,x5,x6]

mutual
def tm:Tree → Nat
  | .mk _ _ ks=>tms ks
def tms:List Tree → Nat
  | []=>0
  | t :: ts=>1 + tm t + tms ts
end
theorem tms_eq:∀ ts,tms ts = ts.length + msum tm ts ts.length
  | []=>by simp [tms,msum]
  | t :: ts=>by rw [tms,tms_eq ts];simp [msum];omega
theorem tm_eq (t:Tree):tm t = t.ks.length + msum tm t.ks t.ks.length:=by cases t;rw [tm,tms_eq];rfl

set_option maxHeartbeats 2000000 in

@[go_sem] def Ut:Tree → D:=sX
theorem l2Guard_flat (x:Tree):dat (Ut x) = Ut x:=by simp [go_sem]
def Um  : Tree → Prop:=fun x=>tm x ≤ 4
def zark  (x:(Tree) × D):Prop:=Um x.1 ∧ dat x.2 = Ut x.1
def zaci  (p:Int) (c:Any):((Tree) × D) × Int:=dsel (zark) ((.mk 1 1 []:Tree),Ut (.mk 1 1 [])) 5 p c
def Jv  (p:Int) (c:Any):(Tree) × Int:=((zaci p c).1.1,(zaci p c).2)
theorem zaul   (p:Int) (c:Any):(Um (Jv p c).1 ∧ p ≤ (Jv p c).2 ∧ (Jv p c).2 ≤ p + 5) ∧ dat (zaci p c).1.2 = Ut (Jv p c).1:=by
  have hx:Um (.mk 1 1 []):=by simp [Um,tm,tms]
  have h:=Zy (good:=zark) (x0:=((.mk 1 1 []:Tree),Ut (.mk 1 1 []))) ⟨hx,l2Guard_flat _⟩ (K:=5) (by omega) (p:=p) c
  exact ⟨⟨h.1.1,h.2.1,h.2.2⟩,h.1.2⟩
theorem l2Guard_ok   (p:Int) (c:Any):Um (Jv p c).1 ∧ p ≤ (Jv p c).2 ∧ (Jv p c).2 ≤ p + 5:=(zaul  p c).1
theorem zamz  (ys:List UInt8) (p:Int) (b:Nat) {e_:Exit} {S_:St} (x:Tree) (p':Int) (he_:e_ = .ret ∨ e_ = .normal)
    (h1:(Qd Tryz.prog S_ Tryz.f126.results.toList).1 ∧ dat (resD (Qd Tryz.prog S_ Tryz.f126.results.toList).2.1) = Ut x ∧ (Qd Tryz.prog S_ Tryz.f126.results.toList).2.2.H b = some [li cY ys,.int .i64 p']) (hg:Um x) (h2:p ≤ p' ∧ p' ≤ p + 5) :
    retR Tryz.prog Tryz.f126 (fun c=>((zaci p c).1.2,one b [li cY ys,.int .i64 (zaci p c).2])) e_ S_ :=
  Zw (good:=zark) (enc:=fun x:(Tree) × D=>x.2) (cells:=fun q=>[li cY ys,.int .i64 q]) (x,resD (Qd Tryz.prog S_ Tryz.f126.results.toList).2.1) p' he_ ⟨h1.1,rfl,h1.2.2⟩ ⟨hg,h1.2.1⟩ h2
theorem l2Guard_spec (ys:List UInt8) (p:Int) (b:Nat)  (hl:ys.length ≤ 2000) (h0_:0 ≤ p) (hp_:p + 5 ≤ 1000000)  : SpecR Tryz.prog 126 [.ptr b 0] (one b [li cY ys,.int .i64 p]) (fun c=>((zaci p c).1.2,one b [li cY ys,.int .i64 (zaci p c).2])):=by
  refine SpecR.of_walk Tryz.func126 rfl (by simp [Tryz.f126]) fun B=>?_
  (repeat' (first
 | refine Qt ?_
 | refine Qc (id:=1) Yk [] (by kernel_rfl) ?_;simp [-zg,-zd,↓Qb,↓Qa,go_sem,hl,(show 0 ≤ p by omega),(show p ≤ 1000000 by omega),(show 0 ≤ p + 1 by omega),(show p + 1 ≤ 1000000 by omega)]
 | refine Qc (id:=2) Yk [] (by kernel_rfl) ?_;simp [-zg,-zd,↓Qb,↓Qa,go_sem,hl]
 | refine Qc (id:=3) Yk [] (by kernel_rfl) ?_;simp [-zg,-zd,↓Qb,↓Qa,go_sem,hl,(show 0 ≤ p by omega),(show p ≤ 1000000 by omega),(show 0 ≤ p + 1 by omega),(show p + 1 ≤ 1000000 by omega),(show 0 ≤ p + 1 + 1 by omega),(show p + 1 + 1 ≤ 1000000 by omega)];try (refine Qy 3 ?_;simp [go_sem])
 | refine Qc (id:=4) Yk [] (by kernel_rfl) ?_;simp [-zg,-zd,↓Qb,↓Qa,go_sem,hl,(show 0 ≤ p by omega),(show p ≤ 1000000 by omega),(show 0 ≤ p + 1 by omega),(show p + 1 ≤ 1000000 by omega),(show 0 ≤ p + 1 + 1 by omega),(show p + 1 + 1 ≤ 1000000 by omega),(show 0 ≤ p + 1 + 1 + 1 by omega),(show p + 1 + 1 + 1 ≤ 1000000 by omega)];try (refine Qy 4 ?_;simp [go_sem])
 | refine Xr (id:=5) Yk mixed [] [] [] (by kernel_rfl) (by kernel_rfl) ?_ ?_ ?_ <;> simp [-zg,-zd,↓Qb,↓Qa,go_sem,hl,(show 0 ≤ p by omega),(show p ≤ 1000000 by omega),(show 0 ≤ p + 1 by omega),(show p + 1 ≤ 1000000 by omega),(show 0 ≤ p + 1 + 1 by omega),(show p + 1 + 1 ≤ 1000000 by omega),(show 0 ≤ p + 1 + 1 + 1 by omega),(show p + 1 + 1 + 1 ≤ 1000000 by omega),(show 0 ≤ p + 1 + 1 + 1 + 1 by omega),(show p + 1 + 1 + 1 + 1 ≤ 1000000 by omega)];try (refine Qy 5 ?_;simp [go_sem])
 | refine Qc (id:=6) Yk [] (by kernel_rfl) ?_;simp [-zg,-zd,↓Qb,↓Qa,go_sem,hl,(show 0 ≤ p by omega),(show p ≤ 1000000 by omega),(show 0 ≤ p + 1 by omega),(show p + 1 ≤ 1000000 by omega),(show 0 ≤ p + 1 + 1 by omega),(show p + 1 + 1 ≤ 1000000 by omega),(show 0 ≤ p + 1 + 1 + 1 by omega),(show p + 1 + 1 + 1 ≤ 1000000 by omega),(show 0 ≤ p + 1 + 1 + 1 + 1 by omega),(show p + 1 + 1 + 1 + 1 ≤ 1000000 by omega),(show 0 ≤ p + 1 + 1 + 1 + 1 + 1 by omega),(show p + 1 + 1 + 1 + 1 + 1 ≤ 1000000 by omega)]
 | (refine Qe ?_)
 | (refine Qs ?_;simp [-zg,-zd,↓Qb,↓Qa,go_sem])
 | (refine Qr ?_;simp [-zg,-zd,↓Qb,↓Qa,go_sem])
 | (refine Qq ?_;try simp [-zg,-zd,↓Qb,↓Qa,go_sem,Tryz.results126])
 | (intro hx;refine zA ?_)
 | (intro hx;change retR _ _ _ _ _)
 | (refine ⟨?_,?_⟩ <;> refine zA ?_)
 | (intro hx;constructor <;> intro hs)
 | (constructor <;> intro hs)
 | (refine ⟨?_,fun hs=>?_⟩;refine zA ?_)
 | (refine ⟨fun hs=>?_,?_⟩;rotate_left;refine zA ?_;rotate_left)
 | (refine Qj ?_;simp [-zg,-zd,↓Qb,↓Qa,go_sem];try first | (refine ⟨?_,?_⟩ <;> refine zA ?_) | (refine ⟨fun cz=>?_,fun cz=>?_⟩ <;> (try simp [B_iff,B_not] at cz)))
 | (refine Qc Yk [] (by kernel_rfl) ?_;simp [-zg,-zd,↓Qb,↓Qa,go_sem])
 | fail))
  all_goals (first
 | (refine zamz _ _ _ (.mk 1 1 []) (p + 1) ?_ ?_ ?_ ?_;(first | exact Or.inl rfl | exact Or.inr rfl);(focus (simp [-zg,-zd,↓Qb,↓Qa,go_sem,Tryz.results126];done));(focus ((simp [Um,tm,tms]);done));(focus (refine ⟨?_,?_⟩ <;> omega)))
 | (refine zamz _ _ _ (.mk 3 0 [.mk (numI ys (p + 1 + 1 + 1) [6,7,6]) 0 [.mk 2 (numI ys (p + 1) [0,1,0,2]) [],.mk 1 (pkI ys (p + 1 + 1) 3) []]]) (p + 1 + 1 + 1 + 1 + 1) ?_ ?_ ?_ ?_;(first | exact Or.inl rfl | exact Or.inr rfl);(focus (simp [-zg,-zd,↓Qb,↓Qa,go_sem,Tryz.results126,li,Xe,cX_mk,dat,datL];done));(focus ((simp [Um,tm,tms]);done));(focus (refine ⟨?_,?_⟩ <;> omega)))
 | (refine zamz _ _ _ (.mk (numI ys (p + 1 + 1 + 1) [6,7,6]) 0 [.mk 2 (numI ys (p + 1) [0,1,0,2]) [],.mk 1 (pkI ys (p + 1 + 1) 3) []]) (p + 1 + 1 + 1 + 1 + 1) ?_ ?_ ?_ ?_;(first | exact Or.inl rfl | exact Or.inr rfl);(focus (simp [-zg,-zd,↓Qb,↓Qa,go_sem,Tryz.results126,li,Xe,cX_mk,dat,datL];done));(focus ((simp [Um,tm,tms]);done));(focus (refine ⟨?_,?_⟩ <;> omega)))
 | skip)
@[go_sem] def l2GuardC:Con:=.rel fun args H=>match args with
  | [.ptr b 0]=>match H b with
    | some [.list m cs,.int .i64 p]=>((Is cY m cs) ∧ (m ≤ 2000) ∧ (0 ≤ p) ∧ (p + 5 ≤ 1000000),fun c=>(Ut (Jv p c).1,upd H b (some [.list m cs,.int .i64 (Jv p c).2])))
    | _=>(False,fun _=>(.any,H))
  | _=>(False,fun _=>(.any,H))
theorem l2GuardC_ok:ConOk Tryz.prog 126 l2GuardC:=by
  refine ⟨Qo Tryz.func126 (by decide) rfl,fun args H h=>?_⟩
  revert h
  dsimp only
  split
  · split
    · rename_i hH
      intro h
      obtain ⟨⟨ys,rfl,rfl⟩,hl,h0_,hp_⟩:=h
      try simp only [Qm] at *
      exact SpecR.enc ((l2Guard_spec ys _ _ hl h0_ hp_ ).frame hH).shut fun c=>Prod.ext (zaul  _ _).2.symm rfl
    · intro h;exact h.elim
  · intro h
    exact h.elim
@[go_sem] def Γe21:FuncId → Con:=ext Γe20 126 l2GuardC
theorem Γe21_ok:∀ g,ConOk Tryz.prog g (Γe21 g):=Qn Yk l2GuardC_ok

def kR:Nat → Int
  | 0=>3
  | n + 1=>3 + 2 * kR n
theorem kR_ge:∀ n,3 ≤ kR n
  | 0=>by simp [kR]
  | n + 1=>by have:=kR_ge n;simp only [kR];omega
theorem kR_nn (n:Nat):0 ≤ kR n:=by have:=kR_ge n;omega
theorem kR_step {d:Int} (h:2 ≤ d):kR d.toNat = 3 + 2 * kR (d - 1).toNat:=by
  obtain ⟨m,hm⟩:∃ m:Nat,d.toNat = m + 1:=⟨d.toNat - 1,by omega⟩
  rw [hm,show (d - 1).toNat = m by omega];rfl
@[go_sem] theorem makeD_6 (x:D):makeD [x] 6 = [x,x,x,x,x,x]:=by rw [Zs];rfl
@[go_sem] theorem makeD_7 (x:D):makeD [x] 7 = [x,x,x,x,x,x,x]:=by rw [Zs];rfl

set_option maxHeartbeats 4000000 in

@[go_sem] def Vn:Tree → D:=sX
theorem l1Random_flat (x:Tree):dat (Vn x) = Vn x:=by simp [go_sem]
def zaeg (d:Int):Tree → Prop:=fun _=>True
def zanb (d:Int) (x:(Tree) × D):Prop:=zaeg d x.1 ∧ dat x.2 = Vn x.1
def Jt (d:Int) (p:Int) (c:Any):((Tree) × D) × Int:=dsel (zanb d) ((.mk 1 1 []:Tree),Vn (.mk 1 1 [])) (kR d.toNat) p c
def Je (d:Int) (p:Int) (c:Any):(Tree) × Int:=((Jt d p c).1.1,(Jt d p c).2)
theorem zakl (d:Int) (hd:d ≤ 4) (p:Int) (c:Any):(zaeg d (Je d p c).1 ∧ p ≤ (Je d p c).2 ∧ (Je d p c).2 ≤ p + (kR d.toNat)) ∧ dat (Jt d p c).1.2 = Vn (Je d p c).1:=by
  have hx:zaeg d (.mk 1 1 []):=trivial
  have h:=Zy (good:=zanb d) (x0:=((.mk 1 1 []:Tree),Vn (.mk 1 1 []))) ⟨hx,l1Random_flat _⟩ (K:=(kR d.toNat)) (kR_nn _) (p:=p) c
  exact ⟨⟨h.1.1,h.2.1,h.2.2⟩,h.1.2⟩
theorem zaum (d:Int) (hd:d ≤ 4) (p:Int) (c:Any):zaeg d (Je d p c).1 ∧ p ≤ (Je d p c).2 ∧ (Je d p c).2 ≤ p + (kR d.toNat):=(zakl d hd p c).1
theorem zafg (d:Int) (ys:List UInt8) (p:Int) (b:Nat) {e_:Exit} {S_:St} (x:Tree) (p':Int) (he_:e_ = .ret ∨ e_ = .normal)
    (h1:(Qd Tryz.prog S_ Tryz.f200.results.toList).1 ∧ dat (resD (Qd Tryz.prog S_ Tryz.f200.results.toList).2.1) = Vn x ∧ (Qd Tryz.prog S_ Tryz.f200.results.toList).2.2.H b = some [li cY ys,.int .i64 p']) (hg:zaeg d x) (h2:p ≤ p' ∧ p' ≤ p + (kR d.toNat)) :
    retR Tryz.prog Tryz.f200 (fun c=>((Jt d p c).1.2,one b [li cY ys,.int .i64 (Jt d p c).2])) e_ S_ :=
  Zw (good:=zanb d) (enc:=fun x:(Tree) × D=>x.2) (cells:=fun q=>[li cY ys,.int .i64 q]) (x,resD (Qd Tryz.prog S_ Tryz.f200.results.toList).2.1) p' he_ ⟨h1.1,rfl,h1.2.2⟩ ⟨hg,h1.2.1⟩ h2
@[go_sem] def l1RandomCn (n_:Nat):Con:=.rel fun args H=>match args with
  | [.ptr b 0,.int .i64 d]=>match H b with
    | some [.list m cs,.int .i64 p]=>((Is cY m cs) ∧ (m ≤ 2000) ∧ (0 ≤ p) ∧ (p + (kR d.toNat) ≤ 1000000) ∧ (d ≤ 4) ∧ (d.toNat < n_),fun c=>(Vn (Je d p c).1,upd H b (some [.list m cs,.int .i64 (Je d p c).2])))
    | _=>(False,fun _=>(.any,H))
  | _=>(False,fun _=>(.any,H))
theorem l1RandomCn_ok {n_:Nat} (ih:∀ (ys:List UInt8) (p:Int) (b:Nat) (d:Int) (hl:ys.length ≤ 2000) (h0_:0 ≤ p) (hp_:p + (kR d.toNat) ≤ 1000000) (hd:d ≤ 4) (hm_:d.toNat < n_),SpecR Tryz.prog 200 [.ptr b 0,.int .i64 d] (one b [li cY ys,.int .i64 p]) (fun c=>((Jt d p c).1.2,one b [li cY ys,.int .i64 (Jt d p c).2]))):ConOk Tryz.prog 200 (l1RandomCn n_):=by
  refine ⟨Qo Tryz.func200 (by decide) rfl,fun args H h=>?_⟩
  revert h
  dsimp only
  split
  · split
    · rename_i hH
      intro h
      obtain ⟨⟨ys,rfl,rfl⟩,hl,h0_,hp_,hd,hm_⟩:=h
      try simp only [Qm] at *
      exact SpecR.enc ((ih ys _ _ _ hl h0_ hp_ hd hm_).frame hH).shut fun c=>Prod.ext (zakl _ hd _ _).2.symm rfl
    · intro h;exact h.elim
  · intro h
    exact h.elim
theorem l1Random_rec:∀ (n_:Nat),∀ (ys:List UInt8) (p:Int) (b:Nat) (d:Int) (hl:ys.length ≤ 2000) (h0_:0 ≤ p) (hp_:p + (kR d.toNat) ≤ 1000000) (hd:d ≤ 4) (hm_:d.toNat < n_),SpecR Tryz.prog 200 [.ptr b 0,.int .i64 d] (one b [li cY ys,.int .i64 p]) (fun c=>((Jt d p c).1.2,one b [li cY ys,.int .i64 (Jt d p c).2])):=by
  intro n_
  induction n_ with
  | zero=>intros;omega
  | succ n_ ih =>
  intro ys p b d hl h0_ hp_ hd hm_
  have Γr_ok:=Qn Γe21_ok (l1RandomCn_ok ih)
  refine SpecR.of_walk Tryz.func200 rfl (by simp [Tryz.f200]) fun B=>?_
  have hk3:=kR_ge d.toNat;by_cases hd2:d < 2
  all_goals (repeat' (first
 | refine Qt ?_
 | refine Qc (id:=1) Γr_ok [10] (by kernel_rfl) ?_;simp [-zg,-zd,↓Qb,↓Qa,go_sem,hd2,hl,(show 0 ≤ p by omega),(show p ≤ 1000000 by omega),(show 0 ≤ p + 1 by omega),(show p + 1 ≤ 1000000 by omega)];try (refine ⟨fun s1a=>?_,fun s1a=>?_⟩ <;> (try simp [B_iff,B_not] at s1a) <;> try (refine ⟨fun s1b=>?_,fun s1b=>?_⟩ <;> (try simp [B_iff,B_not] at s1b)))
 | refine Qc (id:=2) Γr_ok [] (by kernel_rfl) ?_;simp [-zg,-zd,↓Qb,↓Qa,go_sem,hl,(show 0 ≤ p by omega),(show p ≤ 1000000 by omega),(show 0 ≤ p + 1 by omega),(show p + 1 ≤ 1000000 by omega),(show 0 ≤ p + 1 + 1 by omega),(show p + 1 + 1 ≤ 1000000 by omega)]
 | refine Qc (id:=3) Γr_ok [] (by kernel_rfl) ?_;simp [-zg,-zd,↓Qb,↓Qa,go_sem,hl,(show 0 ≤ p by omega),(show p ≤ 1000000 by omega),(show 0 ≤ p + 1 by omega),(show p + 1 ≤ 1000000 by omega),(show 0 ≤ p + 1 + 1 by omega),(show p + 1 + 1 ≤ 1000000 by omega),(show 0 ≤ p + 1 + 1 + 1 by omega),(show p + 1 + 1 + 1 ≤ 1000000 by omega)]
 | refine Qc (id:=4) Γr_ok [] (by kernel_rfl) ?_;simp [-zg,-zd,↓Qb,↓Qa,go_sem,hl,(show 0 ≤ p by omega),(show p ≤ 1000000 by omega),(show 0 ≤ p + 1 by omega),(show p + 1 ≤ 1000000 by omega),(show 0 ≤ p + 1 + 1 by omega),(show p + 1 + 1 ≤ 1000000 by omega),(show 0 ≤ p + 1 + 1 + 1 by omega),(show p + 1 + 1 + 1 ≤ 1000000 by omega)]
 | refine Qc (id:=5) Γr_ok [] (by kernel_rfl) ?_;simp [-zg,-zd,↓Qb,↓Qa,go_sem,hl,(show 0 ≤ p by omega),(show p ≤ 1000000 by omega),(show 0 ≤ p + 1 by omega),(show p + 1 ≤ 1000000 by omega),(show 0 ≤ p + 1 + 1 by omega),(show p + 1 + 1 ≤ 1000000 by omega),(show 0 ≤ p + 1 + 1 + 1 by omega),(show p + 1 + 1 + 1 ≤ 1000000 by omega)];try (generalize numI ys (p + 1) [6,8,7,4,3,5,9] = kk at *)
 | refine Qc (id:=6) Γr_ok [] (by kernel_rfl) ?_;simp [-zg,-zd,↓Qb,↓Qa,go_sem];try ((have hks:=kR_step (d:=d) (by omega));(have hM:=kR_ge (d - 1).toNat);(have hd1:(d - 1).toNat = d.toNat - 1:=(by omega));(rw [hd1] at hks hM);(refine zaiw 6 3 rfl ?_);(refine Xs 6 rfl fun qb hqb=>?_);(have hbq:¬ b = qb:=(by rintro rfl;simp [go_sem] at hqb));(clear hqb);(refine Qp (fun H1=>H1 b = some [.list ys.length (cat cY ys),.int .i64 (p + 1 + 1)] ∧ H1 qb = some [.int .i64 kk,.int .i64 0,.fr 3 0 []]) ⟨by simp [go_sem,hbq],by simp [go_sem,hbq]⟩ fun H1 ⟨w1,w2⟩=>?_))
 | refine Qc (id:=7) Γr_ok [] (by kernel_rfl) ?_;simp [-zg,-zd,↓Qb,↓Qa,go_sem];try (have hal:=ar_le kk;generalize ar kk = aa at *)
 | ((refine Xw qb 2 (all:=[.int .i64 kk,.int .i64 0,.fr 3 q.1.length (cat cX q.1)]) g6 rfl fun u cu ju hu hcu hdu=>?_);(have ub:¬ u = b:=(by intro e;rw [e] at hu;dsimp only at hu;rw [g5] at hu;cases hu));(have uq:¬ u = qb:=(by intro e;rw [e] at hu;dsimp only at hu;rw [g6] at hu;cases hu));(clear hu));refine Xr (id:=10) Γr_ok mixed [(qb,[.int .i64 kk,.int .i64 0,.sl u 3 0 q.1.length cu])] [] [] (by kernel_rfl) (by kernel_rfl) ?_ ?_ ?_ <;> simp [-zg,-zd,↓Qb,↓Qa,go_sem,g5,hl,Xa (x:=d - 1) (by omega) (by omega),hbq,zS hbq,ub,uq,zS ub,zS uq,(show 0 ≤ q.2.2.1 by omega),(show d - 1 ≤ 4 by omega),(show d.toNat - 1 < n_ by omega),(show q.1.length ≤ 9223372036854775806 by omega),(show 2 * (q.1.length + 1) * 40 ≤ 281474976710656 by omega),(show q.2.2.1 + kR (d.toNat - 1) ≤ 1000000 by omega),hdu];try (intro c10;have z0:=zaum (d - 1) (by omega) q.2.2.1 c10;generalize Je (d - 1) q.2.2.1 c10 = z at *;obtain ⟨-,z1,z2⟩:=z0;rw [hd1] at z2;obtain ⟨t,p2⟩:=z;dsimp only at z1 z2;refine Qp (fun H2=>H2 b = some [.list ys.length (cat cY ys),.int .i64 p2] ∧ H2 qb = some [.int .i64 kk,.int .i64 0,.fr 3 (q.1 ++ [t]).length (cat cX (q.1 ++ [t]))]) ⟨by simp [upd,hbq,zS hbq,ub,uq,zS ub,zS uq],by simp [upd,hbq,zS hbq,ub,uq,zS ub,zS uq,Xk,Xg,cX_eq,li]⟩ fun H2 ⟨y1,y2⟩=>?_)
 | refine Qc (id:=9) Γr_ok [] (by kernel_rfl) ?_;simp [-zg,-zd,↓Qb,↓Qa,go_sem,Xa (x:=q.2.1 - 1) (by omega) (by omega)]
 | refine Qc (id:=11) Γr_ok [] (by kernel_rfl) ?_;simp [-zg,-zd,↓Qb,↓Qa,go_sem,g6]
 | (refine Qe (id:=0) (Qw (ι:=List Tree × Int × Int × Hp) (fun q:List Tree × Int × Int × Hp=>⟨(upd (upd (upd (upd (upd (fun _=>.any) 0 (.ptr b 0)) 1 (.int .i64 d)) 4 (.box [.int .i64 0,.int .i64 0,.nil])) 6 (.ptr qb 0)) 7 (.int .i64 q.2.1)),q.2.2.2⟩) (fun q=>q.2.1 ≤ 2 ∧ (q.1.length:Int) + q.2.1 ≤ 2 ∧ p ≤ q.2.2.1 ∧ (q.2.1 ≤ 2 ∧ q.2.2.1 ≤ p + 3 ∨ q.2.1 ≤ 1 ∧ q.2.2.1 ≤ p + 3 + kR (d.toNat - 1) ∨ q.2.1 ≤ 0 ∧ q.2.2.1 ≤ p + 3 + 2 * kR (d.toNat - 1)) ∧ q.2.2.2 b = some [.list ys.length (cat cY ys),.int .i64 q.2.2.1] ∧ q.2.2.2 qb = some [.int .i64 kk,.int .i64 0,.fr 3 q.1.length (cat cX q.1)]) (fun q=>q.2.1.toNat) (([],aa,p + 1 + 1,H1)) ?_ ?_ ?_);exact ⟨by dsimp only;omega,by simpa using hal,by dsimp only;omega,by dsimp only;omega,by dsimp only;exact w1,by dsimp only;exact w2⟩;((repeat' (first | exact Qg (by assumption) | exact Qi | refine Qf ?_ ?_ | refine Qh ?_)) <;> simp [-zg,-zd,↓Qb,↓Qa,go_sem]);rintro q ⟨g1,g2,g3,g4,g5,g6⟩)
 | (refine ⟨(q.1 ++ [t],q.2.1 - 1,p2,H2),⟨by dsimp only;omega,by simp;omega,by dsimp only;omega,by dsimp only;omega,y1,y2⟩,by first | omega | (simp;done) | (simp;omega),?_⟩;((repeat' (first | exact Qg (by assumption) | exact Qi | refine Qf ?_ ?_ | refine Qh ?_)) <;> simp [-zg,-zd,↓Qb,↓Qa,go_sem,]))
 | (refine Qe ?_)
 | (refine Qs ?_;simp [-zg,-zd,↓Qb,↓Qa,go_sem])
 | (refine Qr ?_;simp [-zg,-zd,↓Qb,↓Qa,go_sem])
 | (refine Qq ?_;try simp [-zg,-zd,↓Qb,↓Qa,go_sem,Tryz.results200])
 | (intro hx;refine zA ?_)
 | (intro hx;change retR _ _ _ _ _)
 | (refine ⟨?_,?_⟩ <;> refine zA ?_)
 | (intro hx;constructor <;> intro hs)
 | (constructor <;> intro hs)
 | (refine ⟨?_,fun hs=>?_⟩;refine zA ?_)
 | (refine ⟨fun hs=>?_,?_⟩;rotate_left;refine zA ?_;rotate_left)
 | ((fail_if_success change retR _ _ _ _ _);(exfalso;omega))
 | (refine Qj ?_;simp [-zg,-zd,↓Qb,↓Qa,go_sem];try first | (refine ⟨?_,?_⟩ <;> refine zA ?_) | (refine ⟨fun cz=>?_,fun cz=>?_⟩ <;> (try simp [B_iff,B_not] at cz)))
 | (refine Qc Γr_ok [] (by kernel_rfl) ?_;simp [-zg,-zd,↓Qb,↓Qa,go_sem])
 | fail))
  all_goals (first
 | (refine zafg _ _ _ _ (.mk 1 (pkI ys (p + 1) 4) []) (p + 1 + 1) ?_ ?_ ?_ ?_;(first | exact Or.inl rfl | exact Or.inr rfl);(focus (simp [-zg,-zd,↓Qb,↓Qa,go_sem,Tryz.results200];done));(focus ((trivial);done));(focus (refine ⟨?_,?_⟩ <;> omega)))
 | (refine zafg _ _ _ _ (.mk 1 (pkI ys (p + 1 + 1) 4) []) (p + 1 + 1 + 1) ?_ ?_ ?_ ?_;(first | exact Or.inl rfl | exact Or.inr rfl);(focus (simp [-zg,-zd,↓Qb,↓Qa,go_sem,Tryz.results200];done));(focus ((trivial);done));(focus (refine ⟨?_,?_⟩ <;> omega)))
 | (refine zafg _ _ _ _ (.mk 2 (numI ys (p + 1) [0,1,0,2]) []) (p + 1 + 1) ?_ ?_ ?_ ?_;(first | exact Or.inl rfl | exact Or.inr rfl);(focus (simp [-zg,-zd,↓Qb,↓Qa,go_sem,Tryz.results200];done));(focus ((trivial);done));(focus (refine ⟨?_,?_⟩ <;> omega)))
 | (refine zafg _ _ _ _ (.mk 2 (numI ys (p + 1 + 1) [0,1,0,2]) []) (p + 1 + 1 + 1) ?_ ?_ ?_ ?_;(first | exact Or.inl rfl | exact Or.inr rfl);(focus (simp [-zg,-zd,↓Qb,↓Qa,go_sem,Tryz.results200];done));(focus ((trivial);done));(focus (refine ⟨?_,?_⟩ <;> omega)))
 | (refine zafg _ _ _ _ (.mk kk 0 q.1) (q.2.2.1) ?_ ?_ ?_ ?_;(first | exact Or.inl rfl | exact Or.inr rfl);(focus (simp [-zg,-zd,↓Qb,↓Qa,go_sem,Tryz.results200,li,dat,Qz,hbq,g5];done));(focus ((trivial);done));(focus (refine ⟨?_,?_⟩ <;> omega)))
 | skip)
theorem l1Random_spec (ys:List UInt8) (p:Int) (b:Nat) (d:Int) (hl:ys.length ≤ 2000) (h0_:0 ≤ p) (hp_:p + (kR d.toNat) ≤ 1000000) (hd:d ≤ 4):SpecR Tryz.prog 200 [.ptr b 0,.int .i64 d] (one b [li cY ys,.int .i64 p]) (fun c=>((Jt d p c).1.2,one b [li cY ys,.int .i64 (Jt d p c).2])):=l1Random_rec (d.toNat + 1) ys p b d hl h0_ hp_ hd (by omega)
@[go_sem] def l1RandomC:Con:=.rel fun args H=>match args with
  | [.ptr b 0,.int .i64 d]=>match H b with
    | some [.list m cs,.int .i64 p]=>((Is cY m cs) ∧ (m ≤ 2000) ∧ (0 ≤ p) ∧ (p + (kR d.toNat) ≤ 1000000) ∧ (d ≤ 4),fun c=>(Vn (Je d p c).1,upd H b (some [.list m cs,.int .i64 (Je d p c).2])))
    | _=>(False,fun _=>(.any,H))
  | _=>(False,fun _=>(.any,H))
theorem l1RandomC_ok:ConOk Tryz.prog 200 l1RandomC:=by
  refine ⟨Qo Tryz.func200 (by decide) rfl,fun args H h=>?_⟩
  revert h
  dsimp only
  split
  · split
    · rename_i hH
      intro h
      obtain ⟨⟨ys,rfl,rfl⟩,hl,h0_,hp_,hd⟩:=h
      try simp only [Qm] at *
      exact SpecR.enc ((l1Random_spec ys _ _ _ hl h0_ hp_ hd).frame hH).shut fun c=>Prod.ext (zakl _ hd _ _).2.symm rfl
    · intro h;exact h.elim
  · intro h
    exact h.elim
@[go_sem] def Γe22:FuncId → Con:=ext Γe21 200 l1RandomC
theorem Γe22_ok:∀ g,ConOk Tryz.prog g (Γe22 g):=Qn Γe21_ok l1RandomC_ok

theorem kR_le {d:Int} (h:d ≤ 4):kR d.toNat ≤ 93:=by
  have:d.toNat = 0 ∨ d.toNat = 1 ∨ d.toNat = 2 ∨ d.toNat = 3 ∨ d.toNat = 4:=by omega
  rcases this with e | e | e | e | e <;> rw [e] <;> decide

@[go_sem] def Wa:Tree → D:=sX
theorem l1Expr_flat (x:Tree):dat (Wa x) = Wa x:=by simp [go_sem]
def zago  : Tree → Prop:=fun _=>True
def l1Expr_gd  (x:(Tree) × D):Prop:=zago x.1 ∧ dat x.2 = Wa x.1
def zadu  (p:Int) (c:Any):((Tree) × D) × Int:=dsel (l1Expr_gd) ((.mk 1 1 []:Tree),Wa (.mk 1 1 [])) 100 p c
def Vq  (p:Int) (c:Any):(Tree) × Int:=((zadu p c).1.1,(zadu p c).2)
theorem l1Expr_okD   (p:Int) (c:Any):(zago (Vq p c).1 ∧ p ≤ (Vq p c).2 ∧ (Vq p c).2 ≤ p + 100) ∧ dat (zadu p c).1.2 = Wa (Vq p c).1:=by
  have hx:zago (.mk 1 1 []):=trivial
  have h:=Zy (good:=l1Expr_gd) (x0:=((.mk 1 1 []:Tree),Wa (.mk 1 1 []))) ⟨hx,l1Expr_flat _⟩ (K:=100) (by omega) (p:=p) c
  exact ⟨⟨h.1.1,h.2.1,h.2.2⟩,h.1.2⟩
theorem l1Expr_ok   (p:Int) (c:Any):zago (Vq p c).1 ∧ p ≤ (Vq p c).2 ∧ (Vq p c).2 ≤ p + 100:=(l1Expr_okD  p c).1
theorem l1Expr_ret  (ys:List UInt8) (p:Int) (b:Nat) {e_:Exit} {S_:St} (x:Tree) (p':Int) (he_:e_ = .ret ∨ e_ = .normal)
    (h1:(Qd Tryz.prog S_ Tryz.f194.results.toList).1 ∧ dat (resD (Qd Tryz.prog S_ Tryz.f194.results.toList).2.1) = Wa x ∧ (Qd Tryz.prog S_ Tryz.f194.results.toList).2.2.H b = some [li cY ys,.int .i64 p']) (hg:zago x) (h2:p ≤ p' ∧ p' ≤ p + 100) :
    retR Tryz.prog Tryz.f194 (fun c=>((zadu p c).1.2,one b [li cY ys,.int .i64 (zadu p c).2])) e_ S_ :=
  Zw (good:=l1Expr_gd) (enc:=fun x:(Tree) × D=>x.2) (cells:=fun q=>[li cY ys,.int .i64 q]) (x,resD (Qd Tryz.prog S_ Tryz.f194.results.toList).2.1) p' he_ ⟨h1.1,rfl,h1.2.2⟩ ⟨hg,h1.2.1⟩ h2
theorem l1Expr_spec (ys:List UInt8) (p:Int) (b:Nat)  (hl:ys.length ≤ 2000) (h0_:0 ≤ p) (hp_:p + 100 ≤ 1000000)  : SpecR Tryz.prog 194 [.ptr b 0] (one b [li cY ys,.int .i64 p]) (fun c=>((zadu p c).1.2,one b [li cY ys,.int .i64 (zadu p c).2])):=by
  refine SpecR.of_walk Tryz.func194 rfl (by simp [Tryz.f194]) fun B=>?_
  have hr:=Jx ys (p:=p) (by omega) (xs:=[3,2,3,4]) (lo:=2) (hi:=4) (by simp) (by simp);have hk:=kR_le (d:=numI ys p [3,2,3,4]) (by omega);have hk0:=kR_nn (numI ys p [3,2,3,4]).toNat
  all_goals (repeat' (first
 | refine Qt ?_
 | refine Qc (id:=1) Γe22_ok [] (by kernel_rfl) ?_;simp [-zg,-zd,↓Qb,↓Qa,go_sem,hl,(show 0 ≤ p by omega),(show p ≤ 1000000 by omega),(show 0 ≤ p + 1 by omega),(show p + 1 ≤ 1000000 by omega),(show 0 ≤ p + 1 + 1 by omega),(show p + 1 + 1 ≤ 1000000 by omega),hr,(show p + 1 + kR (numI ys p [3,2,3,4]).toNat ≤ 1000000 by omega)];try (intro c1;have z0:=zaum (numI ys p [3,2,3,4]) (by omega) (p + 1) c1;generalize Je (numI ys p [3,2,3,4]) (p + 1) c1 = z at *;obtain ⟨-,z1,z2⟩:=z0;obtain ⟨⟨tk,tv,ts⟩,p2⟩:=z;dsimp only at z1 z2;refine Qy 3 ?_;simp [go_sem])
 | refine Qc (id:=4) Γe22_ok [] (by kernel_rfl) ?_;simp [-zg,-zd,↓Qb,↓Qa,go_sem,hl,(show 0 ≤ p2 by omega),(show p2 ≤ 1000000 by omega)]
 | (refine Qe ?_)
 | (refine Qs ?_;simp [-zg,-zd,↓Qb,↓Qa,go_sem])
 | (refine Qr ?_;simp [-zg,-zd,↓Qb,↓Qa,go_sem])
 | (refine Qq ?_;try simp [-zg,-zd,↓Qb,↓Qa,go_sem,Tryz.results194])
 | (intro hx;refine zA ?_)
 | (intro hx;change retR _ _ _ _ _)
 | (refine ⟨?_,?_⟩ <;> refine zA ?_)
 | (intro hx;constructor <;> intro hs)
 | (constructor <;> intro hs)
 | (refine ⟨?_,fun hs=>?_⟩;refine zA ?_)
 | (refine ⟨fun hs=>?_,?_⟩;rotate_left;refine zA ?_;rotate_left)
 | (refine Qj ?_;simp [-zg,-zd,↓Qb,↓Qa,go_sem];try first | (refine ⟨?_,?_⟩ <;> refine zA ?_) | (refine ⟨fun cz=>?_,fun cz=>?_⟩ <;> (try simp [B_iff,B_not] at cz)))
 | (refine Qc Γe22_ok [] (by kernel_rfl) ?_;simp [-zg,-zd,↓Qb,↓Qa,go_sem])
 | fail))
  all_goals (first
 | (refine l1Expr_ret _ _ _ (.mk tk tv ts) (p2) ?_ ?_ ?_ ?_;(first | exact Or.inl rfl | exact Or.inr rfl);(focus (simp [-zg,-zd,↓Qb,↓Qa,go_sem,Tryz.results194,li,dat,Qz];done));(focus ((trivial);done));(focus (refine ⟨?_,?_⟩ <;> omega)))
 | (refine l1Expr_ret _ _ _ (.mk 2 (pkI ys p2 3) []) (p2 + 1) ?_ ?_ ?_ ?_;(first | exact Or.inl rfl | exact Or.inr rfl);(focus (simp [-zg,-zd,↓Qb,↓Qa,go_sem,Tryz.results194];done));(focus ((trivial);done));(focus (refine ⟨?_,?_⟩ <;> omega)))
 | skip)
@[go_sem] def l1ExprC:Con:=.rel fun args H=>match args with
  | [.ptr b 0]=>match H b with
    | some [.list m cs,.int .i64 p]=>((Is cY m cs) ∧ (m ≤ 2000) ∧ (0 ≤ p) ∧ (p + 100 ≤ 1000000),fun c=>(Wa (Vq p c).1,upd H b (some [.list m cs,.int .i64 (Vq p c).2])))
    | _=>(False,fun _=>(.any,H))
  | _=>(False,fun _=>(.any,H))
theorem l1ExprC_ok:ConOk Tryz.prog 194 l1ExprC:=by
  refine ⟨Qo Tryz.func194 (by decide) rfl,fun args H h=>?_⟩
  revert h
  dsimp only
  split
  · split
    · rename_i hH
      intro h
      obtain ⟨⟨ys,rfl,rfl⟩,hl,h0_,hp_⟩:=h
      try simp only [Qm] at *
      exact SpecR.enc ((l1Expr_spec ys _ _ hl h0_ hp_ ).frame hH).shut fun c=>Prod.ext (l1Expr_okD  _ _).2.symm rfl
    · intro h;exact h.elim
  · intro h
    exact h.elim
@[go_sem] def Γe23:FuncId → Con:=ext Γe22 194 l1ExprC
theorem Zv:∀ g,ConOk Tryz.prog g (Γe23 g):=Qn Γe22_ok l1ExprC_ok


section
variable {P:Program} {B:Base} {n:Nat} {S:St} {a:Act} {w:World} {μ:Nat → Nat} {fp:Root → List Nat} {N:Nat}
theorem R.shutBag {d:D} {v:Value} (hR:R B n S [d] [v] a w μ fp N):R B n S [dat d] [v] a w μ (fset fp .bag []) N:=by
  have hm:Moves fp (fset fp .bag []):=.drop hR.nod hR.dis fun r=>by
    by_cases e:r = .bag
    · subst e;exact .inr (Xq ..)
    · exact .inl (Xf e)
  refine ⟨hR.len,hR.dfs,hR.frm,hR.jk,hR.own' hm,hm.nod,hm.dis,fun t'=>?_,?_,?_,?_,hR.bT,?_,hR.bH,hR.rn⟩
  · rw [Xf (by simp)]
    exact (hR.tm t').sub hm.sub
  · rw [Xq]
    have hb1:=hR.bg
    simp only [RepL] at hb1 ⊢
    obtain ⟨v',vs',f1,f2,e1,e2,r1,r2⟩:=hb1
    obtain ⟨rfl,rfl⟩:v' = v ∧ vs' = []:=by simpa using e1.symm
    have e3:fp .bag = f1:=by rw [e2,r2.2,List.append_nil]
    refine ⟨v',[],[],[],rfl,rfl,Rep.dat (I:=Im B w fp) (fun b hb=>hb.sub hm.sub) (fun b hb=>?_) r1,rfl,rfl⟩
    rw [← e3] at hb
    have ho:=hR.own _ b hb
    refine ⟨ho.2,?_,fun r hr=>?_⟩
    · rcases ho.1 with q | q
      · exact .inl (.inr q)
      · exact .inr q
    · by_cases e:r = .bag
      · subst e;rw [Xq] at hr;cases hr
      · rw [Xf e] at hr;exact e (hR.dis _ _ b hr hb)
  · intro b cs hc;exact (hR.hp b cs hc).sub hm.sub (by simp [fset]) (by simp [fset])
  · intro b hb;have:=hR.hn b hb;simp [fset,this]
  · have:=hR.bB
    simp only [bndL] at this ⊢
    exact ⟨bnd_dat this.1,trivial⟩
theorem noTup {E:D} {n:Nat} {cs:List D} (h:dat E = .list n cs):isTup E = false:=by
  cases E <;> first | rfl | (simp [dat] at h)
theorem Yd (b i:Nat) {c:Code} {Q:Exit → St → Prop} {all:List D} {d:D} (hH:S.H b = some all) (hi:all[i]? = some d) (hnt:isTup d = false)
    (h:AW P B n c Q ⟨S.T,upd S.H b (some (all.set i (dat d)))⟩):AW P B n c Q S:=fun a w μ fp N hR=>by
  have hil:i < all.length:=by rcases Nat.lt_or_ge i all.length with q | q;exact q;rw [List.getElem?_eq_none q] at hi;cases hi
  obtain ⟨v,fp1,hw,hone,h1⟩:=hR.cellOut hH (.inr ⟨i,_,hi,hnt⟩) hi
  obtain ⟨fp3,h3⟩:=h1.shutBag.cellIn (b:=b) (i:=i) (cs:=all.set i .any) (by dsimp only;rw [Qu]) (.inr ⟨i,.any,by rw [List.getElem?_set_self hil],rfl⟩) (by simpa using hil) hone hw
  refine h a w μ fp3 N ?_
  have e:upd (upd S.H b (some (all.set i .any))) b (some ((all.set i .any).set i (dat d))) = upd S.H b (some (all.set i (dat d))):=by
    funext x
    by_cases e2:x = b
    · subst e2;rw [Qu,Qu,List.set_set]
    · rw [Ql e2,Ql e2,Ql e2]
  dsimp only at h3
  rw [e] at h3
  exact h3
theorem zagw {c:Code} {Q:Exit → St → Prop} (t sz:Nat) {d:D} (hT:S.T t = .box [d,.nil]) (h:AW P B n c Q ⟨upd S.T t (.box [d,.fr sz 0 []]),S.H⟩):AW P B n c Q S :=
  Yn t hT (fun μ I w vs f hr=>by
    simp only [RepL] at hr ⊢
    obtain ⟨v,vs',f1,f2,e1,e2,r1,v2,vs2,g1,g2,e3,e4,r2,r3⟩:=hr
    exact ⟨v,vs',f1,f2,e1,e2,r1,v2,vs2,g1,g2,e3,e4,Jw r2,r3⟩) (fun N hb=>by simp only [bndL,bnd] at hb ⊢;exact ⟨hb.1,trivial,trivial⟩) h
end
@[go_sem] def sE (x:Ed):D:=.st [.int .i64 x.fr,.int .i64 x.to,.int .i64 x.g.k,.int .i64 x.g.v,li cX x.g.ks,.int .i64 x.v,.int .i64 x.e.k,.int .i64 x.e.v,li cX x.e.ks,.int .i64 x.sy]
@[go_sem] theorem makeD_10 (x:D):makeD [x] 1 = [x]:=by rw [Zs];rfl

theorem dat_nilX:dat D.nil = li cX ([]:List Tree):=by simp [dat,li,cat]
theorem dat_liX (es:List Tree):dat (.list es.length (cat cX es)) = li cX es:=by simp [dat,li]
theorem dat_twoX (a b c d:Int):dat (.fr 3 2 [.int .i64 a,.int .i64 b,.list 0 [],.int .i64 c,.int .i64 d,.list 0 []]) = li cX [.mk a b [],.mk c d []]:=by
  simp [dat,datL,li,Xe,cX_mk,cat]

@[go_sem] def Ue:Ed → D:=sE
theorem zatf (x:Ed):dat (Ue x) = Ue x:=by simp [go_sem]
def zaca (n:Int):Ed → Prop:=fun _=>True
def zaik (n:Int) (x:(Ed) × D):Prop:=zaca n x.1 ∧ dat x.2 = Ue x.1
def zaav (n:Int) (p:Int) (c:Any):((Ed) × D) × Int:=dsel (zaik n) ((⟨0,0,.mk 1 1 [],0,.mk 1 1 [],0⟩:Ed),Ue (⟨0,0,.mk 1 1 [],0,.mk 1 1 [],0⟩)) 115 p c
def Vg (n:Int) (p:Int) (c:Any):(Ed) × Int:=((zaav n p c).1.1,(zaav n p c).2)
theorem zall (n:Int) (hn:n ≤ 1000000) (p:Int) (c:Any):(zaca n (Vg n p c).1 ∧ p ≤ (Vg n p c).2 ∧ (Vg n p c).2 ≤ p + 115) ∧ dat (zaav n p c).1.2 = Ue (Vg n p c).1:=by
  have hx:zaca n (⟨0,0,.mk 1 1 [],0,.mk 1 1 [],0⟩):=trivial
  have h:=Zy (good:=zaik n) (x0:=((⟨0,0,.mk 1 1 [],0,.mk 1 1 [],0⟩:Ed),Ue (⟨0,0,.mk 1 1 [],0,.mk 1 1 [],0⟩))) ⟨hx,zatf _⟩ (K:=115) (by omega) (p:=p) c
  exact ⟨⟨h.1.1,h.2.1,h.2.2⟩,h.1.2⟩
theorem l2DrawEdge_ok (n:Int) (hn:n ≤ 1000000) (p:Int) (c:Any):zaca n (Vg n p c).1 ∧ p ≤ (Vg n p c).2 ∧ (Vg n p c).2 ≤ p + 115:=(zall n hn p c).1
theorem zalk (n:Int) (ys:List UInt8) (p:Int) (b:Nat) {e_:Exit} {S_:St} (x:Ed) (p':Int) (he_:e_ = .ret ∨ e_ = .normal)
    (h1:(Qd Tryz.prog S_ Tryz.f174.results.toList).1 ∧ dat (resD (Qd Tryz.prog S_ Tryz.f174.results.toList).2.1) = Ue x ∧ (Qd Tryz.prog S_ Tryz.f174.results.toList).2.2.H b = some [li cY ys,.int .i64 p']) (hg:zaca n x) (h2:p ≤ p' ∧ p' ≤ p + 115) :
    retR Tryz.prog Tryz.f174 (fun c=>((zaav n p c).1.2,one b [li cY ys,.int .i64 (zaav n p c).2])) e_ S_ :=
  Zw (good:=zaik n) (enc:=fun x:(Ed) × D=>x.2) (cells:=fun q=>[li cY ys,.int .i64 q]) (x,resD (Qd Tryz.prog S_ Tryz.f174.results.toList).2.1) p' he_ ⟨h1.1,rfl,h1.2.2⟩ ⟨hg,h1.2.1⟩ h2
set_option maxHeartbeats 4000000 in
theorem zate (ys:List UInt8) (p:Int) (b:Nat) (n:Int) (hl:ys.length ≤ 2000) (h0_:0 ≤ p) (hp_:p + 115 ≤ 1000000) (hn:n ≤ 1000000):SpecR Tryz.prog 174 [.ptr b 0,.int .i64 n] (one b [li cY ys,.int .i64 p]) (fun c=>((zaav n p c).1.2,one b [li cY ys,.int .i64 (zaav n p c).2])):=by
  refine SpecR.of_walk Tryz.func174 rfl (by simp [Tryz.f174]) fun B=>?_
  (repeat' (first
 | refine Qt ?_
 | refine Qc (id:=1) Zv [] (by kernel_rfl) ?_;simp [-zg,-zd,↓Qb,↓Qa,go_sem,hl,(show 0 ≤ p by omega),(show p ≤ 1000000 by omega),(show 0 ≤ p + 1 by omega),(show p + 1 ≤ 1000000 by omega),(show 0 ≤ p + 1 + 1 by omega),(show p + 1 + 1 ≤ 1000000 by omega),hn,(show p + 1 + 1 + 5 ≤ 1000000 by omega)];try ((intro c1);(have z0:=l2Guard_ok (p + 1 + 1) c1);(generalize Jv (p + 1 + 1) c1 = z at *);(obtain ⟨-,z1,z2⟩:=z0);(obtain ⟨⟨gk,gv,gs⟩,p1⟩:=z);(dsimp only at z1 z2);(generalize pkI ys p n = x1 at *);(generalize pkI ys (p + 1) n = x2 at *);(refine Xs 5 rfl fun qb hqb=>?_);(have hbq:¬ b = qb:=(by rintro rfl;simp [go_sem] at hqb));(clear hqb);(refine Qp (fun H1=>H1 b = some [.list ys.length (cat cY ys),.int .i64 p1] ∧ H1 qb = some [.int .i64 x1,.int .i64 x2,.int .i64 gk,.int .i64 gv,li cX gs,.int .i64 (-1),.int .i64 0,.int .i64 0,.nil,.int .i64 0]) ⟨by simp [go_sem,hbq],by simp [go_sem,hbq,li]⟩ fun H1 ⟨w1,w2⟩=>?_))
 | refine Qc (id:=2) Zv [] (by kernel_rfl) ?_;simp [-zg,-zd,↓Qb,↓Qa,go_sem,w1,hl,(show 0 ≤ p1 by omega),(show p1 ≤ 1000000 by omega),(show 0 ≤ p1 + 1 by omega),(show p1 + 1 ≤ 1000000 by omega),(show 0 ≤ p1 + 1 + 1 by omega),(show p1 + 1 + 1 ≤ 1000000 by omega)]
 | refine Qc (id:=3) Zv [] (by kernel_rfl) ?_;simp [-zg,-zd,↓Qb,↓Qa,go_sem,w1,w2,hl,(show 0 ≤ p1 by omega),(show p1 ≤ 1000000 by omega),(show 0 ≤ p1 + 1 by omega),(show p1 + 1 ≤ 1000000 by omega),(show 0 ≤ p1 + 1 + 1 by omega),(show p1 + 1 + 1 ≤ 1000000 by omega),hbq,zS hbq];try (generalize numI ys (p1 + 1) [0,1,0,2] = x3 at *)
 | refine Qc (id:=4) Zv [] (by kernel_rfl) ?_;simp [-zg,-zd,↓Qb,↓Qa,go_sem,w1,w2,hbq,zS hbq];try (refine Qy 6 ?_;simp [go_sem])
 | refine Qc (id:=5) Zv [] (by kernel_rfl) ?_;simp [-zg,-zd,↓Qb,↓Qa,go_sem];try (refine Qy 7 ?_;simp [go_sem])
 | refine Qc (id:=6) Zv [] (by kernel_rfl) ?_;simp [-zg,-zd,↓Qb,↓Qa,go_sem,w1,w2,hbq,zS hbq,hl,(show 0 ≤ p1 by omega),(show p1 ≤ 1000000 by omega),(show 0 ≤ p1 + 1 by omega),(show p1 + 1 ≤ 1000000 by omega),(show 0 ≤ p1 + 1 + 1 by omega),(show p1 + 1 + 1 ≤ 1000000 by omega),(show 0 ≤ p1 + 1 + 1 + 1 by omega),(show p1 + 1 + 1 + 1 ≤ 1000000 by omega)]
 | refine Qc (id:=9) Zv [] (by kernel_rfl) ?_;simp [-zg,-zd,↓Qb,↓Qa,go_sem,w1,w2,hbq,zS hbq,hl,(show 0 ≤ p1 by omega),(show p1 ≤ 1000000 by omega),(show 0 ≤ p1 + 1 by omega),(show p1 + 1 ≤ 1000000 by omega),(show 0 ≤ p1 + 1 + 1 by omega),(show p1 + 1 + 1 ≤ 1000000 by omega),(show 0 ≤ p1 + 1 + 1 + 1 by omega),(show p1 + 1 + 1 + 1 ≤ 1000000 by omega),(show 0 ≤ p1 + 1 + 1 + 1 + 1 by omega),(show p1 + 1 + 1 + 1 + 1 ≤ 1000000 by omega)]
 | refine Qc (id:=11) Zv [] (by kernel_rfl) ?_;simp [-zg,-zd,↓Qb,↓Qa,go_sem,w1,w2,hbq,zS hbq]
 | refine Qc (id:=13) Zv [] (by kernel_rfl) ?_;simp [-zg,-zd,↓Qb,↓Qa,go_sem,w1,w2,hbq,zS hbq]
 | refine Qc (id:=7) Zv [] (by kernel_rfl) ?_;simp [-zg,-zd,↓Qb,↓Qa,go_sem,w1,w2,hbq,zS hbq,hl,(show 0 ≤ p1 by omega),(show p1 ≤ 1000000 by omega),(show 0 ≤ p1 + 1 by omega),(show p1 + 1 ≤ 1000000 by omega),(show 0 ≤ p1 + 1 + 1 by omega),(show p1 + 1 + 1 ≤ 1000000 by omega),(show 0 ≤ p1 + 1 + 1 + 1 by omega),(show p1 + 1 + 1 + 1 ≤ 1000000 by omega),(show p1 + 1 + 1 + 1 + 100 ≤ 1000000 by omega)];try ((intro c7);(have y0:=l1Expr_ok (p1 + 1 + 1 + 1) c7);(generalize Vq (p1 + 1 + 1 + 1) c7 = y at *);(obtain ⟨-,y1,y2⟩:=y0);(obtain ⟨⟨ek,ev,es⟩,p2⟩:=y);(dsimp only at y1 y2))
 | ((refine Qp (fun H2=>∃ (v ek ev q:Int) (E:D),(∃ es,dat E = li cX es) ∧ p ≤ q ∧ q ≤ p + 113 ∧ H2 b = some [.list ys.length (cat cY ys),.int .i64 q] ∧ H2 qb = some [.int .i64 x1,.int .i64 x2,.int .i64 gk,.int .i64 gv,li cX gs,.int .i64 v,.int .i64 ek,.int .i64 ev,E,.int .i64 0]) (by (iterate 5 apply Exists.intro);refine ⟨?_,?_,?_,?_,?_⟩;rotate_left 3;(simp [upd,w1,w2,hbq,zS hbq];and_intros <;> rfl);(simp [upd,w1,w2,hbq,zS hbq,li];and_intros <;> rfl);(first | exact ⟨_,dat_nilX⟩ | exact ⟨_,dat_liX _⟩ | exact ⟨_,dat_twoX _ _ _ _⟩);omega;omega) fun H2 ⟨v,ek,ev,q,E,⟨es,hE⟩,k1,k2,k3',k4'⟩=>?_);(refine Yd qb 8 k4' rfl (noTup hE) ?_);(refine Qp (fun H3=>H3 b = some [.list ys.length (cat cY ys),.int .i64 q] ∧ H3 qb = some [.int .i64 x1,.int .i64 x2,.int .i64 gk,.int .i64 gv,li cX gs,.int .i64 v,.int .i64 ek,.int .i64 ev,li cX es,.int .i64 0]) ⟨by simp [upd,hbq,zS hbq,k3'],by simp [upd,hE]⟩ fun H3 ⟨k3,k4⟩=>?_));refine Qc (id:=14) Zv [] (by kernel_rfl) ?_;simp [-zg,-zd,↓Qb,↓Qa,go_sem,k3,hl,(show 0 ≤ q by omega),(show q ≤ 1000000 by omega),(show 0 ≤ q + 1 by omega),(show q + 1 ≤ 1000000 by omega),(show 0 ≤ q + 1 + 1 by omega),(show q + 1 + 1 ≤ 1000000 by omega)]
 | refine Qc (id:=15) Zv [] (by kernel_rfl) ?_;simp [-zg,-zd,↓Qb,↓Qa,go_sem,k3,k4,hl,(show 0 ≤ q by omega),(show q ≤ 1000000 by omega),(show 0 ≤ q + 1 by omega),(show q + 1 ≤ 1000000 by omega),(show 0 ≤ q + 1 + 1 by omega),(show q + 1 + 1 ≤ 1000000 by omega),hbq,zS hbq]
 | refine Qc (id:=16) Zv [] (by kernel_rfl) ?_;simp [-zg,-zd,↓Qb,↓Qa,go_sem,k3,k4,hbq,zS hbq]
 | (refine Qe ?_)
 | (refine Qs ?_;simp [-zg,-zd,↓Qb,↓Qa,go_sem])
 | (refine Qr ?_;simp [-zg,-zd,↓Qb,↓Qa,go_sem])
 | (refine Qq ?_;try simp [-zg,-zd,↓Qb,↓Qa,go_sem,Tryz.results174])
 | (intro hx;refine zA ?_)
 | (intro hx;change retR _ _ _ _ _)
 | (refine ⟨?_,?_⟩ <;> refine zA ?_)
 | (intro hx;constructor <;> intro hs)
 | (constructor <;> intro hs)
 | (refine ⟨?_,fun hs=>?_⟩;refine zA ?_)
 | (refine ⟨fun hs=>?_,?_⟩;rotate_left;refine zA ?_;rotate_left)
 | (refine Qj ?_;simp [-zg,-zd,↓Qb,↓Qa,go_sem];try first | (refine ⟨?_,?_⟩ <;> refine zA ?_) | (refine ⟨fun cz=>?_,fun cz=>?_⟩ <;> (try simp [B_iff,B_not] at cz)))
 | (refine Qc Zv [] (by kernel_rfl) ?_;simp [-zg,-zd,↓Qb,↓Qa,go_sem])
 | fail))
  all_goals (first
 | (refine zalk _ _ _ _ (⟨x1,x2,.mk gk gv gs,v,.mk ek ev es,0⟩) (q + 1) ?_ ?_ ?_ ?_;(first | exact Or.inl rfl | exact Or.inr rfl);(focus (simp [-zg,-zd,↓Qb,↓Qa,go_sem,Tryz.results174,k3,k4,dat,Qz,li,hbq,zS hbq];done));(focus ((trivial);done));(focus (refine ⟨?_,?_⟩ <;> omega)))
 | (refine zalk _ _ _ _ (⟨x1,x2,.mk gk gv gs,v,.mk ek ev es,numI ys (q + 1) [1,-1,1,-1,2,-2]⟩) (q + 1 + 1) ?_ ?_ ?_ ?_;(first | exact Or.inl rfl | exact Or.inr rfl);(focus (simp [-zg,-zd,↓Qb,↓Qa,go_sem,Tryz.results174,k3,k4,dat,Qz,li,hbq,zS hbq];done));(focus ((trivial);done));(focus (refine ⟨?_,?_⟩ <;> omega)))
 | skip)
@[go_sem] def zana:Con:=.rel fun args H=>match args with
  | [.ptr b 0,.int .i64 n]=>match H b with
    | some [.list m cs,.int .i64 p]=>((Is cY m cs) ∧ (m ≤ 2000) ∧ (0 ≤ p) ∧ (p + 115 ≤ 1000000) ∧ (n ≤ 1000000),fun c=>(Ue (Vg n p c).1,upd H b (some [.list m cs,.int .i64 (Vg n p c).2])))
    | _=>(False,fun _=>(.any,H))
  | _=>(False,fun _=>(.any,H))
theorem l2DrawEdgeC_ok:ConOk Tryz.prog 174 zana:=by
  refine ⟨Qo Tryz.func174 (by decide) rfl,fun args H h=>?_⟩
  revert h
  dsimp only
  split
  · split
    · rename_i hH
      intro h
      obtain ⟨⟨ys,rfl,rfl⟩,hl,h0_,hp_,hn⟩:=h
      try simp only [Qm] at *
      exact SpecR.enc ((zate ys _ _ _ hl h0_ hp_ hn).frame hH).shut fun c=>Prod.ext (zall _ hn _ _).2.symm rfl
    · intro h;exact h.elim
  · intro h
    exact h.elim
@[go_sem] def Γe24:FuncId → Con:=ext Γe23 174 zana
theorem Va:∀ g,ConOk Tryz.prog g (Γe24 g):=Qn Zv l2DrawEdgeC_ok


@[go_sem] def Γz0:FuncId → Con:=Γ0
theorem Γz0_ok:∀ g,ConOk Tryz.prog g (Γz0 g):=Γ0_ok
@[go_sem] def Γz1:FuncId → Con:=ext Γz0 74 pickC
theorem Γz1_ok:∀ g,ConOk Tryz.prog g (Γz1 g):=Qn Γz0_ok pickC_ok
@[go_sem] def Γz2:FuncId → Con:=ext Γz1 82 numC
theorem Γz2_ok:∀ g,ConOk Tryz.prog g (Γz2 g):=Qn Γz1_ok numC_ok
@[go_sem] def Γz3:FuncId → Con:=ext Γz2 48 openC
theorem Γz3_ok:∀ g,ConOk Tryz.prog g (Γz3 g):=Qn Γz2_ok openC_ok
instance:Flat cB:=⟨fun _=>rfl⟩
instance:Flat cT:=⟨fun _=>rfl⟩
theorem cut_lenZ (xs:List UInt8):(Yr xs).length ≤ 2000:=by simp [Yr];omega

def IsK (E:D):Prop:=E = .nil ∨ ∃ ks,E = li cX ks
@[go_sem] theorem isK_nil:IsK .nil = True:=eq_true (.inl rfl)
@[go_sem] theorem isK_list (ks:List Tree):IsK (.list ks.length (cat cX ks)) = True:=eq_true (.inr ⟨ks,rfl⟩)
@[go_sem] theorem isK_li (ks:List Tree):IsK (li cX ks) = True:=eq_true (.inr ⟨ks,rfl⟩)
@[go_sem] theorem is_lit8 (x0 x1 x2 x3 x4 x5 x6 x7:Int):Is cI 8 [D.int .i64 x0,D.int .i64 x1,D.int .i64 x2,D.int .i64 x3,D.int .i64 x4,D.int .i64 x5,D.int .i64 x6,D.int .i64 x7] = True:=eq_true ⟨[x0,x1,x2,x3,x4,x5,x6,x7],rfl,rfl⟩
@[go_sem] theorem de_lit8 (x0 x1 x2 x3 x4 x5 x6 x7:Int):de cI [D.int .i64 x0,D.int .i64 x1,D.int .i64 x2,D.int .i64 x3,D.int .i64 x4,D.int .i64 x5,D.int .i64 x6,D.int .i64 x7] = [x0,x1,x2,x3,x4,x5,x6,x7]:=Qm (f:=cI) [x0,x1,x2,x3,x4,x5,x6,x7]
@[go_sem] theorem is_lit9 (x0 x1 x2 x3 x4 x5 x6 x7 x8:Int):Is cI 9 [D.int .i64 x0,D.int .i64 x1,D.int .i64 x2,D.int .i64 x3,D.int .i64 x4,D.int .i64 x5,D.int .i64 x6,D.int .i64 x7,D.int .i64 x8] = True:=eq_true ⟨[x0,x1,x2,x3,x4,x5,x6,x7,x8],rfl,rfl⟩
@[go_sem] theorem de_lit9 (x0 x1 x2 x3 x4 x5 x6 x7 x8:Int):de cI [D.int .i64 x0,D.int .i64 x1,D.int .i64 x2,D.int .i64 x3,D.int .i64 x4,D.int .i64 x5,D.int .i64 x6,D.int .i64 x7,D.int .i64 x8] = [x0,x1,x2,x3,x4,x5,x6,x7,x8]:=Qm (f:=cI) [x0,x1,x2,x3,x4,x5,x6,x7,x8]
@[go_sem] theorem makeD_8 (x:D):makeD [x] 8 = [x,x,x,x,x,x,x,x]:=by rw [Zs];rfl
@[go_sem] theorem makeD_1z (x:D):makeD [x] 1 = [x]:=by rw [Zs];rfl
theorem snoc_cX (xs:List Tree) (t:Tree):cat cX xs ++ [.int .i64 t.k,.int .i64 t.v,li cX t.ks] = cat cX (xs ++ [t]):=by rw [Xk,Xg,cX_eq]
@[go_sem] theorem take_cX (xs:List Tree) (ys:List D):(cat cX xs ++ ys).take (xs.length * 3) = cat cX xs:=Jp xs ys
end
end Go.Proofs.YtiilmjojffjhlaaGreatDoor.Vm

