import Derived.Test.YtiilmjojffjhlaaGreatDoorE4
import Derived.Test.YtiilmjojffjhlaaGreatDoorTr
/-
  Systems: valid; their states. No conditions.
-/
namespace Go.Proofs.YtiilmjojffjhlaaGreatDoor.Vm
open Go
open Nat renaming sub_pos_of_lt → zsP
open List renaming getD_eq_getElem?_getD → zg,drop_one → zd,replicate → zrP
open Ne renaming symm → zS
noncomputable section
set_option linter.unusedVariables false
set_option linter.unusedSimpArgs false
set_option maxRecDepth 200000

instance:Flat cT:=⟨fun _=>rfl⟩

theorem l2None_pure (k:Int) (v:Int) (ks:List Tree)  : Pure Tryz.prog 204 [.st [.int .i64 k,.int .i64 v,li cX ks]] (.bool (decide (k = 0) && decide (v = 0) && decide (ks.length = 0))):=by
  refine Pure.of_walk Tryz.func204 rfl (by simp [Tryz.f204]) (by simp [-zd,go_sem]) fun B hK=>?_
  (repeat' (first
 | refine Qt ?_
 | refine Qc (id:=0) Γe9_ok [] (by kernel_rfl) ?_;simp [-zg,-zd,↓Qb,↓Qa,go_sem];try (refine Xh hK 1 ?_;simp [go_sem])
 | refine Qc (id:=1) Γe9_ok [6,11] (by kernel_rfl) ?_;simp [-zg,-zd,↓Qb,↓Qa,go_sem];try (refine ⟨fun s1a=>?_,fun s1a=>?_⟩ <;> (try simp [B_iff,B_not] at s1a) <;> try (refine ⟨fun s1b=>?_,fun s1b=>?_⟩ <;> (try simp [B_iff,B_not] at s1b) <;> try (refine ⟨fun s1c=>?_,fun s1c=>?_⟩ <;> (try simp [B_iff,B_not] at s1c))))
 | (refine Qe ?_)
 | (refine Qs ?_;simp [-zg,-zd,↓Qb,↓Qa,go_sem])
 | (refine Qr ?_;simp [-zg,-zd,↓Qb,↓Qa,go_sem])
 | (refine Qq ?_;simp [-zg,-zd,↓Qb,↓Qa,go_sem,Tryz.results204])
 | (intro hx;refine zA ?_)
 | (refine ⟨?_,?_⟩ <;> refine zA ?_)
 | (intro hx;constructor <;> intro hs)
 | (constructor <;> intro hs)
 | (refine ⟨?_,fun hs=>?_⟩;refine zA ?_)
 | (refine ⟨fun hs=>?_,?_⟩;rotate_left;refine zA ?_;rotate_left)))
  all_goals (first
 | (simp_all;done)
 | (intros;simp_all;done)
 | skip)
@[go_sem] def zakj:Con:=.pure fun
  | [.st [.int .i64 k,.int .i64 v,.list n_ks c_ks]]=>((Is cX n_ks c_ks),.bool (decide (k = 0) && decide (v = 0) && decide ((de cX c_ks).length = 0)))
  | _=>(False,.any)
theorem zatd:ConOk Tryz.prog 204 zakj:=by
  refine ⟨Qo Tryz.func204 (by decide) rfl,fun args h=>?_⟩
  revert h
  dsimp only
  split
  · intro h
    obtain ⟨ks,rfl,rfl⟩:=h
    try simp only [Qm] at *
    exact ⟨l2None_pure _ _ ks,by simp [go_sem]⟩
  · intro h
    exact h.elim
@[go_sem] def Γe10:FuncId → Con:=ext Γe9 204 zakj
theorem zame:∀ g,ConOk Tryz.prog g (Γe10 g):=Qn Γe9_ok zatd

def EdF (fr to:Int) (g:Tree) (v:Int) (e:Tree) (sy loc:Int):Prop :=
  0 ≤ fr ∧ fr < loc ∧ 0 ≤ to ∧ to < loc ∧ loc ≤ 4 ∧ ExprOk g ∧ -2 ≤ sy ∧ sy ≤ 2 ∧ -1 ≤ v ∧ v ≤ 2 ∧ (0 ≤ v → ExprOk e)
def EdOk (x:Ed) (loc:Int):Prop:=EdF x.fr x.to x.g x.v x.e x.sy loc

@[go_sem] def Wy:Bool → D:=fun x=>.bool x
def Uf (fr:Int) (to:Int) (gk:Int) (gv:Int) (gs:List Tree) (v:Int) (ek:Int) (ev:Int) (es:List Tree) (sy:Int) (loc:Int):Bool → Prop:=fun x=>x = true → EdF fr to (.mk gk gv gs) v (.mk ek ev es) sy loc
def zacr (fr:Int) (to:Int) (gk:Int) (gv:Int) (gs:List Tree) (v:Int) (ek:Int) (ev:Int) (es:List Tree) (sy:Int) (loc:Int) (c:Any):Bool:=sel (Uf fr to gk gv gs v ek ev es sy loc) (false) c
theorem EdgeValid_ok (fr:Int) (to:Int) (gk:Int) (gv:Int) (gs:List Tree) (v:Int) (ek:Int) (ev:Int) (es:List Tree) (sy:Int) (loc:Int)  (c:Any):Uf fr to gk gv gs v ek ev es sy loc (zacr fr to gk gv gs v ek ev es sy loc c):=Xl (p:=Uf fr to gk gv gs v ek ev es sy loc) (x0:=false) (by simp [Uf]) c
theorem EdgeValid_ret (fr:Int) (to:Int) (gk:Int) (gv:Int) (gs:List Tree) (v:Int) (ek:Int) (ev:Int) (es:List Tree) (sy:Int) (loc:Int) {e_:Exit} {S_:St} (x:Bool) (he_:e_ = .ret ∨ e_ = .normal)
    (h1:(Qd Tryz.prog S_ Tryz.f203.results.toList).1 ∧ resD (Qd Tryz.prog S_ Tryz.f203.results.toList).2.1 = Wy x) (hg:Uf fr to gk gv gs v ek ev es sy loc x) :
    retR Tryz.prog Tryz.f203 (fun c=>(Wy (zacr fr to gk gv gs v ek ev es sy loc c),fun _=>none)) e_ S_:=Xi (enc:=Wy) x he_ h1 hg
theorem zalw (fr:Int) (to:Int) (gk:Int) (gv:Int) (gs:List Tree) (v:Int) (ek:Int) (ev:Int) (es:List Tree) (sy:Int) (loc:Int) {e_:Exit} {S_:St} (he_:e_ = .ret ∨ e_ = .normal)
    (h:∃ x,(Qd Tryz.prog S_ Tryz.f203.results.toList).1 ∧ resD (Qd Tryz.prog S_ Tryz.f203.results.toList).2.1 = Wy x ∧ Uf fr to gk gv gs v ek ev es sy loc x) :
    retR Tryz.prog Tryz.f203 (fun c=>(Wy (zacr fr to gk gv gs v ek ev es sy loc c),fun _=>none)) e_ S_:=by
  obtain ⟨x,h1,h2,h3⟩:=h
  exact EdgeValid_ret _ _ _ _ _ _ _ _ _ _ _ x he_ ⟨h1,h2⟩ h3
set_option maxHeartbeats 1000000 in
theorem EdgeValid_pure (fr:Int) (to:Int) (gk:Int) (gv:Int) (gs:List Tree) (v:Int) (ek:Int) (ev:Int) (es:List Tree) (sy:Int) (loc:Int)  : PureR Tryz.prog 203 [.st [.int .i64 fr,.int .i64 to,.int .i64 gk,.int .i64 gv,li cX gs,.int .i64 v,.int .i64 ek,.int .i64 ev,li cX es,.int .i64 sy],.int .i64 loc] (fun c=>Wy (zacr fr to gk gv gs v ek ev es sy loc c)):=by
  refine PureR.of_walk Tryz.func203 rfl (by simp [Tryz.f203]) (fun c=>by simp [-zd,go_sem]) fun B hK=>?_
  (repeat' (first
 | refine Qt ?_
 | refine Qc (id:=0) zame [] (by kernel_rfl) ?_;simp [-zg,-zd,↓Qb,↓Qa,go_sem];try (refine Xh hK 2 ?_;simp [go_sem])
 | refine Qc (id:=1) zame [8,14,19,25,29] (by kernel_rfl) ?_;simp [-zg,-zd,↓Qb,↓Qa,go_sem];try (refine ⟨fun s1a=>?_,fun s1a=>?_⟩ <;> (try simp [B_iff,B_not] at s1a) <;> try (refine ⟨fun s1b=>?_,fun s1b=>?_⟩ <;> (try simp [B_iff,B_not] at s1b) <;> try (refine ⟨fun s1c=>?_,fun s1c=>?_⟩ <;> (try simp [B_iff,B_not] at s1c) <;> try (refine ⟨fun s1d=>?_,fun s1d=>?_⟩ <;> (try simp [B_iff,B_not] at s1d) <;> try (refine ⟨fun s1e=>?_,fun s1e=>?_⟩ <;> (try simp [B_iff,B_not] at s1e) <;> try (refine ⟨fun s1f=>?_,fun s1f=>?_⟩ <;> (try simp [B_iff,B_not] at s1f)))))))
 | refine Qc (id:=3) zame [38,43,48] (by kernel_rfl) ?_;simp [-zg,-zd,↓Qb,↓Qa,go_sem];try (refine ⟨fun s3a=>?_,fun s3a=>?_⟩ <;> (try simp [B_iff,B_not] at s3a) <;> try (refine ⟨fun s3b=>?_,fun s3b=>?_⟩ <;> (try simp [B_iff,B_not] at s3b) <;> try (refine ⟨fun s3c=>?_,fun s3c=>?_⟩ <;> (try simp [B_iff,B_not] at s3c) <;> try (refine ⟨fun s3d=>?_,fun s3d=>?_⟩ <;> (try simp [B_iff,B_not] at s3d)))))
 | refine Qc (id:=5) zame [56,61,65] (by kernel_rfl) ?_;simp [-zg,-zd,↓Qb,↓Qa,go_sem];try (refine ⟨fun s5a=>?_,fun s5a=>?_⟩ <;> (try simp [B_iff,B_not] at s5a) <;> try (refine ⟨fun s5b=>?_,fun s5b=>?_⟩ <;> (try simp [B_iff,B_not] at s5b) <;> try (refine ⟨fun s5c=>?_,fun s5c=>?_⟩ <;> (try simp [B_iff,B_not] at s5c) <;> try (refine ⟨fun s5d=>?_,fun s5d=>?_⟩ <;> (try simp [B_iff,B_not] at s5d)))))
 | refine Qj (c:=.tmp 34) ?_;simp [-zg,-zd,↓Qb,↓Qa,go_sem];try first | (refine ⟨?_,?_⟩ <;> refine zA ?_) | (refine ⟨fun c34=>?_,fun c34=>?_⟩ <;> (try simp [B_iff,B_not] at c34))
 | (refine Qe ?_)
 | (refine Qs ?_;simp [-zg,-zd,↓Qb,↓Qa,go_sem])
 | (refine Qr ?_;simp [-zg,-zd,↓Qb,↓Qa,go_sem])
 | (refine Qq ?_;try simp [-zg,-zd,↓Qb,↓Qa,go_sem,Tryz.results203])
 | (intro hx;refine zA ?_)
 | (intro hx;change retR _ _ _ _ _)
 | (refine ⟨?_,?_⟩ <;> refine zA ?_)
 | (intro hx;constructor <;> intro hs)
 | (constructor <;> intro hs)
 | (refine ⟨?_,fun hs=>?_⟩;refine zA ?_)
 | (refine ⟨fun hs=>?_,?_⟩;rotate_left;refine zA ?_;rotate_left)
 | (refine Qj ?_;simp [-zg,-zd,↓Qb,↓Qa,go_sem];try first | (refine ⟨?_,?_⟩ <;> refine zA ?_) | (refine ⟨fun cz=>?_,fun cz=>?_⟩ <;> (try simp [B_iff,B_not] at cz)))
 | (refine Qc zame [] (by kernel_rfl) ?_;simp [-zg,-zd,↓Qb,↓Qa,go_sem])
 | fail))
  all_goals (first
 | (refine zalw _ _ _ _ _ _ _ _ _ _ _ ?_ ?_;(first | exact Or.inl rfl | exact Or.inr rfl);(simp [-zg,-zd,↓Qb,↓Qa,go_sem,Tryz.results203,Uf]);((((try intro hh);refine ⟨by omega,by omega,by omega,by omega,by omega,c34,by omega,by omega,by omega,by omega,?_⟩;first | (intro;omega) | (intro;assumption) | (intro;simp_all;done) | (intro;exact hh.2)));done))
 | (refine zalw _ _ _ _ _ _ _ _ _ _ _ ?_ ?_;(first | exact Or.inl rfl | exact Or.inr rfl);(simp [-zg,-zd,↓Qb,↓Qa,go_sem,Tryz.results203,Uf];done))
 | skip)
@[go_sem] def zaso:Con:=.prel fun
  | [.st [.int .i64 fr,.int .i64 to,.int .i64 gk,.int .i64 gv,.list n_gs c_gs,.int .i64 v,.int .i64 ek,.int .i64 ev,.list n_es c_es,.int .i64 sy],.int .i64 loc]=>((Is cX n_gs c_gs) ∧ (Is cX n_es c_es),fun c=>Wy (zacr fr to gk gv (de cX c_gs) v ek ev (de cX c_es) sy loc c))
  | _=>(False,fun _=>.any)
theorem EdgeValidC_ok:ConOk Tryz.prog 203 zaso:=by
  refine ⟨Qo Tryz.func203 (by decide) rfl,fun args h=>?_⟩
  revert h
  dsimp only
  split
  · intro h
    obtain ⟨⟨gs,rfl,rfl⟩,⟨es,rfl,rfl⟩⟩:=h
    try simp only [Qm] at *
    exact ⟨EdgeValid_pure _ _ _ _ gs _ _ _ es _ _ ,fun c=>by simp [go_sem]⟩
  · intro h
    exact h.elim
@[go_sem] def Γe11:FuncId → Con:=ext Γe10 203 zaso
theorem zajw:∀ g,ConOk Tryz.prog g (Γe11 g):=Qn zame EdgeValidC_ok

def PrF (loc:Int) (es:List Ed):Prop:=1 ≤ loc ∧ loc ≤ 4 ∧ es.length ≤ 6 ∧ ∀ i,i < es.length → EdOk (nth es i) loc

@[go_sem] def Wx:Bool → D:=fun x=>.bool x
def Ud (loc:Int) (es:List Ed):Bool → Prop:=fun x=>x = true → PrF loc es
def zacq (loc:Int) (es:List Ed) (c:Any):Bool:=sel (Ud loc es) (false) c
theorem l2Process_ok (loc:Int) (es:List Ed)  (c:Any):Ud loc es (zacq loc es c):=Xl (p:=Ud loc es) (x0:=false) (by simp [Ud]) c
theorem l2Process_ret (loc:Int) (es:List Ed) {e_:Exit} {S_:St} (x:Bool) (he_:e_ = .ret ∨ e_ = .normal)
    (h1:(Qd Tryz.prog S_ Tryz.f199.results.toList).1 ∧ resD (Qd Tryz.prog S_ Tryz.f199.results.toList).2.1 = Wx x) (hg:Ud loc es x) :
    retR Tryz.prog Tryz.f199 (fun c=>(Wx (zacq loc es c),fun _=>none)) e_ S_:=Xi (enc:=Wx) x he_ h1 hg
theorem zalj (loc:Int) (es:List Ed) {e_:Exit} {S_:St} (he_:e_ = .ret ∨ e_ = .normal)
    (h:∃ x,(Qd Tryz.prog S_ Tryz.f199.results.toList).1 ∧ resD (Qd Tryz.prog S_ Tryz.f199.results.toList).2.1 = Wx x ∧ Ud loc es x) :
    retR Tryz.prog Tryz.f199 (fun c=>(Wx (zacq loc es c),fun _=>none)) e_ S_:=by
  obtain ⟨x,h1,h2,h3⟩:=h
  exact l2Process_ret _ _ x he_ ⟨h1,h2⟩ h3
theorem l2Process_pure (loc:Int) (es:List Ed)  : PureR Tryz.prog 199 [.st [.int .i64 loc,li cE es]] (fun c=>Wx (zacq loc es c)):=by
  refine PureR.of_walk Tryz.func199 rfl (by simp [Tryz.f199]) (fun c=>by simp [-zd,go_sem]) fun B hK=>?_
  (repeat' (first
 | refine Qt ?_
 | refine Qc (id:=0) zajw [] (by kernel_rfl) ?_;simp [-zg,-zd,↓Qb,↓Qa,go_sem];try (refine Xh hK 1 ?_;simp [go_sem])
 | (refine Wk 1 1 ⟨rfl,rfl⟩ fun hm=>?_);refine Qc (id:=1) zajw [] (by kernel_rfl) ?_;simp [-zg,-zd,↓Qb,↓Qa,go_sem]
 | refine Xn (id:=4) zajw mixed [] [1] (by kernel_rfl) (by kernel_rfl) ?_ ?_ <;> simp [-zg,-zd,↓Qb,↓Qa,go_sem,c8,Qk c8,zsP c8];try ((generalize hx:nth es i = x at *);intro c4;have h4:=EdgeValid_ok x.fr x.to x.g.k x.g.v x.g.ks x.v x.e.k x.e.v x.e.ks x.sy loc c4;(generalize zacr x.fr x.to x.g.k x.g.v x.g.ks x.v x.e.k x.e.v x.e.ks x.sy loc c4 = z4 at *);(subst hx);(simp only [Uf] at h4))
 | refine Qc (id:=3) zajw [] (by kernel_rfl) ?_;simp [-zg,-zd,↓Qb,↓Qa,go_sem,wrapS (k:=i) (by omega)]
 | refine Qc (id:=6) zajw [23,28] (by kernel_rfl) ?_;simp [-zg,-zd,↓Qb,↓Qa,go_sem];try (refine ⟨fun s6a=>?_,fun s6a=>?_⟩ <;> (try simp [B_iff,B_not] at s6a) <;> try (refine ⟨fun s6b=>?_,fun s6b=>?_⟩ <;> (try simp [B_iff,B_not] at s6b) <;> try (refine ⟨fun s6c=>?_,fun s6c=>?_⟩ <;> (try simp [B_iff,B_not] at s6c))))
 | refine Qj (c:=.tmp 8) ?_;simp [-zg,-zd,↓Qb,↓Qa,go_sem];try first | (refine ⟨?_,?_⟩ <;> refine zA ?_) | (refine ⟨fun c8=>?_,fun c8=>?_⟩ <;> (try simp [B_iff,B_not] at c8))
 | (refine Qe (id:=0) (Qw (ι:=Nat) (fun i:Nat=>⟨(upd (upd (fun _=>.any) 1 (.pd [.int .i64 loc,li cE es])) 3 (.int .i64 i)),fun _=>none⟩) (fun i=>i ≤ es.length ∧ AllTill (fun i=>EdOk (nth es i) loc) i) (fun i=>es.length - i) (0) ?_ ?_ ?_);exact ⟨Nat.zero_le _,.zero _⟩;((repeat' (first | exact Qg (by assumption) | exact Qi | refine Qf ?_ ?_ | refine Qh ?_)) <;> simp [-zg,-zd,↓Qb,↓Qa,go_sem]);rintro i ⟨hi,hu⟩)
 | (refine ⟨i + 1,⟨by omega,hu.succ (by rw [Tree.eta,Tree.eta] at h4;exact h4 (by assumption))⟩,by first | omega | (simp;done) | (simp;omega),?_⟩;((repeat' (first | exact Qg (by assumption) | exact Qi | refine Qf ?_ ?_ | refine Qh ?_)) <;> simp [-zg,-zd,↓Qb,↓Qa,go_sem]))
 | (refine Qe ?_)
 | (refine Qs ?_;simp [-zg,-zd,↓Qb,↓Qa,go_sem])
 | (refine Qr ?_;simp [-zg,-zd,↓Qb,↓Qa,go_sem])
 | (refine Qq ?_;try simp [-zg,-zd,↓Qb,↓Qa,go_sem,Tryz.results199])
 | (intro hx;refine zA ?_)
 | (intro hx;change retR _ _ _ _ _)
 | (refine ⟨?_,?_⟩ <;> refine zA ?_)
 | (intro hx;constructor <;> intro hs)
 | (constructor <;> intro hs)
 | (refine ⟨?_,fun hs=>?_⟩;refine zA ?_)
 | (refine ⟨fun hs=>?_,?_⟩;rotate_left;refine zA ?_;rotate_left)
 | (refine Qj ?_;simp [-zg,-zd,↓Qb,↓Qa,go_sem];try first | (refine ⟨?_,?_⟩ <;> refine zA ?_) | (refine ⟨fun cz=>?_,fun cz=>?_⟩ <;> (try simp [B_iff,B_not] at cz)))
 | (refine Qc zajw [] (by kernel_rfl) ?_;simp [-zg,-zd,↓Qb,↓Qa,go_sem])
 | fail))
  all_goals (first
 | (refine zalj _ _ ?_ ?_;(first | exact Or.inl rfl | exact Or.inr rfl);(simp [-zg,-zd,↓Qb,↓Qa,go_sem,Tryz.results199,Ud]);(((intros;refine ⟨by omega,by omega,by omega,fun j hj=>hu j (by omega)⟩));done))
 | (refine zalj _ _ ?_ ?_;(first | exact Or.inl rfl | exact Or.inr rfl);(simp [-zg,-zd,↓Qb,↓Qa,go_sem,Tryz.results199,Ud];done))
 | skip)
@[go_sem] def zari:Con:=.prel fun
  | [.st [.int .i64 loc,.list n_es c_es]]=>((Is cE n_es c_es),fun c=>Wx (zacq loc (de cE c_es) c))
  | _=>(False,fun _=>.any)
theorem l2ProcessC_ok:ConOk Tryz.prog 199 zari:=by
  refine ⟨Qo Tryz.func199 (by decide) rfl,fun args h=>?_⟩
  revert h
  dsimp only
  split
  · intro h
    obtain ⟨es,rfl,rfl⟩:=h
    try simp only [Qm] at *
    exact ⟨l2Process_pure _ es ,fun c=>by simp [go_sem]⟩
  · intro h
    exact h.elim
@[go_sem] def Γe12:FuncId → Con:=ext Γe11 199 zari
theorem zajv:∀ g,ConOk Tryz.prog g (Γe12 g):=Qn zajw l2ProcessC_ok

def SysOk (init:List Int) (ps:List Pr):Prop:=ValsOk init ∧ 1 ≤ ps.length ∧ ps.length ≤ 3 ∧ ∀ i,i < ps.length → PrF (nth ps i).loc (nth ps i).es

@[go_sem] def Wp:Bool → D:=fun x=>.bool x
def Uc (init:List Int) (ps:List Pr):Bool → Prop:=fun x=>x = true → SysOk init ps
def zabh (init:List Int) (ps:List Pr) (c:Any):Bool:=sel (Uc init ps) (false) c
theorem SystemValid_ok (init:List Int) (ps:List Pr)  (c:Any):Uc init ps (zabh init ps c):=Xl (p:=Uc init ps) (x0:=false) (by simp [Uc]) c
theorem zatl (init:List Int) (ps:List Pr) {e_:Exit} {S_:St} (x:Bool) (he_:e_ = .ret ∨ e_ = .normal)
    (h1:(Qd Tryz.prog S_ Tryz.f189.results.toList).1 ∧ resD (Qd Tryz.prog S_ Tryz.f189.results.toList).2.1 = Wp x) (hg:Uc init ps x) :
    retR Tryz.prog Tryz.f189 (fun c=>(Wp (zabh init ps c),fun _=>none)) e_ S_:=Xi (enc:=Wp) x he_ h1 hg
theorem zais (init:List Int) (ps:List Pr) {e_:Exit} {S_:St} (he_:e_ = .ret ∨ e_ = .normal)
    (h:∃ x,(Qd Tryz.prog S_ Tryz.f189.results.toList).1 ∧ resD (Qd Tryz.prog S_ Tryz.f189.results.toList).2.1 = Wp x ∧ Uc init ps x) :
    retR Tryz.prog Tryz.f189 (fun c=>(Wp (zabh init ps c),fun _=>none)) e_ S_:=by
  obtain ⟨x,h1,h2,h3⟩:=h
  exact zatl _ _ x he_ ⟨h1,h2⟩ h3
theorem zasj (init:List Int) (ps:List Pr)  : PureR Tryz.prog 189 [.st [li cI init,li cR ps]] (fun c=>Wp (zabh init ps c)):=by
  refine PureR.of_walk Tryz.func189 rfl (by simp [Tryz.f189]) (fun c=>by simp [-zd,go_sem]) fun B hK=>?_
  (repeat' (first
 | refine Qt ?_
 | refine Qc (id:=0) zajv [] (by kernel_rfl) ?_;simp [-zg,-zd,↓Qb,↓Qa,go_sem];try (refine Xh hK 1 ?_;simp [go_sem])
 | (refine Wk 1 1 ⟨rfl,rfl⟩ fun hm=>?_);refine Qc (id:=1) zajv [] (by kernel_rfl) ?_;simp [-zg,-zd,↓Qb,↓Qa,go_sem]
 | refine Qc (id:=4) zajv [] (by kernel_rfl) ?_;simp [-zg,-zd,↓Qb,↓Qa,go_sem,c8,Qk c8,zsP c8];try (intro c4;have h4:=l2Process_ok (nth ps i).loc (nth ps i).es c4;(generalize zacq (nth ps i).loc (nth ps i).es c4 = z4 at *);(simp only [Ud] at h4))
 | refine Qc (id:=3) zajv [] (by kernel_rfl) ?_;simp [-zg,-zd,↓Qb,↓Qa,go_sem,wrapS (k:=i) (by omega)]
 | refine Qc (id:=6) zajv [21,27] (by kernel_rfl) ?_;simp [-zg,-zd,↓Qb,↓Qa,go_sem];try (refine ⟨fun s6a=>?_,fun s6a=>?_⟩ <;> (try simp [B_iff,B_not] at s6a) <;> try (refine ⟨fun s6b=>?_,fun s6b=>?_⟩ <;> (try simp [B_iff,B_not] at s6b) <;> try (refine ⟨fun s6c=>?_,fun s6c=>?_⟩ <;> (try simp [B_iff,B_not] at s6c))))
 | refine Qj (c:=.tmp 8) ?_;simp [-zg,-zd,↓Qb,↓Qa,go_sem];try first | (refine ⟨?_,?_⟩ <;> refine zA ?_) | (refine ⟨fun c8=>?_,fun c8=>?_⟩ <;> (try simp [B_iff,B_not] at c8))
 | (refine Qe (id:=0) (Qw (ι:=Nat) (fun i:Nat=>⟨(upd (upd (fun _=>.any) 1 (.pd [li cI init,li cR ps])) 3 (.int .i64 i)),fun _=>none⟩) (fun i=>i ≤ ps.length ∧ AllTill (fun i=>PrF (nth ps i).loc (nth ps i).es) i) (fun i=>ps.length - i) (0) ?_ ?_ ?_);exact ⟨Nat.zero_le _,.zero _⟩;((repeat' (first | exact Qg (by assumption) | exact Qi | refine Qf ?_ ?_ | refine Qh ?_)) <;> simp [-zg,-zd,↓Qb,↓Qa,go_sem]);rintro i ⟨hi,hu⟩)
 | (refine ⟨i + 1,⟨by omega,hu.succ (h4 (by assumption))⟩,by first | omega | (simp;done) | (simp;omega),?_⟩;((repeat' (first | exact Qg (by assumption) | exact Qi | refine Qf ?_ ?_ | refine Qh ?_)) <;> simp [-zg,-zd,↓Qb,↓Qa,go_sem]))
 | (refine Qe ?_)
 | (refine Qs ?_;simp [-zg,-zd,↓Qb,↓Qa,go_sem])
 | (refine Qr ?_;simp [-zg,-zd,↓Qb,↓Qa,go_sem])
 | (refine Qq ?_;try simp [-zg,-zd,↓Qb,↓Qa,go_sem,Tryz.results189])
 | (intro hx;refine zA ?_)
 | (intro hx;change retR _ _ _ _ _)
 | (refine ⟨?_,?_⟩ <;> refine zA ?_)
 | (intro hx;constructor <;> intro hs)
 | (constructor <;> intro hs)
 | (refine ⟨?_,fun hs=>?_⟩;refine zA ?_)
 | (refine ⟨fun hs=>?_,?_⟩;rotate_left;refine zA ?_;rotate_left)
 | (refine Qj ?_;simp [-zg,-zd,↓Qb,↓Qa,go_sem];try first | (refine ⟨?_,?_⟩ <;> refine zA ?_) | (refine ⟨fun cz=>?_,fun cz=>?_⟩ <;> (try simp [B_iff,B_not] at cz)))
 | (refine Qc zajv [] (by kernel_rfl) ?_;simp [-zg,-zd,↓Qb,↓Qa,go_sem])
 | fail))
  all_goals (first
 | (refine zais _ _ ?_ ?_;(first | exact Or.inl rfl | exact Or.inr rfl);(simp [-zg,-zd,↓Qb,↓Qa,go_sem,Tryz.results189,Uc]);(((intros;refine ⟨by assumption,by omega,by omega,fun j hj=>hu j (by omega)⟩));done))
 | (refine zais _ _ ?_ ?_;(first | exact Or.inl rfl | exact Or.inr rfl);(simp [-zg,-zd,↓Qb,↓Qa,go_sem,Tryz.results189,Uc];done))
 | skip)
@[go_sem] def zakp:Con:=.prel fun
  | [.st [.list n_init c_init,.list n_ps c_ps]]=>((Is cI n_init c_init) ∧ (Is cR n_ps c_ps),fun c=>Wp (zabh (de cI c_init) (de cR c_ps) c))
  | _=>(False,fun _=>.any)
theorem zatm:ConOk Tryz.prog 189 zakp:=by
  refine ⟨Qo Tryz.func189 (by decide) rfl,fun args h=>?_⟩
  revert h
  dsimp only
  split
  · intro h
    obtain ⟨⟨init,rfl,rfl⟩,⟨ps,rfl,rfl⟩⟩:=h
    try simp only [Qm] at *
    exact ⟨zasj init ps ,fun c=>by simp [go_sem]⟩
  · intro h
    exact h.elim
@[go_sem] def Γe13:FuncId → Con:=ext Γe12 189 zakp
theorem zapg:∀ g,ConOk Tryz.prog g (Γe13 g):=Qn zajv zatm


def StF (ps:List Pr) (lo va:List Int):Prop:=lo.length = ps.length ∧ ValsOk va
abbrev StB:=(List Int × List Int) × Bool

@[go_sem] def zaay:StB → D:=fun x=>.tup [.st [fr 1 cI x.1.1,fr 1 cI x.1.2],.bool x.2]
def zaak (init:List Int) (ps:List Pr):StB → Prop:=fun x=>(x.2 = true → SysOk init ps ∧ StF ps x.1.1 x.1.2) ∧ (x.2 = false → x.1 = ([],[]))
def zabs (init:List Int) (ps:List Pr) (c:Any):StB:=sel (zaak init ps) ((([],[]),false)) c
theorem zatq (init:List Int) (ps:List Pr)  (c:Any):zaak init ps (zabs init ps c):=Xl (p:=zaak init ps) (x0:=(([],[]),false)) (by simp [zaak]) c
theorem zait (init:List Int) (ps:List Pr) {e_:Exit} {S_:St} (x:StB) (he_:e_ = .ret ∨ e_ = .normal)
    (h1:(Qd Tryz.prog S_ Tryz.f169.results.toList).1 ∧ resD (Qd Tryz.prog S_ Tryz.f169.results.toList).2.1 = zaay x) (hg:zaak init ps x) :
    retR Tryz.prog Tryz.f169 (fun c=>(zaay (zabs init ps c),fun _=>none)) e_ S_:=Xi (enc:=zaay) x he_ h1 hg
theorem zaof (init:List Int) (ps:List Pr)  : PureR Tryz.prog 169 [.st [li cI init,li cR ps]] (fun c=>zaay (zabs init ps c)):=by
  refine PureR.of_walk Tryz.func169 rfl (by simp [Tryz.f169]) (fun c=>by simp [-zd,go_sem]) fun B hK=>?_
  (repeat' (first
 | refine Qt ?_
 | refine Qc (id:=0) zapg [] (by kernel_rfl) ?_;simp [-zg,-zd,↓Qb,↓Qa,go_sem];try (refine Xh hK 1 ?_;simp [go_sem])
 | refine Qc (id:=1) zapg [] (by kernel_rfl) ?_;simp [-zg,-zd,↓Qb,↓Qa,go_sem];try (intro c1;have h1:=SystemValid_ok init ps c1;(generalize zabh init ps c1 = z1 at *);(simp only [Uc] at h1))
 | refine Qc (id:=2) zapg [] (by kernel_rfl) ?_;simp [-zg,-zd,↓Qb,↓Qa,go_sem];try ((refine AW_boxNil0 2 rfl ?_);(refine AW_boxNil1 2 rfl ?_))
 | (have hS:=h1 (by simpa using c6);have hp3:=hS.2.2.1;have hvl:=hS.1.1);refine Xn (id:=3) zapg mixed [] [1] (by kernel_rfl) (by kernel_rfl) ?_ ?_ <;> simp [-zg,-zd,↓Qb,↓Qa,go_sem,make_cI,(show 8 * (ps.length:Int) ≤ 281474976710656 by omega),(show (ps.length:Int) ≤ 9223372036854775807 by omega),(show init.length ≤ 9223372036854775807 by omega),(show 2 * init.length * 8 ≤ 281474976710656 by omega)]
 | refine Qj (c:=.tmp 6) ?_;simp [-zg,-zd,↓Qb,↓Qa,go_sem];try first | (refine ⟨?_,?_⟩ <;> refine zA ?_) | (refine ⟨fun c6=>?_,fun c6=>?_⟩ <;> (try simp [B_iff,B_not] at c6))
 | (refine Qe ?_)
 | (refine Qs ?_;simp [-zg,-zd,↓Qb,↓Qa,go_sem])
 | (refine Qr ?_;simp [-zg,-zd,↓Qb,↓Qa,go_sem])
 | (refine Qq ?_;try simp [-zg,-zd,↓Qb,↓Qa,go_sem,Tryz.results169])
 | (intro hx;refine zA ?_)
 | (intro hx;change retR _ _ _ _ _)
 | (refine ⟨?_,?_⟩ <;> refine zA ?_)
 | (intro hx;constructor <;> intro hs)
 | (constructor <;> intro hs)
 | (refine ⟨?_,fun hs=>?_⟩;refine zA ?_)
 | (refine ⟨fun hs=>?_,?_⟩;rotate_left;refine zA ?_;rotate_left)))
  all_goals (first
 | (refine zait _ _ (((([],[]),false):StB)) ?_ ?_ ?_;(first | exact Or.inl rfl | exact Or.inr rfl);(focus (simp [-zg,-zd,↓Qb,↓Qa,go_sem,Tryz.results169];done));(focus ((simp [zaak]);done)))
 | (refine zait _ _ ((((zrP ps.length 0,init),true):StB)) ?_ ?_ ?_;(first | exact Or.inl rfl | exact Or.inr rfl);(focus (simp [-zg,-zd,↓Qb,↓Qa,go_sem,Tryz.results169,make_cI];done));(focus ((exact ⟨fun _=>⟨hS,by simp,hS.1⟩,fun h=>by cases h⟩);done)))
 | skip)
@[go_sem] def zaiu:Con:=.prel fun
  | [.st [.list n_init c_init,.list n_ps c_ps]]=>((Is cI n_init c_init) ∧ (Is cR n_ps c_ps),fun c=>zaay (zabs (de cI c_init) (de cR c_ps) c))
  | _=>(False,fun _=>.any)
theorem zasm:ConOk Tryz.prog 169 zaiu:=by
  refine ⟨Qo Tryz.func169 (by decide) rfl,fun args h=>?_⟩
  revert h
  dsimp only
  split
  · intro h
    obtain ⟨⟨init,rfl,rfl⟩,⟨ps,rfl,rfl⟩⟩:=h
    try simp only [Qm] at *
    exact ⟨zaof init ps ,fun c=>by simp [go_sem]⟩
  · intro h
    exact h.elim
@[go_sem] def Γe14:FuncId → Con:=ext Γe13 169 zaiu
theorem Γe14_ok:∀ g,ConOk Tryz.prog g (Γe14 g):=Qn zapg zasm

def EdgeAt (ps:List Pr) (p e:Int):Prop:=0 ≤ p ∧ p < ps.length ∧ 0 ≤ e ∧ e < (nth ps p.toNat).es.length
theorem SysOk.edge {init:List Int} {ps:List Pr} (h:SysOk init ps) {p e:Int} (k:EdgeAt ps p e):EdOk (nth (nth ps p.toNat).es e.toNat) (nth ps p.toNat).loc:=by
  obtain ⟨k1,k2,k3,k4⟩:=k
  exact (h.2.2.2 p.toNat (by omega)).2.2.2 e.toNat (by omega)
theorem ExprOk.well {t:Tree} (h:ExprOk t):Well t:=⟨6,h.1⟩

@[go_sem] def Yc:Bool → D:=fun x=>.bool x
def zafe (init:List Int) (ps:List Pr) (lo:List Int) (va:List Int) (p:Int) (e:Int):Bool → Prop:=fun _=>True
def zajf (init:List Int) (ps:List Pr) (lo:List Int) (va:List Int) (p:Int) (e:Int) (c:Any):Bool:=sel (zafe init ps lo va p e) (false) c
theorem l3Ready_ret (init:List Int) (ps:List Pr) (lo:List Int) (va:List Int) (p:Int) (e:Int) {e_:Exit} {S_:St} (x:Bool) (he_:e_ = .ret ∨ e_ = .normal)
    (h1:(Qd Tryz.prog S_ Tryz.f190.results.toList).1 ∧ resD (Qd Tryz.prog S_ Tryz.f190.results.toList).2.1 = Yc x) (hg:zafe init ps lo va p e x) :
    retR Tryz.prog Tryz.f190 (fun c=>(Yc (zajf init ps lo va p e c),fun _=>none)) e_ S_:=Xi (enc:=Yc) x he_ h1 hg
theorem zarg (init:List Int) (ps:List Pr) (lo:List Int) (va:List Int) (p:Int) (e:Int) {e_:Exit} {S_:St} (he_:e_ = .ret ∨ e_ = .normal)
    (h:∃ x,(Qd Tryz.prog S_ Tryz.f190.results.toList).1 ∧ resD (Qd Tryz.prog S_ Tryz.f190.results.toList).2.1 = Yc x ∧ zafe init ps lo va p e x) :
    retR Tryz.prog Tryz.f190 (fun c=>(Yc (zajf init ps lo va p e c),fun _=>none)) e_ S_:=by
  obtain ⟨x,h1,h2,h3⟩:=h
  exact l3Ready_ret _ _ _ _ _ _ x he_ ⟨h1,h2⟩ h3
theorem l3Ready_pure (init:List Int) (ps:List Pr) (lo:List Int) (va:List Int) (p:Int) (e:Int) (hS:SysOk init ps) (hT:StF ps lo va) (hE:EdgeAt ps p e):PureR Tryz.prog 190 [.st [li cI init,li cR ps],.st [li cI lo,li cI va],.int .i64 p,.int .i64 e] (fun c=>Yc (zajf init ps lo va p e c)):=by
  refine PureR.of_walk Tryz.func190 rfl (by simp [Tryz.f190]) (fun c=>by simp [-zd,go_sem]) fun B hK=>?_
  obtain ⟨k1,k2,k3,k4⟩:=hE;have hO:=hS.edge ⟨k1,k2,k3,k4⟩;have hW:=hO.2.2.2.2.2.1.well;obtain ⟨t1,t2⟩:=hT;have kp:p.toNat < ps.length:=(by omega);have ke:e.toNat < (nth ps p.toNat).es.length:=(by omega)
  all_goals (repeat' (first
 | refine Qt ?_
 | refine Qc (id:=0) Γe14_ok [] (by kernel_rfl) ?_;simp [-zg,-zd,↓Qb,↓Qa,go_sem];try (refine Xh hK 4 ?_;refine Xh hK 5 ?_;simp [go_sem])
 | refine Qc (id:=1) Γe14_ok [] (by kernel_rfl) ?_;simp [-zg,-zd,↓Qb,↓Qa,go_sem,k1,k2,k3,k4,kp,Qk kp,zsP kp,ke,Qk ke,zsP ke];try ((generalize hx:nth (nth ps p.toNat).es e.toNat = x at *);(refine Xh hK 9 ?_);(simp [go_sem]))
 | refine Xn (id:=2) Γe14_ok mixed [27] [] (by kernel_rfl) (by kernel_rfl) ?_ ?_ <;> simp [-zg,-zd,↓Qb,↓Qa,go_sem,k1,(show p < (lo.length:Int) by omega),(show p.toNat < lo.length by omega),Qk (show p.toNat < lo.length by omega),zsP (show p.toNat < lo.length by omega),Tree.eta,hW,t2];try (refine ⟨fun s2a=>?_,fun s2a=>?_⟩ <;> (try simp [B_iff,B_not] at s2a) <;> try (refine ⟨fun s2b=>?_,fun s2b=>?_⟩ <;> (try simp [B_iff,B_not] at s2b)))
 | (refine Qe ?_)
 | (refine Qs ?_;simp [-zg,-zd,↓Qb,↓Qa,go_sem])
 | (refine Qr ?_;simp [-zg,-zd,↓Qb,↓Qa,go_sem])
 | (refine Qq ?_;try simp [-zg,-zd,↓Qb,↓Qa,go_sem,Tryz.results190])
 | (intro hx;refine zA ?_)
 | (intro hx;change retR _ _ _ _ _)
 | (refine ⟨?_,?_⟩ <;> refine zA ?_)
 | (intro hx;constructor <;> intro hs)
 | (constructor <;> intro hs)
 | (refine ⟨?_,fun hs=>?_⟩;refine zA ?_)
 | (refine ⟨fun hs=>?_,?_⟩;rotate_left;refine zA ?_;rotate_left)))
  all_goals (first
 | (refine zarg _ _ _ _ _ _ ?_ ?_;(first | exact Or.inl rfl | exact Or.inr rfl);(simp [-zg,-zd,↓Qb,↓Qa,go_sem,Tryz.results190,zafe]);((first | trivial | exact Classical.em _ | exact (Classical.em _).symm);done))
 | (refine zarg _ _ _ _ _ _ ?_ ?_;(first | exact Or.inl rfl | exact Or.inr rfl);(simp [-zg,-zd,↓Qb,↓Qa,go_sem,Tryz.results190,zafe];done))
 | skip)
@[go_sem] def l3ReadyC:Con:=.prel fun
  | [.st [.list n_init c_init,.list n_ps c_ps],.st [.list n_lo c_lo,.list n_va c_va],.int .i64 p,.int .i64 e]=>((Is cI n_init c_init) ∧ (Is cR n_ps c_ps) ∧ (Is cI n_lo c_lo) ∧ (Is cI n_va c_va) ∧ (SysOk (de cI c_init) (de cR c_ps)) ∧ (StF (de cR c_ps) (de cI c_lo) (de cI c_va)) ∧ (EdgeAt (de cR c_ps) p e),fun c=>Yc (zajf (de cI c_init) (de cR c_ps) (de cI c_lo) (de cI c_va) p e c))
  | _=>(False,fun _=>.any)
theorem l3ReadyC_ok:ConOk Tryz.prog 190 l3ReadyC:=by
  refine ⟨Qo Tryz.func190 (by decide) rfl,fun args h=>?_⟩
  revert h
  dsimp only
  split
  · intro h
    obtain ⟨⟨init,rfl,rfl⟩,⟨ps,rfl,rfl⟩,⟨lo,rfl,rfl⟩,⟨va,rfl,rfl⟩,hS,hT,hE⟩:=h
    try simp only [Qm] at *
    exact ⟨l3Ready_pure init ps lo va _ _ hS hT hE,fun c=>by simp [go_sem]⟩
  · intro h
    exact h.elim
@[go_sem] def Γe15:FuncId → Con:=ext Γe14 190 l3ReadyC
theorem Wd:∀ g,ConOk Tryz.prog g (Γe15 g):=Qn Γe14_ok l3ReadyC_ok

def StepF (ps:List Pr) (t:Tr4):Prop:=EdgeAt ps t.1 t.2.1 ∧ (0 ≤ t.2.2.1 → EdgeAt ps t.2.2.1 t.2.2.2)
def StepsF (ps:List Pr) (m:Nat) (xs:List Tr4):Prop:=xs.length ≤ m ∧ ∀ x ∈ xs,StepF ps x
theorem StepsF.snoc {ps:List Pr} {m n:Nat} {xs:List Tr4} {x:Tr4} (h:StepsF ps m xs) (k:StepF ps x) (hn:m + 1 ≤ n):StepsF ps n (xs ++ [x]):=by
  refine ⟨by have:=h.1;simp;omega,fun y hy=>?_⟩
  rcases List.mem_append.1 hy with q | q
  · exact h.2 y q
  · simp at q;subst q;exact k
theorem StepsF.app {ps:List Pr} {m m' n:Nat} {xs ys:List Tr4} (h:StepsF ps m xs) (k:StepsF ps m' ys) (hn:m + m' ≤ n):StepsF ps n (xs ++ ys):=by
  refine ⟨by have:=h.1;have:=k.1;simp;omega,fun y hy=>?_⟩
  rcases List.mem_append.1 hy with q | q
  · exact h.2 y q
  · exact k.2 y q
theorem StepsF.mono {ps:List Pr} {m n:Nat} {xs:List Tr4} (h:StepsF ps m xs) (hn:m ≤ n):StepsF ps n xs:=⟨Nat.le_trans h.1 hn,h.2⟩
theorem snoc_cT (xs:List Tr4) (a b c d:Int):cat cT xs ++ [.int .i64 a,.int .i64 b,.int .i64 c,.int .i64 d] = cat cT (xs ++ [(a,b,c,d)]):=by rw [Xk,Xg];rfl
theorem EdgeAt.mk' {ps:List Pr} {i k:Nat} (h:i < ps.length) (h2:k < (nth ps i).es.length):EdgeAt ps i k:=⟨by omega,by omega,by omega,by rw [Int.toNat_natCast];omega⟩
set_option maxHeartbeats 1000000 in

@[go_sem] def zabv:List Tr4 → D:=fun x=>fr 4 cT x
def zabg (init:List Int) (ps:List Pr) (lo:List Int) (va:List Int) (p:Int) (e:Int):List Tr4 → Prop:=fun xs=>StepsF ps 18 xs
def Ws (init:List Int) (ps:List Pr) (lo:List Int) (va:List Int) (p:Int) (e:Int) (c:Any):List Tr4:=sel (zabg init ps lo va p e) ([]) c
theorem l3Partners_ok (init:List Int) (ps:List Pr) (lo:List Int) (va:List Int) (p:Int) (e:Int) (hS:SysOk init ps) (hT:StF ps lo va) (hE:EdgeAt ps p e) (c:Any):zabg init ps lo va p e (Ws init ps lo va p e c):=Xl (p:=zabg init ps lo va p e) (x0:=[]) (by simp [zabg,StepsF]) c
theorem l3Partners_ret (init:List Int) (ps:List Pr) (lo:List Int) (va:List Int) (p:Int) (e:Int) {e_:Exit} {S_:St} (x:List Tr4) (he_:e_ = .ret ∨ e_ = .normal)
    (h1:(Qd Tryz.prog S_ Tryz.f191.results.toList).1 ∧ resD (Qd Tryz.prog S_ Tryz.f191.results.toList).2.1 = zabv x) (hg:zabg init ps lo va p e x) :
    retR Tryz.prog Tryz.f191 (fun c=>(zabv (Ws init ps lo va p e c),fun _=>none)) e_ S_:=Xi (enc:=zabv) x he_ h1 hg
theorem zatc (init:List Int) (ps:List Pr) (lo:List Int) (va:List Int) (p:Int) (e:Int) (hS:SysOk init ps) (hT:StF ps lo va) (hE:EdgeAt ps p e):PureR Tryz.prog 191 [.st [li cI init,li cR ps],.st [li cI lo,li cI va],.int .i64 p,.int .i64 e] (fun c=>zabv (Ws init ps lo va p e c)):=by
  refine PureR.of_walk Tryz.func191 rfl (by simp [Tryz.f191]) (fun c=>by simp [-zd,go_sem]) fun B hK=>?_
  obtain ⟨k1,k2,k3,k4⟩:=hE;have kp:p.toNat < ps.length:=(by omega);have ke:e.toNat < (nth ps p.toNat).es.length:=(by omega);have hp3:=hS.2.2.1;have he6:∀ i,i < ps.length → (nth ps i).es.length ≤ 6:=(fun i hi=>(hS.2.2.2 i hi).2.2.1)
  all_goals (repeat' (first
 | refine Qt ?_
 | refine Qc (id:=0) Wd [] (by kernel_rfl) ?_;simp [-zg,-zd,↓Qb,↓Qa,go_sem];try (refine Xh hK 4 ?_;refine Xh hK 5 ?_;simp [go_sem])
 | refine Qc (id:=2) Wd [] (by kernel_rfl) ?_;simp [-zg,-zd,↓Qb,↓Qa,go_sem,k1,k2,k3,k4,kp,Qk kp,zsP kp,ke,Qk ke,zsP ke];try ((generalize (nth (nth ps p.toNat).es e.toNat).sy = chn))
 | refine Qc (id:=7) Wd [] (by kernel_rfl) ?_;simp [-zg,-zd,↓Qb,↓Qa,go_sem,c28,Qk c28,zsP c28]
 | (have hEA:=EdgeAt.mk' c28 c39);refine Qc (id:=9) Wd [45,60] (by kernel_rfl) ?_;simp [-zg,-zd,↓Qb,↓Qa,go_sem,c28,Qk c28,zsP c28,c39,Qk c39,zsP c39,hS,hT,hEA];try (refine ⟨fun s9a=>?_,fun s9a=>?_⟩ <;> (try simp [B_iff,B_not] at s9a) <;> try (refine ⟨fun s9b=>?_,fun s9b=>?_⟩ <;> (try simp [B_iff,B_not] at s9b) <;> try (refine ⟨fun s9c=>?_,fun s9c=>?_⟩ <;> (try simp [B_iff,B_not] at s9c))))
 | refine Qc (id:=10) Wd [] (by kernel_rfl) ?_;simp [-zg,-zd,↓Qb,↓Qa,go_sem,(show r.2.length + 1 ≤ 9223372036854775807 by omega),(show 2 * (r.2.length + 1) * 32 ≤ 281474976710656 by omega),snoc_cT]
 | refine Qc (id:=8) Wd [] (by kernel_rfl) ?_;simp [-zg,-zd,↓Qb,↓Qa,go_sem,wrapS (k:=r.1) (by omega)]
 | refine Qc (id:=5) Wd [] (by kernel_rfl) ?_;simp [-zg,-zd,↓Qb,↓Qa,go_sem,wrapS (k:=q.1) (by omega)]
 | refine Qj (c:=.tmp 28) ?_;simp [-zg,-zd,↓Qb,↓Qa,go_sem];try first | (refine ⟨?_,?_⟩ <;> refine zA ?_) | (refine ⟨fun c28=>?_,fun c28=>?_⟩ <;> (try simp [B_iff,B_not] at c28))
 | refine Qj (c:=.tmp 39) ?_;simp [-zg,-zd,↓Qb,↓Qa,go_sem];try first | (refine ⟨?_,?_⟩ <;> refine zA ?_) | (refine ⟨fun c39=>?_,fun c39=>?_⟩ <;> (try simp [B_iff,B_not] at c39))
 | (refine Qe (id:=0) (Qw (ι:=Nat × List Tr4) (fun q:Nat × List Tr4=>⟨(upd (upd (upd (upd (upd (upd (upd (fun _=>.any) 2 (.int .i64 p)) 3 (.int .i64 e)) 4 (.pd [li cI init,li cR ps])) 5 (.pd [li cI lo,li cI va])) 9 (.fr 4 q.2.length (cat cT q.2))) 10 (.int .i64 chn)) 11 (.int .i64 q.1)),fun _=>none⟩) (fun q=>q.1 ≤ ps.length ∧ StepsF ps (6 * q.1) q.2) (fun q=>ps.length - q.1) ((0,[])) ?_ ?_ ?_);exact ⟨Nat.zero_le _,by simp [StepsF]⟩;((repeat' (first | exact Qg (by assumption) | exact Qi | refine Qf ?_ ?_ | refine Qh ?_)) <;> simp [-zg,-zd,↓Qb,↓Qa,go_sem,cat]);rintro q ⟨g1,g2⟩)
 | (refine ⟨(q.1 + 1,r.2),⟨by dsimp only;omega,r2.mono (by dsimp only;omega)⟩,by first | omega | (simp;done) | (simp;omega),?_⟩;((repeat' (first | exact Qg (by assumption) | exact Qi | refine Qf ?_ ?_ | refine Qh ?_)) <;> simp [-zg,-zd,↓Qb,↓Qa,go_sem,cat]);done)
 | (refine Qe (id:=2) (Qw (ι:=Nat × List Tr4) (fun r:Nat × List Tr4=>⟨(upd (upd (upd (upd (upd (upd (upd (upd (fun _=>.any) 2 (.int .i64 p)) 3 (.int .i64 e)) 4 (.pd [li cI init,li cR ps])) 5 (.pd [li cI lo,li cI va])) 9 (.fr 4 r.2.length (cat cT r.2))) 10 (.int .i64 chn)) 11 (.int .i64 q.1)) 12 (.int .i64 r.1)),fun _=>none⟩) (fun r=>r.1 ≤ (nth ps q.1).es.length ∧ StepsF ps (6 * q.1 + r.1) r.2) (fun r=>(nth ps q.1).es.length - r.1) ((0,q.2)) ?_ ?_ ?_);exact ⟨Nat.zero_le _,g2⟩;((repeat' (first | exact Qg (by assumption) | exact Qi | refine Qf ?_ ?_ | refine Qh ?_)) <;> simp [-zg,-zd,↓Qb,↓Qa,go_sem,cat]);rintro r ⟨r1,r2⟩;have r3:=he6 q.1 c28;have r4:=r2.1)
 | (refine ⟨(r.1 + 1,r.2 ++ [((p,e,(q.1:Int),(r.1:Int)):Tr4)]),⟨by dsimp only;omega,r2.snoc ⟨⟨k1,k2,k3,k4⟩,fun _=>EdgeAt.mk' c28 c39⟩ (by dsimp only;omega)⟩,by first | omega | (simp;done) | (simp;omega),?_⟩;((repeat' (first | exact Qg (by assumption) | exact Qi | refine Qf ?_ ?_ | refine Qh ?_)) <;> simp [-zg,-zd,↓Qb,↓Qa,go_sem,snoc_cT]);done)
 | (refine Qe ?_)
 | (refine Qs ?_;simp [-zg,-zd,↓Qb,↓Qa,go_sem])
 | (refine Qr ?_;simp [-zg,-zd,↓Qb,↓Qa,go_sem])
 | (refine Qq ?_;try simp [-zg,-zd,↓Qb,↓Qa,go_sem,Tryz.results191])
 | (intro hx;refine zA ?_)
 | (intro hx;change retR _ _ _ _ _)
 | (refine ⟨?_,?_⟩ <;> refine zA ?_)
 | (intro hx;constructor <;> intro hs)
 | (constructor <;> intro hs)
 | (refine ⟨?_,fun hs=>?_⟩;refine zA ?_)
 | (refine ⟨fun hs=>?_,?_⟩;rotate_left;refine zA ?_;rotate_left)
 | ((fail_if_success change retR _ _ _ _ _);(refine ⟨(r.1 + 1,r.2),⟨by dsimp only;omega,r2.mono (by dsimp only;omega)⟩,by dsimp only;omega,?_⟩;((repeat' (first | exact Qg (by assumption) | exact Qi | refine Qf ?_ ?_ | refine Qh ?_)) <;> simp [-zg,-zd,go_sem])))
 | (refine Qj ?_;simp [-zg,-zd,↓Qb,↓Qa,go_sem];try first | (refine ⟨?_,?_⟩ <;> refine zA ?_) | (refine ⟨fun cz=>?_,fun cz=>?_⟩ <;> (try simp [B_iff,B_not] at cz)))
 | (refine Qc Wd [] (by kernel_rfl) ?_;simp [-zg,-zd,↓Qb,↓Qa,go_sem])
 | fail))
  all_goals (first
 | (refine l3Partners_ret _ _ _ _ _ _ ((q.2)) ?_ ?_ ?_;(first | exact Or.inl rfl | exact Or.inr rfl);(focus (simp [-zg,-zd,↓Qb,↓Qa,go_sem,Tryz.results191];done));(focus ((exact g2.mono (by omega));done)))
 | skip)
@[go_sem] def zamx:Con:=.prel fun
  | [.st [.list n_init c_init,.list n_ps c_ps],.st [.list n_lo c_lo,.list n_va c_va],.int .i64 p,.int .i64 e]=>((Is cI n_init c_init) ∧ (Is cR n_ps c_ps) ∧ (Is cI n_lo c_lo) ∧ (Is cI n_va c_va) ∧ (SysOk (de cI c_init) (de cR c_ps)) ∧ (StF (de cR c_ps) (de cI c_lo) (de cI c_va)) ∧ (EdgeAt (de cR c_ps) p e),fun c=>zabv (Ws (de cI c_init) (de cR c_ps) (de cI c_lo) (de cI c_va) p e c))
  | _=>(False,fun _=>.any)
theorem l3PartnersC_ok:ConOk Tryz.prog 191 zamx:=by
  refine ⟨Qo Tryz.func191 (by decide) rfl,fun args h=>?_⟩
  revert h
  dsimp only
  split
  · intro h
    obtain ⟨⟨init,rfl,rfl⟩,⟨ps,rfl,rfl⟩,⟨lo,rfl,rfl⟩,⟨va,rfl,rfl⟩,hS,hT,hE⟩:=h
    try simp only [Qm] at *
    exact ⟨zatc init ps lo va _ _ hS hT hE,fun c=>by simp [go_sem]⟩
  · intro h
    exact h.elim
@[go_sem] def Γe16:FuncId → Con:=ext Γe15 191 zamx
theorem Vu:∀ g,ConOk Tryz.prog g (Γe16 g):=Qn Wd l3PartnersC_ok


set_option maxHeartbeats 1000000 in

@[go_sem] def zaeu:List Tr4 → D:=fun x=>fr 4 cT x
def zadt (init:List Int) (ps:List Pr) (lo:List Int) (va:List Int):List Tr4 → Prop:=fun xs=>StepsF ps 324 xs
def zagm (init:List Int) (ps:List Pr) (lo:List Int) (va:List Int) (c:Any):List Tr4:=sel (zadt init ps lo va) ([]) c
theorem l3Steps_ok (init:List Int) (ps:List Pr) (lo:List Int) (va:List Int) (hS:SysOk init ps) (hT:StF ps lo va) (c:Any):zadt init ps lo va (zagm init ps lo va c):=Xl (p:=zadt init ps lo va) (x0:=[]) (by simp [zadt,StepsF]) c
theorem l3Steps_ret (init:List Int) (ps:List Pr) (lo:List Int) (va:List Int) {e_:Exit} {S_:St} (x:List Tr4) (he_:e_ = .ret ∨ e_ = .normal)
    (h1:(Qd Tryz.prog S_ Tryz.f170.results.toList).1 ∧ resD (Qd Tryz.prog S_ Tryz.f170.results.toList).2.1 = zaeu x) (hg:zadt init ps lo va x) :
    retR Tryz.prog Tryz.f170 (fun c=>(zaeu (zagm init ps lo va c),fun _=>none)) e_ S_:=Xi (enc:=zaeu) x he_ h1 hg
theorem l3Steps_pure (init:List Int) (ps:List Pr) (lo:List Int) (va:List Int) (hS:SysOk init ps) (hT:StF ps lo va):PureR Tryz.prog 170 [.st [li cI init,li cR ps],.st [li cI lo,li cI va]] (fun c=>zaeu (zagm init ps lo va c)):=by
  refine PureR.of_walk Tryz.func170 rfl (by simp [Tryz.f170]) (fun c=>by simp [-zd,go_sem]) fun B hK=>?_
  have hp3:=hS.2.2.1;have he6:∀ i,i < ps.length → (nth ps i).es.length ≤ 6:=(fun i hi=>(hS.2.2.2 i hi).2.2.1)
  all_goals (repeat' (first
 | refine Qt ?_
 | refine Qc (id:=0) Vu [] (by kernel_rfl) ?_;simp [-zg,-zd,↓Qb,↓Qa,go_sem];try (refine Xh hK 2 ?_;refine Xh hK 3 ?_;simp [go_sem])
 | refine Qc (id:=6) Vu [] (by kernel_rfl) ?_;simp [-zg,-zd,↓Qb,↓Qa,go_sem,c14,Qk c14,zsP c14]
 | (have hEA:=EdgeAt.mk' c14 c25);refine Qc (id:=8) Vu [] (by kernel_rfl) ?_;simp [-zg,-zd,↓Qb,↓Qa,go_sem,c14,Qk c14,zsP c14,c25,Qk c25,zsP c25];try ((generalize (nth (nth ps q.1).es r.1).sy = sy))
 | refine Qc (id:=9) Vu [40] (by kernel_rfl) ?_;simp [-zg,-zd,↓Qb,↓Qa,go_sem,hS,hT,hEA];try (refine ⟨fun s9a=>?_,fun s9a=>?_⟩ <;> (try simp [B_iff,B_not] at s9a) <;> try (refine ⟨fun s9b=>?_,fun s9b=>?_⟩ <;> (try simp [B_iff,B_not] at s9b)))
 | refine Qc (id:=11) Vu [] (by kernel_rfl) ?_;simp [-zg,-zd,↓Qb,↓Qa,go_sem,(show r.2.length + 1 ≤ 9223372036854775807 by omega),(show 2 * (r.2.length + 1) * 32 ≤ 281474976710656 by omega),snoc_cT]
 | (have hql:=l3Partners_ok init ps lo va q.1 r.1 hS hT hEA);refine Qc (id:=12) Vu [] (by kernel_rfl) ?_;simp [-zg,-zd,↓Qb,↓Qa,go_sem,hS,hT,hEA,(fun c=>(show (Ws init ps lo va q.1 r.1 c).length ≤ 18 from (hql c).1)),(fun c=>(show r.2.length + (Ws init ps lo va q.1 r.1 c).length ≤ 9223372036854775807 by have:=(hql c).1;omega)),(fun c=>(show 2 * (r.2.length + (Ws init ps lo va q.1 r.1 c).length) * 32 ≤ 281474976710656 by have:=(hql c).1;omega))];try (intro c12;have h12:=hql c12;(generalize Ws init ps lo va q.1 r.1 c12 = z12 at *);(simp only [zabg] at h12))
 | refine Qc (id:=7) Vu [] (by kernel_rfl) ?_;simp [-zg,-zd,↓Qb,↓Qa,go_sem,wrapS (k:=r.1) (by omega)]
 | refine Qc (id:=4) Vu [] (by kernel_rfl) ?_;simp [-zg,-zd,↓Qb,↓Qa,go_sem,wrapS (k:=q.1) (by omega)]
 | refine Qj (c:=.tmp 14) ?_;simp [-zg,-zd,↓Qb,↓Qa,go_sem];try first | (refine ⟨?_,?_⟩ <;> refine zA ?_) | (refine ⟨fun c14=>?_,fun c14=>?_⟩ <;> (try simp [B_iff,B_not] at c14))
 | refine Qj (c:=.tmp 25) ?_;simp [-zg,-zd,↓Qb,↓Qa,go_sem];try first | (refine ⟨?_,?_⟩ <;> refine zA ?_) | (refine ⟨fun c25=>?_,fun c25=>?_⟩ <;> (try simp [B_iff,B_not] at c25))
 | (refine Qe (id:=0) (Qw (ι:=Nat × List Tr4) (fun q:Nat × List Tr4=>⟨(upd (upd (upd (upd (fun _=>.any) 2 (.pd [li cI init,li cR ps])) 3 (.pd [li cI lo,li cI va])) 5 (.fr 4 q.2.length (cat cT q.2))) 6 (.int .i64 q.1)),fun _=>none⟩) (fun q=>q.1 ≤ ps.length ∧ StepsF ps (108 * q.1) q.2) (fun q=>ps.length - q.1) ((0,[])) ?_ ?_ ?_);exact ⟨Nat.zero_le _,by simp [StepsF]⟩;((repeat' (first | exact Qg (by assumption) | exact Qi | refine Qf ?_ ?_ | refine Qh ?_)) <;> simp [-zg,-zd,↓Qb,↓Qa,go_sem,cat]);rintro q ⟨g1,g2⟩)
 | (refine ⟨(q.1 + 1,r.2),⟨by dsimp only;omega,r2.mono (by dsimp only;omega)⟩,by first | omega | (simp;done) | (simp;omega),?_⟩;((repeat' (first | exact Qg (by assumption) | exact Qi | refine Qf ?_ ?_ | refine Qh ?_)) <;> simp [-zg,-zd,↓Qb,↓Qa,go_sem,cat]);done)
 | (refine Qe (id:=2) (Qw (ι:=Nat × List Tr4) (fun r:Nat × List Tr4=>⟨(upd (upd (upd (upd (upd (fun _=>.any) 2 (.pd [li cI init,li cR ps])) 3 (.pd [li cI lo,li cI va])) 5 (.fr 4 r.2.length (cat cT r.2))) 6 (.int .i64 q.1)) 7 (.int .i64 r.1)),fun _=>none⟩) (fun r=>r.1 ≤ (nth ps q.1).es.length ∧ StepsF ps (108 * q.1 + 18 * r.1) r.2) (fun r=>(nth ps q.1).es.length - r.1) ((0,q.2)) ?_ ?_ ?_);exact ⟨Nat.zero_le _,g2⟩;((repeat' (first | exact Qg (by assumption) | exact Qi | refine Qf ?_ ?_ | refine Qh ?_)) <;> simp [-zg,-zd,↓Qb,↓Qa,go_sem,cat]);rintro r ⟨r1,r2⟩;have r3:=he6 q.1 c14;have r4:=r2.1)
 | (refine ⟨(r.1 + 1,r.2 ++ z12),⟨by dsimp only;omega,r2.app h12 (by dsimp only;omega)⟩,by first | omega | (simp;done) | (simp;omega),?_⟩;((repeat' (first | exact Qg (by assumption) | exact Qi | refine Qf ?_ ?_ | refine Qh ?_)) <;> simp [-zg,-zd,↓Qb,↓Qa,go_sem,Xk]);done)
 | (refine Qe ?_)
 | (refine Qs ?_;simp [-zg,-zd,↓Qb,↓Qa,go_sem])
 | (refine Qr ?_;simp [-zg,-zd,↓Qb,↓Qa,go_sem])
 | (refine Qq ?_;try simp [-zg,-zd,↓Qb,↓Qa,go_sem,Tryz.results170])
 | (intro hx;refine zA ?_)
 | (intro hx;change retR _ _ _ _ _)
 | (refine ⟨?_,?_⟩ <;> refine zA ?_)
 | (intro hx;constructor <;> intro hs)
 | (constructor <;> intro hs)
 | (refine ⟨?_,fun hs=>?_⟩;refine zA ?_)
 | (refine ⟨fun hs=>?_,?_⟩;rotate_left;refine zA ?_;rotate_left)
 | ((fail_if_success change retR _ _ _ _ _);(refine ⟨(r.1 + 1,r.2 ++ [(((q.1:Int),(r.1:Int),-1,-1):Tr4)]),⟨by dsimp only;omega,r2.snoc ⟨hEA,fun h=>by simp at h⟩ (by dsimp only;omega)⟩,by dsimp only;omega,?_⟩;((repeat' (first | exact Qg (by assumption) | exact Qi | refine Qf ?_ ?_ | refine Qh ?_)) <;> simp [-zg,-zd,go_sem]);done))
 | ((fail_if_success change retR _ _ _ _ _);(refine ⟨(r.1 + 1,r.2),⟨by dsimp only;omega,r2.mono (by dsimp only;omega)⟩,by dsimp only;omega,?_⟩;((repeat' (first | exact Qg (by assumption) | exact Qi | refine Qf ?_ ?_ | refine Qh ?_)) <;> simp [-zg,-zd,go_sem])))
 | (refine Qj ?_;simp [-zg,-zd,↓Qb,↓Qa,go_sem];try first | (refine ⟨?_,?_⟩ <;> refine zA ?_) | (refine ⟨fun cz=>?_,fun cz=>?_⟩ <;> (try simp [B_iff,B_not] at cz)))
 | (refine Qc Vu [] (by kernel_rfl) ?_;simp [-zg,-zd,↓Qb,↓Qa,go_sem])
 | fail))
  all_goals (first
 | (refine l3Steps_ret _ _ _ _ ((q.2)) ?_ ?_ ?_;(first | exact Or.inl rfl | exact Or.inr rfl);(focus (simp [-zg,-zd,↓Qb,↓Qa,go_sem,Tryz.results170];done));(focus ((exact g2.mono (by omega));done)))
 | skip)
@[go_sem] def l3StepsC:Con:=.prel fun
  | [.st [.list n_init c_init,.list n_ps c_ps],.st [.list n_lo c_lo,.list n_va c_va]]=>((Is cI n_init c_init) ∧ (Is cR n_ps c_ps) ∧ (Is cI n_lo c_lo) ∧ (Is cI n_va c_va) ∧ (SysOk (de cI c_init) (de cR c_ps)) ∧ (StF (de cR c_ps) (de cI c_lo) (de cI c_va)),fun c=>zaeu (zagm (de cI c_init) (de cR c_ps) (de cI c_lo) (de cI c_va) c))
  | _=>(False,fun _=>.any)
theorem l3StepsC_ok:ConOk Tryz.prog 170 l3StepsC:=by
  refine ⟨Qo Tryz.func170 (by decide) rfl,fun args h=>?_⟩
  revert h
  dsimp only
  split
  · intro h
    obtain ⟨⟨init,rfl,rfl⟩,⟨ps,rfl,rfl⟩,⟨lo,rfl,rfl⟩,⟨va,rfl,rfl⟩,hS,hT⟩:=h
    try simp only [Qm] at *
    exact ⟨l3Steps_pure init ps lo va hS hT,fun c=>by simp [go_sem]⟩
  · intro h
    exact h.elim
@[go_sem] def Γe17:FuncId → Con:=ext Γe16 170 l3StepsC
theorem zamd:∀ g,ConOk Tryz.prog g (Γe17 g):=Qn Vu l3StepsC_ok

theorem ValsOk.set {xs:List Int} (h:ValsOk xs) {k:Nat} {v:Int} (h0:0 ≤ v) (h1:v ≤ 3):ValsOk (xs.set k v):=by
  refine ⟨by rw [List.length_set];exact h.1,fun i hi=>?_⟩
  rw [List.length_set] at hi
  by_cases e:k = i
  · subst e;rw [zacd hi];exact ⟨h0,h1⟩
  · rw [Uv e];exact h.2 i hi
theorem ret_own {P:Program} {fn:Func} {e:Exit} {S:St} {α:Type} {good:α → Prop} {x0:α} {r:D} {K:α → Hp} (x:α) (he:e = .ret ∨ e = .normal)
    (h1:(Qd P S fn.results.toList).1 ∧ resD (Qd P S fn.results.toList).2.1 = r) (h2:∀ z cs,K x z = some cs → (Qd P S fn.results.toList).2.2.H z = some cs) (hg:good x) :
    retR P fn (fun c=>(r,K (sel good x0 c))) e S:=by
  have key:∃ c:Any,(Qd P S fn.results.toList).1 ∧ resD (Qd P S fn.results.toList).2.1 = r ∧ ∀ z cs,K (sel good x0 c) z = some cs → (Qd P S fn.results.toList).2.2.H z = some cs :=
    ⟨⟨α,x⟩,h1.1,h1.2,by rw [sel_at hg];exact h2⟩
  rcases he with rfl | rfl
  · exact key
  · exact key
def EdgeT (v:Int) (e:Tree):Prop:=v ≤ 2 ∧ (0 ≤ v → Well e)
theorem EdOk.take {x:Ed} {loc:Int} (h:EdOk x loc):EdgeT x.v x.e:=⟨h.2.2.2.2.2.2.2.2.2.1,fun k=>(h.2.2.2.2.2.2.2.2.2.2 k).well⟩
def zapl (va:List Int) (c:Any):List Int:=sel ValsOk va c
set_option maxHeartbeats 1000000 in
theorem l3Take_spec (lo va:List Int) (p fr0 to gk gv:Int) (gs:List Tree) (v ek ev:Int) (es:List Tree) (sy:Int) (x y c1 c2:Nat) (j1 j2:List D) (H:Hp) (h1:H x = some (cat cI lo ++ j1)) (h2:H y = some (cat cI va ++ j2)) (hne:¬ x = y)
    (hp:0 ≤ p) (hp2:p < lo.length) (hv:ValsOk va) (hE:EdgeT v (.mk ek ev es)) :
    SpecR Tryz.prog 192 [.st [.sl x 1 0 lo.length c1,.sl y 1 0 va.length c2],.int .i64 p,.st [.int .i64 fr0,.int .i64 to,.int .i64 gk,.int .i64 gv,li cX gs,.int .i64 v,.int .i64 ek,.int .i64 ev,li cX es,.int .i64 sy]] H
      (fun c=>(.st [.sl x 1 0 lo.length c1,.sl y 1 0 va.length c2],upd (upd H x (some (cat cI (lo.set p.toNat to) ++ j1))) y (some (cat cI (zapl va c) ++ j2)))):=by
  refine SpecR.of_walk Tryz.func192 rfl (by simp [Tryz.f192]) fun B=>?_
  have hpl:p.toNat < lo.length:=by omega
  have hvl:=hv.1
  obtain ⟨hE1,hE2⟩:=hE
  (repeat' (first
 | refine Qt ?_
 | refine Qc (id:=0) zamd [] (by kernel_rfl) ?_;simp [-zg,-zd,↓Qb,↓Qa,go_sem];try ((refine Qy 5 ?_);(refine Xs 3 rfl fun pb hpb=>?_);(have n1:¬ x = pb:=(by rintro rfl;dsimp only at hpb;rw [h1] at hpb;cases hpb));(have n2:¬ y = pb:=(by rintro rfl;dsimp only at hpb;rw [h2] at hpb;cases hpb));(dsimp only at hpb);(simp [go_sem]))
 | refine Qc (id:=1) zamd [] (by kernel_rfl) ?_;simp [-zg,-zd,↓Qb,↓Qa,go_sem,h1,n1,zS n1,hp,hp2,hpl,(show p.toNat < lo.length + j1.length by omega),(show p.toNat + 1 ≤ lo.length + j1.length by omega)]
 | ((have hv0:0 ≤ v:=(by simpa using c15));(have hvt:v.toNat < va.length:=(by omega));have hW:=hE2 hv0);refine Xn (id:=3) zamd mixed [] [5,3] (by kernel_rfl) (by kernel_rfl) ?_ ?_ <;> simp [-zg,-zd,↓Qb,↓Qa,go_sem,h2,n1,n2,zS n1,zS n2,hne,zS hne,hv0,(show v < (va.length:Int) by omega),hvt,hW,hv,(show v.toNat < va.length + j2.length by omega),(show v.toNat + 1 ≤ va.length + j2.length by omega),Zf];try (intro c3;have hz:=zalo ek ev es va hW hv c3;(generalize Jf ek ev es va c3 = z3 at *);(simp only [Uu] at hz))
 | refine Qc (id:=4) zamd [] (by kernel_rfl) ?_;simp [-zg,-zd,↓Qb,↓Qa,go_sem,n1,n2,zS n1,zS n2,hne,zS hne]
 | refine Qj (c:=.tmp 15) ?_;simp [-zg,-zd,↓Qb,↓Qa,go_sem];try first | (refine ⟨?_,?_⟩ <;> refine zA ?_) | (refine ⟨fun c15=>?_,fun c15=>?_⟩ <;> (try simp [B_iff,B_not] at c15))
 | (refine Qe ?_)
 | (refine Qs ?_;simp [-zg,-zd,↓Qb,↓Qa,go_sem])
 | (refine Qr ?_;simp [-zg,-zd,↓Qb,↓Qa,go_sem])
 | (refine Qq ?_;simp [-zg,-zd,↓Qb,↓Qa,go_sem,Tryz.results192])
 | (intro hx;refine zA ?_)
 | (refine ⟨?_,?_⟩ <;> refine zA ?_)
 | (intro hx;constructor <;> intro hs)
 | (constructor <;> intro hs)
 | (refine ⟨?_,fun hs=>?_⟩;refine zA ?_)
 | (refine ⟨fun hs=>?_,?_⟩;rotate_left;refine zA ?_;rotate_left)
 | (refine Qq ?_)
 | (refine Qc zamd [] (by kernel_rfl) ?_;simp [-zg,-zd,↓Qb,↓Qa,go_sem])
 | fail))
  all_goals (first
 | (refine ret_own (good:=ValsOk) (x0:=va) (K:=fun q=>upd (upd H x (some (cat cI (lo.set p.toNat to) ++ j1))) y (some (cat cI q ++ j2))) (va.set v.toNat z3) ?_ ?_ ?_ ?_;(first | exact Or.inl rfl | exact Or.inr rfl);(focus (simp [-zg,-zd,go_sem,Tryz.results192];done));(focus (intro z cs hz;simp only [go_sem,Tryz.results192,Tryz.f192] at hz ⊢;(by_cases e1:z = y <;> by_cases e2:z = x <;> by_cases e3:z = pb <;> simp_all [upd]);done));(exact hv.set hz.1 hz.2))
 | (refine ret_own (good:=ValsOk) (x0:=va) (K:=fun q=>upd (upd H x (some (cat cI (lo.set p.toNat to) ++ j1))) y (some (cat cI q ++ j2))) va ?_ ?_ ?_ ?_;(first | exact Or.inl rfl | exact Or.inr rfl);(focus (simp [-zg,-zd,go_sem,Tryz.results192];done));(focus (intro z cs hz;simp only [go_sem,Tryz.results192,Tryz.f192] at hz ⊢;(by_cases e1:z = y <;> by_cases e2:z = x <;> by_cases e3:z = pb <;> simp_all [upd]);done));(exact hv))
 | skip)

@[go_sem] def l3TakeC:Con:=.rel fun args H=>match args with
  | [.st [.sl x 1 0 n c1,.sl y 1 0 m c2],.int .i64 p,.st [.int .i64 fr0,.int .i64 to,.int .i64 gk,.int .i64 gv,.list ng cg,.int .i64 v,.int .i64 ek,.int .i64 ev,.list ne ce,.int .i64 sy]] =>
    match H x,H y with
    | some a1,some a2=>(¬ x = y ∧ n ≤ a1.length ∧ m ≤ a2.length ∧ Is cI n (a1.take n) ∧ Is cI m (a2.take m) ∧ Is cX ng cg ∧ Is cX ne ce ∧ 0 ≤ p ∧ p < n ∧ ValsOk (de cI (a2.take m)) ∧ EdgeT v (.mk ek ev (de cX ce)),
        fun c=>(.st [.sl x 1 0 n c1,.sl y 1 0 m c2],upd (upd H x (some (cat cI ((de cI (a1.take n)).set p.toNat to) ++ a1.drop n))) y (some (cat cI (zapl (de cI (a2.take m)) c) ++ a2.drop m))))
    | _,_=>(False,fun _=>(.any,H))
  | _=>(False,fun _=>(.any,H))
theorem l3TakeC_ok:ConOk Tryz.prog 192 l3TakeC:=by
  refine ⟨Qo Tryz.func192 (by decide) rfl,fun args H h=>?_⟩
  revert h
  dsimp only
  split
  · split
    · rename_i a1 a2 hH1 hH2
      rintro ⟨g0,g1,g2,⟨xs,hn,he⟩,⟨ys,hm,hf⟩,⟨gs,rfl,rfl⟩,⟨es,rfl,rfl⟩,g5,g6,g7,g8⟩
      subst hn hm
      have e1:a1 = cat cI xs ++ a1.drop xs.length:=by rw [← he,List.take_append_drop]
      have e2:a2 = cat cI ys ++ a2.drop ys.length:=by rw [← hf,List.take_append_drop]
      rw [hf,Qm] at g7
      rw [Qm] at g8
      simp only [he,hf,Qm]
      rw [e1] at hH1
      rw [e2] at hH2
      exact l3Take_spec xs ys _ _ _ _ _ gs _ _ _ es _ _ _ _ _ _ _ H hH1 hH2 g0 g5 g6 g7 g8
    · intro h;exact h.elim
  · intro h
    exact h.elim
@[go_sem] def Γe18:FuncId → Con:=ext Γe17 192 l3TakeC
theorem zaju:∀ g,ConOk Tryz.prog g (Γe18 g):=Qn zamd l3TakeC_ok
theorem take_ok {va:List Int} (h:ValsOk va) (c:Any):ValsOk (zapl va c):=Xl (p:=ValsOk) h c

set_option maxHeartbeats 2000000 in

@[go_sem] def zaev:List Int × List Int → D:=fun x=>.st [fr 1 cI x.1,fr 1 cI x.2]
def zaff (init:List Int) (ps:List Pr) (lo:List Int) (va:List Int) (s1:Int) (s2:Int) (s3:Int) (s4:Int):List Int × List Int → Prop:=fun x=>StF ps x.1 x.2
def zagn (init:List Int) (ps:List Pr) (lo:List Int) (va:List Int) (s1:Int) (s2:Int) (s3:Int) (s4:Int) (c:Any):List Int × List Int:=sel (zaff init ps lo va s1 s2 s3 s4) ((lo,va)) c
theorem l3Apply_ok (init:List Int) (ps:List Pr) (lo:List Int) (va:List Int) (s1:Int) (s2:Int) (s3:Int) (s4:Int) (hS:SysOk init ps) (hT:StF ps lo va) (hP:StepF ps (s1,s2,s3,s4)) (c:Any):zaff init ps lo va s1 s2 s3 s4 (zagn init ps lo va s1 s2 s3 s4 c):=Xl (p:=zaff init ps lo va s1 s2 s3 s4) (x0:=(lo,va)) (hT) c
theorem zauk (init:List Int) (ps:List Pr) (lo:List Int) (va:List Int) (s1:Int) (s2:Int) (s3:Int) (s4:Int) {e_:Exit} {S_:St} (x:List Int × List Int) (he_:e_ = .ret ∨ e_ = .normal)
    (h1:(Qd Tryz.prog S_ Tryz.f171.results.toList).1 ∧ resD (Qd Tryz.prog S_ Tryz.f171.results.toList).2.1 = zaev x) (hg:zaff init ps lo va s1 s2 s3 s4 x) :
    retR Tryz.prog Tryz.f171 (fun c=>(zaev (zagn init ps lo va s1 s2 s3 s4 c),fun _=>none)) e_ S_:=Xi (enc:=zaev) x he_ h1 hg
theorem l3Apply_pure (init:List Int) (ps:List Pr) (lo:List Int) (va:List Int) (s1:Int) (s2:Int) (s3:Int) (s4:Int) (hS:SysOk init ps) (hT:StF ps lo va) (hP:StepF ps (s1,s2,s3,s4)):PureR Tryz.prog 171 [.st [li cI init,li cR ps],.st [li cI lo,li cI va],.st [.int .i64 s1,.int .i64 s2,.int .i64 s3,.int .i64 s4]] (fun c=>zaev (zagn init ps lo va s1 s2 s3 s4 c)):=by
  refine PureR.of_walk Tryz.func171 rfl (by simp [Tryz.f171]) (fun c=>by simp [-zd,go_sem]) fun B hK=>?_
  obtain ⟨t1,t2⟩:=hT;obtain ⟨⟨p1,p2,p3,p4⟩,p5⟩:=hP;(dsimp only at p1 p2 p3 p4 p5);have hp3:=hS.2.2.1;have hvl:=t2.1;have hE1:=(hS.edge ⟨p1,p2,p3,p4⟩).take;have kp:s1.toNat < ps.length:=(by omega);have ke:s2.toNat < (nth ps s1.toNat).es.length:=(by omega)
  all_goals (repeat' (first
 | refine Qt ?_
 | refine Qc (id:=0) zaju [] (by kernel_rfl) ?_;simp [-zg,-zd,↓Qb,↓Qa,go_sem];try (refine Xh hK 3 ?_;refine Xh hK 4 ?_;refine Xh hK 5 ?_;simp [go_sem])
 | refine Xn (id:=1) zaju mixed [] [4] (by kernel_rfl) (by kernel_rfl) ?_ ?_ <;> simp [-zg,-zd,↓Qb,↓Qa,go_sem,(show lo.length ≤ 9223372036854775807 by omega),(show 2 * lo.length * 8 ≤ 281474976710656 by omega),(show va.length ≤ 9223372036854775807 by omega),(show 2 * va.length * 8 ≤ 281474976710656 by omega)];try ((refine AW_box2z 7 rfl fun pb x y jx jy cx cy hpb hx hy n1 n2 n3 dx ex dy ey=>?_);(clear hpb hx hy);(simp [go_sem]))
 | refine Xn (id:=2) zaju mixed [] [5] (by kernel_rfl) (by kernel_rfl) ?_ ?_ <;> simp [-zg,-zd,↓Qb,↓Qa,go_sem,n1,n2,n3,zS n1,zS n2,zS n3,p1,p2,p3,p4,kp,Qk kp,zsP kp,ke,Qk ke,zsP ke,(show s1 < (lo.length:Int) by omega),t2,hE1,Tree.eta,Zf,(show lo.length ≤ lo.length + jx by omega),(show va.length ≤ va.length + jy by omega)];try (intro c2;have h2:=take_ok t2 c2;(generalize zapl va c2 = va2 at *);have hv2:=h2.1)
 | ((obtain ⟨r1,r2,r3,r4⟩:=p5 (by simpa using c34));have hE2:=(hS.edge ⟨r1,r2,r3,r4⟩).take;(have kr:s3.toNat < ps.length:=(by omega));(have kf:s4.toNat < (nth ps s3.toNat).es.length:=(by omega));(have hv3:va2.length = va.length:=(by omega)));refine Xn (id:=4) zaju mixed [] [5] (by kernel_rfl) (by kernel_rfl) ?_ ?_ <;> simp [-zg,-zd,↓Qb,↓Qa,go_sem,n1,n2,n3,zS n1,zS n2,zS n3,r1,r2,r3,r4,kr,Qk kr,zsP kr,kf,Qk kf,zsP kf,(show s3 < (lo.length:Int) by omega),h2,hE2,Tree.eta,hv3,Zt (f:=cI) va2 (zrP jy .any) (n:=va.length) hv3.symm,Zt (f:=cI) (lo.set s1.toNat (nth (nth ps s1.toNat).es s2.toNat).to) (zrP jx .any) (n:=lo.length) (by simp),(show lo.length ≤ lo.length + jx by omega),(show va.length ≤ va.length + jy by omega),(show va.length ≤ va2.length + jy by omega),(show ((List.set lo s1.toNat (nth (nth ps s1.toNat).es s2.toNat).to)).length = lo.length by simp)];try (intro c4;have h4:=take_ok h2 c4;(generalize zapl va2 c4 = va4 at *);have hv4:=h4.1)
 | (first | (refine Xu pb 0 (b':=x) (sz:=1) (m:=lo.length) (cp:=cx) (all:=[.sl x 1 0 lo.length cx,.sl y 1 0 va.length cy]) (cs:=cat cI ((lo.set s1.toNat (nth (nth ps s1.toNat).es s2.toNat).to).set s3.toNat (nth (nth ps s3.toNat).es s4.toNat).to) ++ zrP jx .any) (by simp [upd,n1,n2,n3,zS n1,zS n2,zS n3]) rfl n1 (by simp [upd,n1,n2,n3,zS n1,zS n2,zS n3]) (by omega) (by simp [Qv]) (by simp [Qv];omega) ?_;refine Xu pb 1 (b':=y) (sz:=1) (m:=va.length) (cp:=cy) (all:=[.fr 1 lo.length (cat cI ((lo.set s1.toNat (nth (nth ps s1.toNat).es s2.toNat).to).set s3.toNat (nth (nth ps s3.toNat).es s4.toNat).to)),.sl y 1 0 va.length cy]) (cs:=cat cI va4 ++ zrP jy .any) (by simp [upd,n1,n2,n3,zS n1,zS n2,zS n3,Zt (f:=cI) ((lo.set s1.toNat (nth (nth ps s1.toNat).es s2.toNat).to).set s3.toNat (nth (nth ps s3.toNat).es s4.toNat).to) (zrP jx .any) (n:=lo.length) (by simp)]) rfl n2 (by simp [upd,n1,n2,n3,zS n1,zS n2,zS n3]) (by omega) (by simp [Qv];omega) (by simp [Qv];omega) ?_) | (refine Xu pb 0 (b':=x) (sz:=1) (m:=lo.length) (cp:=cx) (all:=[.sl x 1 0 lo.length cx,.sl y 1 0 va.length cy]) (cs:=cat cI (lo.set s1.toNat (nth (nth ps s1.toNat).es s2.toNat).to) ++ zrP jx .any) (by simp [upd,n1,n2,n3,zS n1,zS n2,zS n3]) rfl n1 (by simp [upd,n1,n2,n3,zS n1,zS n2,zS n3]) (by omega) (by simp [Qv]) (by simp [Qv];omega) ?_;refine Xu pb 1 (b':=y) (sz:=1) (m:=va.length) (cp:=cy) (all:=[.fr 1 lo.length (cat cI (lo.set s1.toNat (nth (nth ps s1.toNat).es s2.toNat).to)),.sl y 1 0 va.length cy]) (cs:=cat cI va2 ++ zrP jy .any) (by simp [upd,n1,n2,n3,zS n1,zS n2,zS n3,Zt (f:=cI) (lo.set s1.toNat (nth (nth ps s1.toNat).es s2.toNat).to) (zrP jx .any) (n:=lo.length) (by simp)]) rfl n2 (by simp [upd,n1,n2,n3,zS n1,zS n2,zS n3]) (by omega) (by simp [Qv];omega) (by simp [Qv];omega) ?_));refine Qc (id:=5) zaju [] (by kernel_rfl) ?_;simp [-zg,-zd,↓Qb,↓Qa,go_sem,n1,n2,n3,zS n1,zS n2,zS n3]
 | refine Qj (c:=.tmp 34) ?_;simp [-zg,-zd,↓Qb,↓Qa,go_sem];try first | (refine ⟨?_,?_⟩ <;> refine zA ?_) | (refine ⟨fun c34=>?_,fun c34=>?_⟩ <;> (try simp [B_iff,B_not] at c34))
 | (refine Qe ?_)
 | (refine Qs ?_;simp [-zg,-zd,↓Qb,↓Qa,go_sem])
 | (refine Qr ?_;simp [-zg,-zd,↓Qb,↓Qa,go_sem])
 | (refine Qq ?_;try simp [-zg,-zd,↓Qb,↓Qa,go_sem,Tryz.results171])
 | (intro hx;refine zA ?_)
 | (intro hx;change retR _ _ _ _ _)
 | (refine ⟨?_,?_⟩ <;> refine zA ?_)
 | (intro hx;constructor <;> intro hs)
 | (constructor <;> intro hs)
 | (refine ⟨?_,fun hs=>?_⟩;refine zA ?_)
 | (refine ⟨fun hs=>?_,?_⟩;rotate_left;refine zA ?_;rotate_left)
 | (refine Qc zaju [] (by kernel_rfl) ?_;simp [-zg,-zd,↓Qb,↓Qa,go_sem])
 | fail))
  all_goals (first
 | (refine zauk _ _ _ _ _ _ _ _ ((((lo.set s1.toNat (nth (nth ps s1.toNat).es s2.toNat).to).set s3.toNat (nth (nth ps s3.toNat).es s4.toNat).to,va4):List Int × List Int)) ?_ ?_ ?_;(first | exact Or.inl rfl | exact Or.inr rfl);(focus (simp [-zg,-zd,↓Qb,↓Qa,go_sem,Tryz.results171,Zt (f:=cI) va4 (zrP jy .any) (n:=va.length) (by omega),(show va4.length = va.length by omega)];done));(focus ((exact ⟨by simp;omega,h4⟩);done)))
 | (refine zauk _ _ _ _ _ _ _ _ (((lo.set s1.toNat (nth (nth ps s1.toNat).es s2.toNat).to,va2):List Int × List Int)) ?_ ?_ ?_;(first | exact Or.inl rfl | exact Or.inr rfl);(focus (simp [-zg,-zd,↓Qb,↓Qa,go_sem,Tryz.results171,Zt (f:=cI) va2 (zrP jy .any) (n:=va.length) (by omega),(show va2.length = va.length by omega)];done));(focus ((exact ⟨by simp;omega,h2⟩);done)))
 | skip)
@[go_sem] def l3ApplyC:Con:=.prel fun
  | [.st [.list n_init c_init,.list n_ps c_ps],.st [.list n_lo c_lo,.list n_va c_va],.st [.int .i64 s1,.int .i64 s2,.int .i64 s3,.int .i64 s4]]=>((Is cI n_init c_init) ∧ (Is cR n_ps c_ps) ∧ (Is cI n_lo c_lo) ∧ (Is cI n_va c_va) ∧ (SysOk (de cI c_init) (de cR c_ps)) ∧ (StF (de cR c_ps) (de cI c_lo) (de cI c_va)) ∧ (StepF (de cR c_ps) (s1,s2,s3,s4)),fun c=>zaev (zagn (de cI c_init) (de cR c_ps) (de cI c_lo) (de cI c_va) s1 s2 s3 s4 c))
  | _=>(False,fun _=>.any)
theorem l3ApplyC_ok:ConOk Tryz.prog 171 l3ApplyC:=by
  refine ⟨Qo Tryz.func171 (by decide) rfl,fun args h=>?_⟩
  revert h
  dsimp only
  split
  · intro h
    obtain ⟨⟨init,rfl,rfl⟩,⟨ps,rfl,rfl⟩,⟨lo,rfl,rfl⟩,⟨va,rfl,rfl⟩,hS,hT,hP⟩:=h
    try simp only [Qm] at *
    exact ⟨l3Apply_pure init ps lo va _ _ _ _ hS hT hP,fun c=>by simp [go_sem]⟩
  · intro h
    exact h.elim
@[go_sem] def Γe19:FuncId → Con:=ext Γe18 171 l3ApplyC
theorem zapf:∀ g,ConOk Tryz.prog g (Γe19 g):=Qn zaju l3ApplyC_ok

theorem l4Find_pure (xs:List Ints2) (lo:List Int) (va:List Int)  : Pure Tryz.prog 172 [li cP xs,.st [li cI lo,li cI va]] (.int .i64 (findI (fun z=>decide (z = ((lo,va):Ints2))) xs)):=by
  refine Pure.of_walk Tryz.func172 rfl (by simp [Tryz.f172]) (by simp [-zd,go_sem]) fun B hK=>?_
  (repeat' (first
 | refine Qt ?_
 | (refine Jb 0 rfl fun hm=>?_);refine Qc (id:=0) zapf [] (by kernel_rfl) ?_;simp [-zg,-zd,↓Qb,↓Qa,go_sem];try (refine Xh hK 3 ?_;simp [go_sem])
 | refine Xn (id:=4) zapf mixed [] [] (by kernel_rfl) (by kernel_rfl) ?_ ?_ <;> simp [-zg,-zd,↓Qb,↓Qa,go_sem,c9,Qk c9,zsP c9]
 | refine Qc (id:=3) zapf [] (by kernel_rfl) ?_;simp [-zg,-zd,↓Qb,↓Qa,go_sem,wrapS (k:=k) (by omega)]
 | refine Qj (c:=.tmp 9) ?_;simp [-zg,-zd,↓Qb,↓Qa,go_sem];try first | (refine ⟨?_,?_⟩ <;> refine zA ?_) | (refine ⟨fun c9=>?_,fun c9=>?_⟩ <;> (try simp [B_iff,B_not] at c9))
 | refine Qj (c:=.tmp 17) ?_;simp [-zg,-zd,↓Qb,↓Qa,go_sem];try first | (refine ⟨?_,?_⟩ <;> refine zA ?_) | (refine ⟨fun c17=>?_,fun c17=>?_⟩ <;> (try simp [B_iff,B_not] at c17))
 | (refine Qe (id:=0) (Qw (ι:=Nat) (fun k:Nat=>⟨(upd (upd (upd (fun _=>.any) 0 (li cP xs)) 3 (.pd [li cI lo,li cI va])) 5 (.int .i64 k)),fun _=>none⟩) (fun k=>k ≤ xs.length ∧ NoneTill (fun i=>decide (nth xs i = ((lo,va):Ints2))) k) (fun k=>xs.length - k) (0) ?_ ?_ ?_);exact ⟨Nat.zero_le _,.zero _⟩;((repeat' (first | exact Qg (by assumption) | exact Qi | refine Qf ?_ ?_ | refine Qh ?_)) <;> simp [-zg,-zd,↓Qb,↓Qa,go_sem]);rintro k ⟨hk,ht⟩)
 | (refine ⟨k + 1,⟨by omega,ht.succ (by simp only [decide_eq_false_iff_not];intro e;rw [e] at c17;simp at c17)⟩,by first | omega | (simp;done) | (simp;omega),?_⟩;((repeat' (first | exact Qg (by assumption) | exact Qi | refine Qf ?_ ?_ | refine Qh ?_)) <;> simp [-zg,-zd,↓Qb,↓Qa,go_sem]))
 | (refine Qe ?_)
 | (refine Qs ?_;simp [-zg,-zd,↓Qb,↓Qa,go_sem])
 | (refine Qr ?_;simp [-zg,-zd,↓Qb,↓Qa,go_sem])
 | (refine Qq ?_;simp [-zg,-zd,↓Qb,↓Qa,go_sem,Tryz.results172])
 | (intro hx;refine zA ?_)
 | (refine ⟨?_,?_⟩ <;> refine zA ?_)
 | (intro hx;constructor <;> intro hs)
 | (constructor <;> intro hs)
 | (refine ⟨?_,fun hs=>?_⟩;refine zA ?_)
 | (refine ⟨fun hs=>?_,?_⟩;rotate_left;refine zA ?_;rotate_left)
 | (refine Qc zapf [] (by kernel_rfl) ?_;simp [-zg,-zd,↓Qb,↓Qa,go_sem])
 | fail))
  all_goals (first
 | (rw [findI_at (p:=fun z=>decide (z = ((lo,va):Ints2))) ht c9 (by simp only [decide_eq_true_eq];exact Prod.ext (by simp_all) (by simp_all))])
 | (rw [findI_none (p:=fun z=>decide (z = ((lo,va):Ints2))) ht (by omega)])
 | skip)
@[go_sem] def zaki:Con:=.pure fun
  | [.list n_xs c_xs,.st [.list n_lo c_lo,.list n_va c_va]]=>((Is cP n_xs c_xs) ∧ (Is cI n_lo c_lo) ∧ (Is cI n_va c_va),.int .i64 (findI (fun z=>decide (z = (((de cI c_lo),(de cI c_va)):Ints2))) (de cP c_xs)))
  | _=>(False,.any)
theorem zatb:ConOk Tryz.prog 172 zaki:=by
  refine ⟨Qo Tryz.func172 (by decide) rfl,fun args h=>?_⟩
  revert h
  dsimp only
  split
  · intro h
    obtain ⟨⟨xs,rfl,rfl⟩,⟨lo,rfl,rfl⟩,⟨va,rfl,rfl⟩⟩:=h
    try simp only [Qm] at *
    exact ⟨l4Find_pure xs lo va,by simp [go_sem]⟩
  · intro h
    exact h.elim
@[go_sem] def Γe20:FuncId → Con:=ext Γe19 172 zaki
theorem Yk:∀ g,ConOk Tryz.prog g (Γe20 g):=Qn zapf zatb

end
end Go.Proofs.YtiilmjojffjhlaaGreatDoor.Vm

