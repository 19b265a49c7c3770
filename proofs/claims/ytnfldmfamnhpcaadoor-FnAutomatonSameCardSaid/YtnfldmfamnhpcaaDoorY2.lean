/-
  Formulas: copies, normal forms, subformulas. No conditions.
-/
import Derived.Test.YtnfldmfamnhpcaaDoorY1
namespace Go.Proofs.YtnfldmfamnhpcaaDoor.Vm
open Go
open Nat renaming sub_pos_of_lt → zsP
open List renaming getD_eq_getElem?_getD → zg,drop_one → zd
noncomputable section
set_option linter.unusedVariables false
set_option linter.unusedSimpArgs false
set_option maxRecDepth 200000

theorem WellF.ks1 {k v:Int} {ks:List Tree} (h:WellF (.mk k v ks)) (hk:k = 3 ∨ k = 6 ∨ k = 9 ∨ k = 10):ks.length = 1:=by
  have:=h.at.1;unfold arF at this;rw [if_neg (by omega),if_pos (by omega)] at this;omega
theorem WellF.ks2 {k v:Int} {ks:List Tree} (h:WellF (.mk k v ks)) (h1:¬ k = 1) (h2:¬ k = 2) (h3:¬ k = 3) (h6:¬ k = 6) (h9:¬ k = 9) (h10:¬ k = 10):ks.length = 2:=by
  have:=h.at.1;unfold arF at this;rw [if_neg (by omega),if_neg (by omega)] at this;split at this <;> omega
theorem take_snocX {ks:List Tree} {i:Nat} (h:i < ks.length):cat cX (ks.take i) ++ [.int .i64 (nth ks i).k,.int .i64 (nth ks i).v,.list (nth ks i).ks.length (cat cX (nth ks i).ks)] = cat cX (ks.take (i + 1)):=by
  rw [List.take_succ_eq_append_getElem h,Zr,Za,← nth_lt h,cX_eq];rfl

@[go_sem] def Vk:Tree → D:=sX
theorem l5True_flat (x:Tree):dat (Vk x) = Vk x:=by simp [go_sem]
def zagh  : Tree → Prop:=fun _=>True
def zaho  (x:(Tree) × D):Prop:=zagh x.1 ∧ dat x.2 = Vk x.1
def zaej  (c:Any):(Tree) × D:=sel (zaho) ((.mk 1 0 []:Tree),Vk (.mk 1 0 [])) c
def zafs  (c:Any):Tree:=(zaej c).1
theorem l5True_okD   (c:Any):zaho (zaej c):=by
  have hx:zagh (.mk 1 0 []):=trivial
  exact Zd (p:=zaho) (x0:=((.mk 1 0 []:Tree),Vk (.mk 1 0 []))) ⟨hx,l5True_flat _⟩ c
theorem l5True_ret  {e_:Exit} {S_:St} (x:Tree) (he_:e_ = .ret ∨ e_ = .normal)
    (h1:(Qe Tryd.prog S_ Tryd.f82.results.toList).1 ∧ dat (resD (Qe Tryd.prog S_ Tryd.f82.results.toList).2.1) = Vk x) (hg:zagh x) :
    retR Tryd.prog Tryd.f82 (fun c=>((zaej c).2,fun _=>none)) e_ S_ :=
  Xz (good:=zaho) (enc:=fun x:(Tree) × D=>x.2) (x,resD (Qe Tryd.prog S_ Tryd.f82.results.toList).2.1) he_ ⟨h1.1,rfl⟩ ⟨hg,h1.2⟩
theorem l5True_pure   : SpecR Tryd.prog 82 [] (fun _=>none) (fun c=>((zaej c).2,fun _=>none)):=by
  refine SpecR.of_walk Tryd.func82 rfl (by simp [Tryd.f82]) fun B=>?_
  (repeat' (first
 | refine Qu ?_
 | refine Qc (id:=0) Γy9_ok [] (by kernel_rfl) ?_;simp [-zg,-zd,↓Qb,↓Qa,go_sem]
 | refine Qc (id:=1) Γy9_ok [] (by kernel_rfl) ?_;simp [-zg,-zd,↓Qb,↓Qa,go_sem]
 | (refine Qh ?_)
 | (refine Qt ?_;simp [-zg,-zd,↓Qb,↓Qa,go_sem])
 | (refine Qs ?_;simp [-zg,-zd,↓Qb,↓Qa,go_sem])
 | (refine Qv ?_;try simp [-zg,-zd,↓Qb,↓Qa,go_sem,Tryd.results82])
 | (intro hx;refine zA ?_)
 | (intro hx;change retR _ _ _ _ _)
 | (refine ⟨?_,?_⟩ <;> refine zA ?_)
 | (intro hx;constructor <;> intro hs)
 | (constructor <;> intro hs)
 | (refine ⟨?_,fun hs=>?_⟩;refine zA ?_)
 | (refine ⟨fun hs=>?_,?_⟩;rotate_left;refine zA ?_;rotate_left)))
  all_goals (first
 | (refine l5True_ret (.mk 1 0 []) ?_ ?_ ?_;(first | exact Or.inl rfl | exact Or.inr rfl);(focus (simp [-zg,-zd,↓Qb,↓Qa,go_sem,Tryd.results82,dat,li,Xe];done));(focus ((trivial);done)))
 | skip)
@[go_sem] def l5TrueC:Con:=.rel fun args H=>match args with
  | []=>(True,fun c=>(Vk (zafs c),H))
  | _=>(False,fun _=>(.any,H))
theorem l5TrueC_ok:ConOk Tryd.prog 82 l5TrueC:=by
  refine ⟨Qq Tryd.func82 (by decide) rfl,fun args H h=>?_⟩
  revert h
  dsimp only
  split
  · intro h
    skip
    try simp only [Qj] at *
    exact SpecR.enc ((SpecR.frame0 (l5True_pure ) (H:=H)).shut) fun c=>Prod.ext (l5True_okD  c).2.symm rfl
  · intro h
    exact h.elim
@[go_sem] def Γy10:FuncId → Con:=ext Γy9 82 l5TrueC
theorem Γy10_ok:∀ g,ConOk Tryd.prog g (Γy10 g):=Qp Γy9_ok l5TrueC_ok

@[go_sem] def Vq:Tree → D:=sX
theorem l5Not_flat (x:Tree):dat (Vq x) = Vq x:=by simp [go_sem]
def zaja (k:Int) (v:Int) (E:D):Tree → Prop:=fun _=>True
def l5Not_gd (k:Int) (v:Int) (E:D) (x:(Tree) × D):Prop:=zaja k v E x.1 ∧ dat x.2 = Vq x.1
def zafu (k:Int) (v:Int) (E:D) (c:Any):(Tree) × D:=sel (l5Not_gd k v E) ((.mk 1 0 []:Tree),Vq (.mk 1 0 [])) c
def l5Not_sel (k:Int) (v:Int) (E:D) (c:Any):Tree:=(zafu k v E c).1
theorem l5Not_okD (k:Int) (v:Int) (E:D) (hE:IsK E) (c:Any):l5Not_gd k v E (zafu k v E c):=by
  have hx:zaja k v E (.mk 1 0 []):=trivial
  exact Zd (p:=l5Not_gd k v E) (x0:=((.mk 1 0 []:Tree),Vq (.mk 1 0 []))) ⟨hx,l5Not_flat _⟩ c
theorem l5Not_ret (k:Int) (v:Int) (E:D) {e_:Exit} {S_:St} (x:Tree) (he_:e_ = .ret ∨ e_ = .normal)
    (h1:(Qe Tryd.prog S_ Tryd.f93.results.toList).1 ∧ dat (resD (Qe Tryd.prog S_ Tryd.f93.results.toList).2.1) = Vq x) (hg:zaja k v E x) :
    retR Tryd.prog Tryd.f93 (fun c=>((zafu k v E c).2,fun _=>none)) e_ S_ :=
  Xz (good:=l5Not_gd k v E) (enc:=fun x:(Tree) × D=>x.2) (x,resD (Qe Tryd.prog S_ Tryd.f93.results.toList).2.1) he_ ⟨h1.1,rfl⟩ ⟨hg,h1.2⟩
theorem l5Not_pure (k:Int) (v:Int) (E:D) (hE:IsK E):SpecR Tryd.prog 93 [.st [.int .i64 k,.int .i64 v,E]] (fun _=>none) (fun c=>((zafu k v E c).2,fun _=>none)):=by
  refine SpecR.of_walk Tryd.func93 rfl (by simp [Tryd.f93]) fun B=>?_
  rcases hE with rfl | ⟨ks,rfl⟩
  all_goals (repeat' (first
 | refine Qu ?_
 | refine Qc (id:=0) Γy10_ok [] (by kernel_rfl) ?_;simp [-zg,-zd,↓Qb,↓Qa,go_sem];try (refine Xk 1 ?_;simp [go_sem,dat,li])
 | refine Qc (id:=1) Γy10_ok [] (by kernel_rfl) ?_;simp [-zg,-zd,↓Qb,↓Qa,go_sem]
 | (refine Qh ?_)
 | (refine Qt ?_;simp [-zg,-zd,↓Qb,↓Qa,go_sem])
 | (refine Qs ?_;simp [-zg,-zd,↓Qb,↓Qa,go_sem])
 | (refine Qv ?_;try simp [-zg,-zd,↓Qb,↓Qa,go_sem,Tryd.results93])
 | (intro hx;refine zA ?_)
 | (intro hx;change retR _ _ _ _ _)
 | (refine ⟨?_,?_⟩ <;> refine zA ?_)
 | (intro hx;constructor <;> intro hs)
 | (constructor <;> intro hs)
 | (refine ⟨?_,fun hs=>?_⟩;refine zA ?_)
 | (refine ⟨fun hs=>?_,?_⟩;rotate_left;refine zA ?_;rotate_left)))
  all_goals (first
 | (refine l5Not_ret _ _ _ (.mk 3 0 [.mk k v []]) ?_ ?_ ?_;(first | exact Or.inl rfl | exact Or.inr rfl);(focus (simp [-zg,-zd,↓Qb,↓Qa,go_sem,Tryd.results93,dat,datL_map,li,Xj,cX_mk,Xe];done));(focus ((trivial);done)))
 | (refine l5Not_ret _ _ _ (.mk 3 0 [.mk k v ks]) ?_ ?_ ?_;(first | exact Or.inl rfl | exact Or.inr rfl);(focus (simp [-zg,-zd,↓Qb,↓Qa,go_sem,Tryd.results93,dat,datL_map,li,Xj,cX_mk,Xe];done));(focus ((trivial);done)))
 | skip)
@[go_sem] def l5NotC:Con:=.rel fun args H=>match args with
  | [.st [.int .i64 k,.int .i64 v,E]]=>((IsK E),fun c=>(Vq (l5Not_sel k v E c),H))
  | _=>(False,fun _=>(.any,H))
theorem l5NotC_ok:ConOk Tryd.prog 93 l5NotC:=by
  refine ⟨Qq Tryd.func93 (by decide) rfl,fun args H h=>?_⟩
  revert h
  dsimp only
  split
  · intro h
    have hE:=h
    try simp only [Qj] at *
    exact SpecR.enc ((SpecR.frame0 (l5Not_pure _ _ _ hE) (H:=H)).shut) fun c=>Prod.ext (l5Not_okD _ _ _ hE c).2.symm rfl
  · intro h
    exact h.elim
@[go_sem] def Γy11:FuncId → Con:=ext Γy10 93 l5NotC
theorem Γy11_ok:∀ g,ConOk Tryd.prog g (Γy11 g):=Qp Γy10_ok l5NotC_ok

@[go_sem] def Jy:Tree → D:=sX
theorem l5Copy_flat (x:Tree):dat (Jy x) = Jy x:=by simp [go_sem]
def zace (k:Int) (v:Int) (ks:List Tree):Tree → Prop:=fun x=>x = .mk k v ks
def zahq (k:Int) (v:Int) (ks:List Tree) (x:(Tree) × D):Prop:=zace k v ks x.1 ∧ dat x.2 = Jy x.1
def zacd (k:Int) (v:Int) (ks:List Tree) (c:Any):(Tree) × D:=sel (zahq k v ks) ((.mk k v ks:Tree),Jy (.mk k v ks)) c
def zafw (k:Int) (v:Int) (ks:List Tree) (c:Any):Tree:=(zacd k v ks c).1
theorem zaje (k:Int) (v:Int) (ks:List Tree) (hw:WellF (.mk k v ks)) (c:Any):zahq k v ks (zacd k v ks c):=by
  have hx:zace k v ks (.mk k v ks):=rfl
  exact Zd (p:=zahq k v ks) (x0:=((.mk k v ks:Tree),Jy (.mk k v ks))) ⟨hx,l5Copy_flat _⟩ c
theorem l5Copy_ok (k:Int) (v:Int) (ks:List Tree) (hw:WellF (.mk k v ks)) (c:Any):zace k v ks (zafw k v ks c):=(zaje k v ks hw c).1
theorem l5Copy_ret (k:Int) (v:Int) (ks:List Tree) {e_:Exit} {S_:St} (x:Tree) (he_:e_ = .ret ∨ e_ = .normal)
    (h1:(Qe Tryd.prog S_ Tryd.f92.results.toList).1 ∧ dat (resD (Qe Tryd.prog S_ Tryd.f92.results.toList).2.1) = Jy x) (hg:zace k v ks x) :
    retR Tryd.prog Tryd.f92 (fun c=>((zacd k v ks c).2,fun _=>none)) e_ S_ :=
  Xz (good:=zahq k v ks) (enc:=fun x:(Tree) × D=>x.2) (x,resD (Qe Tryd.prog S_ Tryd.f92.results.toList).2.1) he_ ⟨h1.1,rfl⟩ ⟨hg,h1.2⟩
@[go_sem] def l5CopyCn (n_:Nat):Con:=.rel fun args H=>match args with
  | [.st [.int .i64 k,.int .i64 v,.list n_ks c_ks]]=>((Is cX n_ks c_ks) ∧ (WellF (.mk k v (de cX c_ks))) ∧ (tsz (.mk k v (de cX c_ks)) < n_),fun c=>(Jy (zafw k v (de cX c_ks) c),H))
  | _=>(False,fun _=>(.any,H))
theorem l5CopyCn_ok {n_:Nat} (ih:∀ (k:Int) (v:Int) (ks:List Tree) (hw:WellF (.mk k v ks)) (hm_:tsz (.mk k v ks) < n_),SpecR Tryd.prog 92 [.st [.int .i64 k,.int .i64 v,li cX ks]] (fun _=>none) (fun c=>((zacd k v ks c).2,fun _=>none))):ConOk Tryd.prog 92 (l5CopyCn n_):=by
  refine ⟨Qq Tryd.func92 (by decide) rfl,fun args H h=>?_⟩
  revert h
  dsimp only
  split
  · intro h
    obtain ⟨⟨ks,rfl,rfl⟩,hw,hm_⟩:=h
    try simp only [Qj] at *
    exact SpecR.enc ((SpecR.frame0 (ih _ _ ks hw hm_) (H:=H)).shut) fun c=>Prod.ext (zaje _ _ _ hw c).2.symm rfl
  · intro h
    exact h.elim
set_option maxHeartbeats 4000000 in
theorem l5Copy_rec:∀ (n_:Nat),∀ (k:Int) (v:Int) (ks:List Tree) (hw:WellF (.mk k v ks)) (hm_:tsz (.mk k v ks) < n_),SpecR Tryd.prog 92 [.st [.int .i64 k,.int .i64 v,li cX ks]] (fun _=>none) (fun c=>((zacd k v ks c).2,fun _=>none)):=by
  intro n_
  induction n_ with
  | zero=>intros;omega
  | succ n_ ih =>
  intro k v ks hw hm_
  have Γr_ok:=Qp Γy11_ok (l5CopyCn_ok ih)
  refine SpecR.of_walk Tryd.func92 rfl (by simp [Tryd.f92]) fun B=>?_
  obtain ⟨w1,w2,w3,w4⟩:=hw.at;have w5:=arF_le k
  all_goals (repeat' (first
 | refine Qu ?_
 | refine Qc (id:=0) Γr_ok [] (by kernel_rfl) ?_;simp [-zg,-zd,↓Qb,↓Qa,go_sem];try (refine Xk 1 ?_;simp [go_sem])
 | (refine Vw 1 2 ⟨rfl,rfl⟩ fun hm=>?_);refine Qc (id:=1) Γr_ok [] (by kernel_rfl) ?_;simp [-zg,-zd,↓Qb,↓Qa,go_sem];try ((refine AW_boxNil2 3 3 rfl ?_);(refine zado 3 rfl fun qb hqb=>?_);(clear hqb);(refine Xb (fun H1=>H1 qb = some [.int .i64 k,.int .i64 v,.fr 3 0 (cat cX (ks.take 0))]) (by simp [go_sem,Xe]) fun H1 w1=>?_))
 | refine Qc (id:=2) Γr_ok [] (by kernel_rfl) ?_;simp [-zg,-zd,↓Qb,↓Qa,go_sem]
 | refine Qc (id:=3) Γr_ok [] (by kernel_rfl) ?_;simp [-zg,-zd,↓Qb,↓Qa,go_sem]
 | ((have qt:=Xh (k:=k) (v:=v) c14);(have qw:=w4 q.1 c14);(refine Vo qb 2 (all:=[.int .i64 k,.int .i64 v,.fr 3 q.1 (cat cX (ks.take q.1))]) g2 rfl fun u cu ju hu hcu hdu=>?_);(have uq:¬ u = qb:=(by intro e;rw [e] at hu;dsimp only at hu;rw [g2] at hu;cases hu));(clear hu));refine Xr (id:=5) Γr_ok mixed [(qb,[.int .i64 k,.int .i64 v,.sl u 3 0 q.1 cu])] [] [] (by kernel_rfl) (by kernel_rfl) (by simp [-zg,-zd,↓Qb,↓Qa,go_sem,c14,Qg c14,zsP c14,qw,uq,Ne.symm uq,Tree.eta,(show tsz (nth ks q.1) < n_ by omega),(show q.1 ≤ 9223372036854775806 by omega),(show 2 * (q.1 + 1) * 40 ≤ 281474976710656 by omega),hdu,(show min q.1 ks.length = q.1 by omega)]) (by simp [-zg,-zd,↓Qb,↓Qa,go_sem,c14,Qg c14,zsP c14,qw,uq,Ne.symm uq,Tree.eta,(show tsz (nth ks q.1) < n_ by omega),(show q.1 ≤ 9223372036854775806 by omega),(show 2 * (q.1 + 1) * 40 ≤ 281474976710656 by omega),hdu,(show min q.1 ks.length = q.1 by omega)]) ?_;simp [-zg,-zd,↓Qb,↓Qa,go_sem,c14,Qg c14,zsP c14,qw,uq,Ne.symm uq,Tree.eta,(show tsz (nth ks q.1) < n_ by omega),(show q.1 ≤ 9223372036854775806 by omega),(show 2 * (q.1 + 1) * 40 ≤ 281474976710656 by omega),hdu,(show min q.1 ks.length = q.1 by omega)];try ((intro c5);(have z0:=l5Copy_ok (nth ks q.1).k (nth ks q.1).v (nth ks q.1).ks (by rw [Tree.eta];exact qw) c5);(simp only [zace] at z0);(rw [Tree.eta] at z0);(generalize zafw (nth ks q.1).k (nth ks q.1).v (nth ks q.1).ks c5 = z at *);(subst z0);(refine Xb (fun H2=>H2 qb = some [.int .i64 k,.int .i64 v,.fr 3 (q.1 + 1) (cat cX (ks.take (q.1 + 1)))]) (by simp [upd,uq,Ne.symm uq,take_snocX c14]) fun H2 y1=>?_))
 | refine Qc (id:=4) Γr_ok [] (by kernel_rfl) ?_;simp [-zg,-zd,↓Qb,↓Qa,go_sem,wrapS (k:=q.1) (by omega)]
 | ((obtain ⟨i,H5⟩:=q);(dsimp only at *);(obtain rfl:i = ks.length:=by omega));refine Qc (id:=6) Γr_ok [] (by kernel_rfl) ?_;simp [-zg,-zd,↓Qb,↓Qa,go_sem,g2]
 | refine Qd (c:=.tmp 14) ?_;simp [-zg,-zd,↓Qb,↓Qa,go_sem];try first | (refine ⟨?_,?_⟩ <;> refine zA ?_) | (refine ⟨fun c14=>?_,fun c14=>?_⟩ <;> (try simp [B_iff,B_not] at c14))
 | (refine Qh (id:=0) (Xd (ι:=Nat × Hp) (fun q:Nat × Hp=>⟨(upd (upd (upd (upd (fun _=>.any) 1 (.pd [.int .i64 k,.int .i64 v,li cX ks])) 2 (.box [.int .i64 0,.int .i64 0,.nil])) 3 (.ptr qb 0)) 4 (.int .i64 q.1)),q.2⟩) (fun q=>q.1 ≤ ks.length ∧ q.2 qb = some [.int .i64 k,.int .i64 v,.fr 3 q.1 (cat cX (ks.take q.1))]) (fun q=>ks.length - q.1) ((0,H1)) ?_ ?_ ?_);exact ⟨Nat.zero_le _,w1⟩;((repeat' (first | exact Ql (by assumption) | exact Qo | refine Qk ?_ ?_ | refine Qn ?_)) <;> simp [-zg,-zd,↓Qb,↓Qa,go_sem]);rintro q ⟨g1,g2⟩)
 | (refine ⟨(q.1 + 1,H2),⟨by dsimp only;omega,y1⟩,by first | omega | (simp;done) | (simp;omega),?_⟩;((repeat' (first | exact Ql (by assumption) | exact Qo | refine Qk ?_ ?_ | refine Qn ?_)) <;> simp [-zg,-zd,↓Qb,↓Qa,go_sem]))
 | (refine Qh ?_)
 | (refine Qt ?_;simp [-zg,-zd,↓Qb,↓Qa,go_sem])
 | (refine Qs ?_;simp [-zg,-zd,↓Qb,↓Qa,go_sem])
 | (refine Qv ?_;try simp [-zg,-zd,↓Qb,↓Qa,go_sem,Tryd.results92])
 | (intro hx;refine zA ?_)
 | (intro hx;change retR _ _ _ _ _)
 | (refine ⟨?_,?_⟩ <;> refine zA ?_)
 | (intro hx;constructor <;> intro hs)
 | (constructor <;> intro hs)
 | (refine ⟨?_,fun hs=>?_⟩;refine zA ?_)
 | (refine ⟨fun hs=>?_,?_⟩;rotate_left;refine zA ?_;rotate_left)))
  all_goals (first
 | (refine l5Copy_ret _ _ _ (.mk k v ks) ?_ ?_ ?_;(first | exact Or.inl rfl | exact Or.inr rfl);(focus (simp [-zg,-zd,↓Qb,↓Qa,go_sem,Tryd.results92,dat,datL_map,li,List.take_length];done));(focus ((rfl);done)))
 | skip)
theorem l5Copy_pure (k:Int) (v:Int) (ks:List Tree) (hw:WellF (.mk k v ks)):SpecR Tryd.prog 92 [.st [.int .i64 k,.int .i64 v,li cX ks]] (fun _=>none) (fun c=>((zacd k v ks c).2,fun _=>none)):=l5Copy_rec (tsz (.mk k v ks) + 1) k v ks hw (by omega)
@[go_sem] def l5CopyC:Con:=.rel fun args H=>match args with
  | [.st [.int .i64 k,.int .i64 v,.list n_ks c_ks]]=>((Is cX n_ks c_ks) ∧ (WellF (.mk k v (de cX c_ks))),fun c=>(Jy (zafw k v (de cX c_ks) c),H))
  | _=>(False,fun _=>(.any,H))
theorem l5CopyC_ok:ConOk Tryd.prog 92 l5CopyC:=by
  refine ⟨Qq Tryd.func92 (by decide) rfl,fun args H h=>?_⟩
  revert h
  dsimp only
  split
  · intro h
    obtain ⟨⟨ks,rfl,rfl⟩,hw⟩:=h
    try simp only [Qj] at *
    exact SpecR.enc ((SpecR.frame0 (l5Copy_pure _ _ ks hw) (H:=H)).shut) fun c=>Prod.ext (zaje _ _ _ hw c).2.symm rfl
  · intro h
    exact h.elim
@[go_sem] def Γy12:FuncId → Con:=ext Γy11 92 l5CopyC
theorem Γy12_ok:∀ g,ConOk Tryd.prog g (Γy12 g):=Qp Γy11_ok l5CopyC_ok

@[go_sem] def Jx:Tree → D:=sX
theorem l5Push_flat (x:Tree):dat (Jx x) = Jx x:=by simp [go_sem]
def zagj (k:Int) (v:Int) (ks:List Tree) (neg:Bool):Tree → Prop:=fun _=>True
def zahp (k:Int) (v:Int) (ks:List Tree) (neg:Bool) (x:(Tree) × D):Prop:=zagj k v ks neg x.1 ∧ dat x.2 = Jx x.1
def zacc (k:Int) (v:Int) (ks:List Tree) (neg:Bool) (c:Any):(Tree) × D:=sel (zahp k v ks neg) ((.mk 1 0 []:Tree),Jx (.mk 1 0 [])) c
def Vl (k:Int) (v:Int) (ks:List Tree) (neg:Bool) (c:Any):Tree:=(zacc k v ks neg c).1
theorem l5Push_okD (k:Int) (v:Int) (ks:List Tree) (neg:Bool) (hw:WellF (.mk k v ks)) (c:Any):zahp k v ks neg (zacc k v ks neg c):=by
  have hx:zagj k v ks neg (.mk 1 0 []):=trivial
  exact Zd (p:=zahp k v ks neg) (x0:=((.mk 1 0 []:Tree),Jx (.mk 1 0 []))) ⟨hx,l5Push_flat _⟩ c
theorem Vn (k:Int) (v:Int) (ks:List Tree) (neg:Bool) {e_:Exit} {S_:St} (x:Tree) (he_:e_ = .ret ∨ e_ = .normal)
    (h1:(Qe Tryd.prog S_ Tryd.f78.results.toList).1 ∧ dat (resD (Qe Tryd.prog S_ Tryd.f78.results.toList).2.1) = Jx x) (hg:zagj k v ks neg x) :
    retR Tryd.prog Tryd.f78 (fun c=>((zacc k v ks neg c).2,fun _=>none)) e_ S_ :=
  Xz (good:=zahp k v ks neg) (enc:=fun x:(Tree) × D=>x.2) (x,resD (Qe Tryd.prog S_ Tryd.f78.results.toList).2.1) he_ ⟨h1.1,rfl⟩ ⟨hg,h1.2⟩
@[go_sem] def l5PushCn (n_:Nat):Con:=.rel fun args H=>match args with
  | [.st [.int .i64 k,.int .i64 v,.list n_ks c_ks],.bool neg]=>((Is cX n_ks c_ks) ∧ (WellF (.mk k v (de cX c_ks))) ∧ (tsz (.mk k v (de cX c_ks)) < n_),fun c=>(Jx (Vl k v (de cX c_ks) neg c),H))
  | _=>(False,fun _=>(.any,H))
theorem l5PushCn_ok {n_:Nat} (ih:∀ (k:Int) (v:Int) (ks:List Tree) (neg:Bool) (hw:WellF (.mk k v ks)) (hm_:tsz (.mk k v ks) < n_),SpecR Tryd.prog 78 [.st [.int .i64 k,.int .i64 v,li cX ks],.bool neg] (fun _=>none) (fun c=>((zacc k v ks neg c).2,fun _=>none))):ConOk Tryd.prog 78 (l5PushCn n_):=by
  refine ⟨Qq Tryd.func78 (by decide) rfl,fun args H h=>?_⟩
  revert h
  dsimp only
  split
  · intro h
    obtain ⟨⟨ks,rfl,rfl⟩,hw,hm_⟩:=h
    try simp only [Qj] at *
    exact SpecR.enc ((SpecR.frame0 (ih _ _ ks _ hw hm_) (H:=H)).shut) fun c=>Prod.ext (l5Push_okD _ _ _ _ hw c).2.symm rfl
  · intro h
    exact h.elim
set_option maxHeartbeats 8000000 in
theorem l5Push_rec:∀ (n_:Nat),∀ (k:Int) (v:Int) (ks:List Tree) (neg:Bool) (hw:WellF (.mk k v ks)) (hm_:tsz (.mk k v ks) < n_),SpecR Tryd.prog 78 [.st [.int .i64 k,.int .i64 v,li cX ks],.bool neg] (fun _=>none) (fun c=>((zacc k v ks neg c).2,fun _=>none)):=by
  intro n_
  induction n_ with
  | zero=>intros;omega
  | succ n_ ih =>
  intro k v ks neg hw hm_
  have Γr_ok:=Qp Γy12_ok (l5PushCn_ok ih)
  refine SpecR.of_walk Tryd.func78 rfl (by simp [Tryd.f78]) fun B=>?_
  have hk1:=hw.ks1;have hk2:=hw.ks2;have w4:=hw.at.2.2.2
  all_goals (repeat' (first
 | refine Qu ?_
 | refine Qc (id:=0) Γr_ok [] (by kernel_rfl) ?_;simp [-zg,-zd,↓Qb,↓Qa,go_sem];try (refine Xk 2 ?_;simp [go_sem])
 | refine Qc (id:=1) Γr_ok [] (by kernel_rfl) ?_;simp [-zg,-zd,↓Qb,↓Qa,go_sem]
 | refine Qc (id:=2) Γr_ok [] (by kernel_rfl) ?_;simp [-zg,-zd,↓Qb,↓Qa,go_sem]
 | refine Qc (id:=3) Γr_ok [] (by kernel_rfl) ?_;simp [-zg,-zd,↓Qb,↓Qa,go_sem]
 | refine Qc (id:=4) Γr_ok [] (by kernel_rfl) ?_;simp [-zg,-zd,↓Qb,↓Qa,go_sem]
 | refine Qc (id:=5) Γr_ok [] (by kernel_rfl) ?_;simp [-zg,-zd,↓Qb,↓Qa,go_sem];try (intro c5)
 | refine Qc (id:=6) Γr_ok [] (by kernel_rfl) ?_;simp [-zg,-zd,↓Qb,↓Qa,go_sem]
 | refine Qc (id:=7) Γr_ok [] (by kernel_rfl) ?_;simp [-zg,-zd,↓Qb,↓Qa,go_sem]
 | ((have ql:=hk1 (by omega));(have qk:0 < ks.length:=(by omega));(have qt:=Xh (k:=k) (v:=v) qk);(have qw:=w4 0 qk));refine Qc (id:=8) Γr_ok [] (by kernel_rfl) ?_;simp [-zg,-zd,↓Qb,↓Qa,go_sem,qk,Qg qk,zsP qk,Zi (f:=cX) qk,(show 3 ≤ ks.length * 3 by omega),(show tsz (nth ks 0) < n_ by omega),Tree.eta,qw];try (intro c8;generalize Vl (nth ks 0).k (nth ks 0).v (nth ks 0).ks (!neg) c8 = z8 at *)
 | refine Qc (id:=9) Γr_ok [] (by kernel_rfl) ?_;simp [-zg,-zd,↓Qb,↓Qa,go_sem]
 | ((have ql:=hk1 (by omega));(have qk:0 < ks.length:=(by omega));(have qt:=Xh (k:=k) (v:=v) qk);(have qw:=w4 0 qk));refine Qc (id:=10) Γr_ok [] (by kernel_rfl) ?_;simp [-zg,-zd,↓Qb,↓Qa,go_sem,qk,Qg qk,zsP qk,Zi (f:=cX) qk,(show 3 ≤ ks.length * 3 by omega),(show tsz (nth ks 0) < n_ by omega),Tree.eta,qw];try (intro c10;generalize Vl (nth ks 0).k (nth ks 0).v (nth ks 0).ks neg c10 = z10 at *)
 | refine Qc (id:=11) Γr_ok [] (by kernel_rfl) ?_;simp [-zg,-zd,↓Qb,↓Qa,go_sem]
 | refine Qc (id:=12) Γr_ok [] (by kernel_rfl) ?_;simp [-zg,-zd,↓Qb,↓Qa,go_sem]
 | ((have ql:=hk1 (by omega));(have qk:0 < ks.length:=(by omega));(have qt:=Xh (k:=k) (v:=v) qk);(have qw:=w4 0 qk));refine Qc (id:=13) Γr_ok [] (by kernel_rfl) ?_;simp [-zg,-zd,↓Qb,↓Qa,go_sem,qk,Qg qk,zsP qk,Zi (f:=cX) qk,(show 3 ≤ ks.length * 3 by omega),(show tsz (nth ks 0) < n_ by omega),Tree.eta,qw];try (intro c13;generalize Vl (nth ks 0).k (nth ks 0).v (nth ks 0).ks neg c13 = z13 at *;refine Xk 5 ?_;simp [go_sem])
 | refine Qc (id:=14) Γr_ok [] (by kernel_rfl) ?_;simp [-zg,-zd,↓Qb,↓Qa,go_sem]
 | refine Xr (id:=15) Γr_ok mixed [] [] [] (by kernel_rfl) (by kernel_rfl) (by simp [-zg,-zd,↓Qb,↓Qa,go_sem]) (by simp [-zg,-zd,↓Qb,↓Qa,go_sem]) ?_;simp [-zg,-zd,↓Qb,↓Qa,go_sem];try (intro c15;generalize zafs c15 = z15 at *)
 | refine Xr (id:=16) Γr_ok mixed [] [] [] (by kernel_rfl) (by kernel_rfl) (by simp [-zg,-zd,↓Qb,↓Qa,go_sem]) (by simp [-zg,-zd,↓Qb,↓Qa,go_sem]) ?_;simp [-zg,-zd,↓Qb,↓Qa,go_sem];try (intro c16 c16';generalize zafs c16 = z16 at *)
 | refine Qc (id:=17) Γr_ok [] (by kernel_rfl) ?_;simp [-zg,-zd,↓Qb,↓Qa,go_sem]
 | refine Qc (id:=18) Γr_ok [] (by kernel_rfl) ?_;simp [-zg,-zd,↓Qb,↓Qa,go_sem]
 | refine Qc (id:=19) Γr_ok [] (by kernel_rfl) ?_;simp [-zg,-zd,↓Qb,↓Qa,go_sem]
 | ((have ql:=hk2 (by omega) (by omega) (by omega) (by omega) (by omega) (by omega));(have qk:0 < ks.length:=(by omega));(have qj:1 < ks.length:=(by omega));(have qt:=Xh (k:=k) (v:=v) qk);(have qu:=Xh (k:=k) (v:=v) qj);(have qw:=w4 0 qk);(have qx:=w4 1 qj));refine Xr (id:=20) Γr_ok mixed [] [] [2,1] (by kernel_rfl) (by kernel_rfl) (by simp [-zg,-zd,↓Qb,↓Qa,go_sem,qk,Qg qk,zsP qk,qj,Zi (f:=cX) qk,(show 3 ≤ ks.length * 3 by omega),(show (cat cX ks).drop 3 = cat cX (ks.drop 1) from Zw (f:=cX) (sz:=3) ks 1),(show 3 ≤ ks.length * 3 - 3 by omega),(show 3 ≤ (ks.length - 1) * 3 by omega),(show (1:Int) < (ks.length:Int) by omega),zsP qj,(show tsz (nth ks 0) < n_ by omega),(show tsz (nth ks 1) < n_ by omega),Tree.eta,qw,qx]) (by simp [-zg,-zd,↓Qb,↓Qa,go_sem,qk,Qg qk,zsP qk,qj,Zi (f:=cX) qk,(show 3 ≤ ks.length * 3 by omega),(show (cat cX ks).drop 3 = cat cX (ks.drop 1) from Zw (f:=cX) (sz:=3) ks 1),(show 3 ≤ ks.length * 3 - 3 by omega),(show 3 ≤ (ks.length - 1) * 3 by omega),(show (1:Int) < (ks.length:Int) by omega),zsP qj,(show tsz (nth ks 0) < n_ by omega),(show tsz (nth ks 1) < n_ by omega),Tree.eta,qw,qx]) ?_;simp [-zg,-zd,↓Qb,↓Qa,go_sem,qk,Qg qk,zsP qk,qj,Zi (f:=cX) qk,(show 3 ≤ ks.length * 3 by omega),(show (cat cX ks).drop 3 = cat cX (ks.drop 1) from Zw (f:=cX) (sz:=3) ks 1),(show 3 ≤ ks.length * 3 - 3 by omega),(show 3 ≤ (ks.length - 1) * 3 by omega),(show (1:Int) < (ks.length:Int) by omega),zsP qj,(show tsz (nth ks 0) < n_ by omega),(show tsz (nth ks 1) < n_ by omega),Tree.eta,qw,qx];try (intro c20 c20';generalize Vl (nth ks 0).k (nth ks 0).v (nth ks 0).ks neg c20 = z20 at *;generalize Vl (nth ks 1).k (nth ks 1).v (nth ks 1).ks neg c20' = y20 at *)
 | refine Qd (c:=.tmp 9) ?_;simp [-zg,-zd,↓Qb,↓Qa,go_sem];try first | (refine ⟨?_,?_⟩ <;> refine zA ?_) | (refine ⟨fun c9=>?_,fun c9=>?_⟩ <;> (try simp [B_iff,B_not] at c9))
 | refine Qd (c:=.tmp 12) ?_;simp [-zg,-zd,↓Qb,↓Qa,go_sem];try first | (refine ⟨?_,?_⟩ <;> refine zA ?_) | (refine ⟨fun c12=>?_,fun c12=>?_⟩ <;> (try simp [B_iff,B_not] at c12))
 | refine Qd (c:=.tmp 24) ?_;simp [-zg,-zd,↓Qb,↓Qa,go_sem];try first | (refine ⟨?_,?_⟩ <;> refine zA ?_) | (refine ⟨fun c24=>?_,fun c24=>?_⟩ <;> (try simp [B_iff,B_not] at c24))
 | refine Qd (c:=.tmp 33) ?_;simp [-zg,-zd,↓Qb,↓Qa,go_sem];try first | (refine ⟨?_,?_⟩ <;> refine zA ?_) | (refine ⟨fun c33=>?_,fun c33=>?_⟩ <;> (try simp [B_iff,B_not] at c33))
 | refine Qd (c:=.tmp 43) ?_;simp [-zg,-zd,↓Qb,↓Qa,go_sem];try first | (refine ⟨?_,?_⟩ <;> refine zA ?_) | (refine ⟨fun c43=>?_,fun c43=>?_⟩ <;> (try simp [B_iff,B_not] at c43))
 | refine Qd (c:=.tmp 56) ?_;simp [-zg,-zd,↓Qb,↓Qa,go_sem];try first | (refine ⟨?_,?_⟩ <;> refine zA ?_) | (refine ⟨fun c56=>?_,fun c56=>?_⟩ <;> (try simp [B_iff,B_not] at c56))
 | refine Qd (c:=.tmp 68) ?_;simp [-zg,-zd,↓Qb,↓Qa,go_sem];try first | (refine ⟨?_,?_⟩ <;> refine zA ?_) | (refine ⟨fun c68=>?_,fun c68=>?_⟩ <;> (try simp [B_iff,B_not] at c68))
 | (refine Qh ?_)
 | (refine Qt ?_;simp [-zg,-zd,↓Qb,↓Qa,go_sem])
 | (refine Qs ?_;simp [-zg,-zd,↓Qb,↓Qa,go_sem])
 | (refine Qv ?_;try simp [-zg,-zd,↓Qb,↓Qa,go_sem,Tryd.results78])
 | (intro hx;refine zA ?_)
 | (intro hx;change retR _ _ _ _ _)
 | (refine ⟨?_,?_⟩ <;> refine zA ?_)
 | (intro hx;constructor <;> intro hs)
 | (constructor <;> intro hs)
 | (refine ⟨?_,fun hs=>?_⟩;refine zA ?_)
 | (refine ⟨fun hs=>?_,?_⟩;rotate_left;refine zA ?_;rotate_left)))
  all_goals (first
 | (refine Vn _ _ _ _ (.mk k v []) ?_ ?_ ?_;(first | exact Or.inl rfl | exact Or.inr rfl);(focus (simp [-zg,-zd,↓Qb,↓Qa,go_sem,Tryd.results78,dat,datL_map,li,Xe];done));(focus ((trivial);done)))
 | (refine Vn _ _ _ _ (l5Not_sel k v .nil c5) ?_ ?_ ?_;(first | exact Or.inl rfl | exact Or.inr rfl);(focus (simp [-zg,-zd,↓Qb,↓Qa,go_sem,Tryd.results78,dat,datL_map,li];done));(focus ((trivial);done)))
 | (refine Vn _ _ _ _ (z8) ?_ ?_ ?_;(first | exact Or.inl rfl | exact Or.inr rfl);(focus (simp [-zg,-zd,↓Qb,↓Qa,go_sem,Tryd.results78,dat,datL_map,li];done));(focus ((trivial);done)))
 | (refine Vn _ _ _ _ (.mk 6 0 [z10]) ?_ ?_ ?_;(first | exact Or.inl rfl | exact Or.inr rfl);(focus (simp [-zg,-zd,↓Qb,↓Qa,go_sem,Tryd.results78,dat,datL_map,li,Xj,cX_eq,Xe];done));(focus ((trivial);done)))
 | (refine Vn _ _ _ _ (.mk 7 0 [z15,z13]) ?_ ?_ ?_;(first | exact Or.inl rfl | exact Or.inr rfl);(focus (simp [-zg,-zd,↓Qb,↓Qa,go_sem,Tryd.results78,dat,datL_map,li,Xj,cX_eq,Xe];done));(focus ((trivial);done)))
 | (refine Vn _ _ _ _ (.mk 8 0 [l5Not_sel z16.k z16.v (li cX z16.ks) c16',z13]) ?_ ?_ ?_;(first | exact Or.inl rfl | exact Or.inr rfl);(focus (simp [-zg,-zd,↓Qb,↓Qa,go_sem,Tryd.results78,dat,datL_map,li,Xj,cX_eq,Xe];done));(focus ((trivial);done)))
 | (refine Vn _ _ _ _ (.mk k 0 [z20,y20]) ?_ ?_ ?_;(first | exact Or.inl rfl | exact Or.inr rfl);(focus (simp [-zg,-zd,↓Qb,↓Qa,go_sem,Tryd.results78,dat,datL_map,li,Xj,cX_eq,Xe];done));(focus ((trivial);done)))
 | (refine Vn _ _ _ _ (.mk (dualF k) 0 [z20,y20]) ?_ ?_ ?_;(first | exact Or.inl rfl | exact Or.inr rfl);(focus (simp [-zg,-zd,↓Qb,↓Qa,go_sem,Tryd.results78,dat,datL_map,li,Xj,cX_eq,Xe];done));(focus ((trivial);done)))
 | skip)
theorem l5Push_pure (k:Int) (v:Int) (ks:List Tree) (neg:Bool) (hw:WellF (.mk k v ks)):SpecR Tryd.prog 78 [.st [.int .i64 k,.int .i64 v,li cX ks],.bool neg] (fun _=>none) (fun c=>((zacc k v ks neg c).2,fun _=>none)):=l5Push_rec (tsz (.mk k v ks) + 1) k v ks neg hw (by omega)
@[go_sem] def l5PushC:Con:=.rel fun args H=>match args with
  | [.st [.int .i64 k,.int .i64 v,.list n_ks c_ks],.bool neg]=>((Is cX n_ks c_ks) ∧ (WellF (.mk k v (de cX c_ks))),fun c=>(Jx (Vl k v (de cX c_ks) neg c),H))
  | _=>(False,fun _=>(.any,H))
theorem l5PushC_ok:ConOk Tryd.prog 78 l5PushC:=by
  refine ⟨Qq Tryd.func78 (by decide) rfl,fun args H h=>?_⟩
  revert h
  dsimp only
  split
  · intro h
    obtain ⟨⟨ks,rfl,rfl⟩,hw⟩:=h
    try simp only [Qj] at *
    exact SpecR.enc ((SpecR.frame0 (l5Push_pure _ _ ks _ hw) (H:=H)).shut) fun c=>Prod.ext (l5Push_okD _ _ _ _ hw c).2.symm rfl
  · intro h
    exact h.elim
@[go_sem] def Γy13:FuncId → Con:=ext Γy12 78 l5PushC
theorem Vr:∀ g,ConOk Tryd.prog g (Γy13 g):=Qp Γy12_ok l5PushC_ok

end
end Go.Proofs.YtnfldmfamnhpcaaDoor.Vm

