import Derived.Test.YtkjimmkemnmajaaF3
import Derived.Test.YtkjimmkemnmajaaVm15
/-
  Systems: trees, edges, processes as cells; sz and to. No conditions.
-/
namespace Go.Proofs.Ytkjimmkemnmajaa.Vm
open Go
open Nat renaming sub_pos_of_lt → zsP
open List renaming getD_eq_getElem?_getD → zg,drop_one → zd,replicate → zrP
noncomputable section
set_option linter.unusedVariables false
set_option linter.unusedSimpArgs false
set_option maxRecDepth 200000

attribute [go_sem] one
@[go_sem] theorem mk22 (a b:D):makeD [a,b] 2 = [a,b]:=rfl
@[go_sem] theorem mk33 (a b c:D):makeD [a,b,c] 3 = [a,b,c]:=rfl
@[go_sem] theorem mk36 (a b c:D):makeD [a,b,c] 6 = [a,b,c,a,b,c]:=by simp [makeD,List.range_succ]
@[go_sem] theorem mk44 (a b c d:D):makeD [a,b,c,d] 4 = [a,b,c,d]:=rfl
@[go_sem] theorem mkEE (a b c d e f g h i j:D):makeD [a,b,c,d,e,f,g,h,i,j] 10 = [a,b,c,d,e,f,g,h,i,j]:=rfl
@[go_sem] theorem ss9 (x0 x1 x2 x3 x4 x5 x6 x7 x8 x9 y:D) (l:List D):stSeg (x0 :: x1 :: x2 :: x3 :: x4 :: x5 :: x6 :: x7 :: x8 :: x9 :: l) 9 [y] = x0 :: x1 :: x2 :: x3 :: x4 :: x5 :: x6 :: x7 :: x8 :: y :: l:=rfl
@[go_sem] theorem ssE6 (x0 x1 x2 x3 x4 x5 x6 x7 x8 y z u:D) (l:List D):stSeg (x0 :: x1 :: x2 :: x3 :: x4 :: x5 :: x6 :: x7 :: x8 :: l) 6 [y,z,u] = x0 :: x1 :: x2 :: x3 :: x4 :: x5 :: y :: z :: u :: l:=rfl
@[go_sem] theorem ssE0 (x0 x1 x2 x3 x4 x5 x6 x7 x8 x9 y0 y1 y2 y3 y4 y5 y6 y7 y8 y9:D) (l:List D):stSeg (x0 :: x1 :: x2 :: x3 :: x4 :: x5 :: x6 :: x7 :: x8 :: x9 :: l) 0 [y0,y1,y2,y3,y4,y5,y6,y7,y8,y9] = y0 :: y1 :: y2 :: y3 :: y4 :: y5 :: y6 :: y7 :: y8 :: y9 :: l:=rfl
inductive Tree where
  | mk (k v:Int) (ks:List Tree)
def Tree.k:Tree → Int | .mk k _ _=>k
def Tree.v:Tree → Int | .mk _ v _=>v
def Tree.ks:Tree → List Tree | .mk _ _ ks=>ks
instance:Inhabited Tree:=⟨.mk 0 0 []⟩
theorem Tree.eta (t:Tree):Tree.mk t.k t.v t.ks = t:=by cases t;rfl
@[go_sem] theorem Tree.k_mk (k v:Int) (ks:List Tree):(Tree.mk k v ks).k = k:=rfl
@[go_sem] theorem Tree.v_mk (k v:Int) (ks:List Tree):(Tree.mk k v ks).v = v:=rfl
@[go_sem] theorem Tree.ks_mk (k v:Int) (ks:List Tree):(Tree.mk k v ks).ks = ks:=rfl
mutual
def cX:Tree → List D
  | .mk k v ks=>[.int .i64 k,.int .i64 v,.list ks.length (cXs ks)]
def cXs:List Tree → List D
  | []=>[]
  | t :: ts=>cX t ++ cXs ts
end
theorem cXs_eq:∀ ts,cXs ts = cat cX ts
  | []=>rfl
  | t :: ts=>by rw [cXs,cXs_eq ts,Zj]
theorem cX_mk (k v:Int) (ks:List Tree):cX (.mk k v ks) = [.int .i64 k,.int .i64 v,li cX ks]:=by rw [cX,cXs_eq];rfl
theorem cX_eq (t:Tree):cX t = [.int .i64 t.k,.int .i64 t.v,li cX t.ks]:=by cases t;exact cX_mk ..
instance:Wide cX 3:=⟨fun a=>by rw [cX_eq];rfl,by omega,fun a=>by rw [cX_eq];rfl⟩
theorem cX_deref (a:Tree) (H:Hp) (j:Nat):(cX a).map (deref (j + 1) H) = cX a:=by rw [cX_eq];simp [deref,li]
mutual
theorem cX_bnd:∀ (a:Tree) (N:Nat),bndL N (cX a)
  | .mk k v ks,N=>by rw [cX];exact ⟨trivial,trivial,by simp only [bnd];exact cXs_bnd ks N,trivial⟩
theorem cXs_bnd:∀ (ts:List Tree) (N:Nat),bndL N (cXs ts)
  | [],N=>by simp [cXs,bndL]
  | t :: ts,N=>by
    rw [cXs,Qf]
    intro d hd
    rcases List.mem_append.1 hd with h | h
    · exact Qf.1 (cX_bnd t N) d h
    · exact Qf.1 (cXs_bnd ts N) d h
end
mutual
theorem cX_inj:∀ (a b:Tree),cX a = cX b → a = b
  | .mk k v ks,.mk k' v' ks',h=>by
    rw [cX,cX] at h
    simp only [List.cons.injEq,D.int.injEq,true_and,D.list.injEq,and_true] at h
    obtain ⟨rfl,rfl,_,h⟩:=h
    rw [cXs_inj ks ks' h]
theorem cXs_inj:∀ (a b:List Tree),cXs a = cXs b → a = b
  | [],[],h=>rfl
  | [],t :: ts,h=>by
    have:=congrArg List.length h
    rw [cXs,cXs,List.length_append,Wide.len (f:=cX)] at this;simp at this;omega
  | t :: ts,[],h=>by
    have:=congrArg List.length h
    rw [cXs,cXs,List.length_append,Wide.len (f:=cX)] at this;simp at this
  | t :: ts,u :: us,h=>by
    rw [cXs,cXs] at h
    obtain ⟨h1,h2⟩:=List.append_inj h (by rw [Wide.len (f:=cX),Wide.len (f:=cX)])
    rw [cX_inj t u h1,cXs_inj ts us h2]
end
instance:Plain cX:=⟨fun a=>by rw [cX_eq];rfl,cX_deref,cX_bnd,cX_inj⟩
attribute [go_sem] cX_eq
class Flat {α:Type} (f:α → List D):Prop where
  dat:∀ a,(f a).map dat = f a
section
variable {α:Type} {f:α → List D}
@[go_sem] theorem cat_flat [Flat f] (xs:List α):datL (cat f xs) = cat f xs:=by
  rw [datL_map,map_cat];congr 1;funext a;exact Flat.dat a
@[go_sem] theorem cat_flat2 [Flat f] (xs:List α):(cat f xs).map dat = cat f xs:=by
  rw [map_cat];congr 1;funext a;exact Flat.dat a
end
instance:Flat cX:=⟨fun a=>by rw [cX_eq];rfl⟩
structure Ed where
  fr:Int
  to:Int
  g:Tree
  v:Int
  e:Tree
  sy:Int
instance:Inhabited Ed:=⟨⟨0,0,default,0,default,0⟩⟩
def cE (x:Ed):List D:=[.int .i64 x.fr,.int .i64 x.to,.int .i64 x.g.k,.int .i64 x.g.v,li cX x.g.ks,.int .i64 x.v,.int .i64 x.e.k,.int .i64 x.e.v,li cX x.e.ks,.int .i64 x.sy]
instance:Wide cE 10:=⟨fun _=>rfl,by omega,fun _=>rfl⟩
instance:Flat cE:=⟨fun _=>rfl⟩
instance:Plain cE:=⟨fun _=>rfl,fun a H j=>by simp [cE,deref,li],fun a N=>by simp only [cE,bndL,bnd,true_and,and_true];exact ⟨li_bnd N _,li_bnd N _⟩,fun a b h=>by
  simp only [cE,List.cons.injEq,D.int.injEq,true_and,and_true] at h
  obtain ⟨h1,h2,h3,h4,h5,h6,h7,h8,h9,h10⟩:=h
  have e1:a.g = b.g:=by rw [← Tree.eta a.g,← Tree.eta b.g,h3,h4,li_inj h5]
  have e2:a.e = b.e:=by rw [← Tree.eta a.e,← Tree.eta b.e,h7,h8,li_inj h9]
  cases a;cases b;simp_all⟩
structure Pr where
  loc:Int
  es:List Ed
instance:Inhabited Pr:=⟨⟨0,[]⟩⟩
def cR (x:Pr):List D:=[.int .i64 x.loc,li cE x.es]
instance:Wide cR 2:=⟨fun _=>rfl,by omega,fun _=>rfl⟩
instance:Flat cR:=⟨fun _=>rfl⟩
instance:Plain cR:=⟨fun _=>rfl,fun a H j=>by simp [cR,deref,li],fun a N=>by simp only [cR,bndL,bnd,true_and,and_true];exact li_bnd N _,fun a b h=>by
  simp only [cR,List.cons.injEq,D.int.injEq,true_and,and_true] at h
  have:=li_inj h.2
  cases a;cases b;simp_all⟩
attribute [go_sem] cE cR
instance:Flat cI:=⟨fun _=>rfl⟩
instance:Flat cP:=⟨fun _=>rfl⟩
instance:Flat cL:=⟨fun _=>rfl⟩
@[go_sem] theorem ssE2 (x0 x1 x2 x3 x4 y z u:D) (l:List D):stSeg (x0 :: x1 :: x2 :: x3 :: x4 :: l) 2 [y,z,u] = x0 :: x1 :: y :: z :: u :: l:=rfl

mutual
def tm:Tree → Nat
  | .mk _ _ ks=>tms ks
def tms:List Tree → Nat
  | []=>0
  | t :: ts=>1 + tm t + tms ts
end
theorem tms_eq:∀ ts,tms ts = ts.length + msum tm ts ts.length
  | []=>by simp [tms,msum]
  | t :: ts=>by rw [tms,tms_eq ts];simp [msum];omega
theorem tm_eq (t:Tree):tm t = t.ks.length + msum tm t.ks t.ks.length:=by cases t;rw [tm,tms_eq];rfl
theorem tm_lt {xs:List Tree} {k n:Nat} (h:k < xs.length) (hn:xs.length + msum tm xs xs.length < n + 1):(nth xs k).ks.length + msum tm (nth xs k).ks (nth xs k).ks.length < n:=by
  have:=msum_at (m:=tm) h;rw [tm_eq] at this;omega
def mE (x:Ed):Nat:=(x.g.ks.length + msum tm x.g.ks x.g.ks.length) + (x.e.ks.length + msum tm x.e.ks x.e.ks.length)
def mR (x:Pr):Nat:=x.es.length + msum mE x.es x.es.length

@[go_sem] def zadp (n_:Nat):Con:=.pure fun
  | [.list n_xs c_xs,.int .i64 left]=>((Is cX n_xs c_xs) ∧ (-1 ≤ left) ∧ (left ≤ 1048576) ∧ ((de cX c_xs).length + msum tm (de cX c_xs) (de cX c_xs).length < n_),.int .i64 (szOf left ((de cX c_xs).length + msum tm (de cX c_xs) (de cX c_xs).length)))
  | _=>(False,.any)
theorem zabs {n_:Nat} (ih:∀ (xs:List Tree) (left:Int) (h0:-1 ≤ left) (h1:left ≤ 1048576) (hm_:xs.length + msum tm xs xs.length < n_),Pure Try.prog 277 [li cX xs,.int .i64 left] (.int .i64 (szOf left (xs.length + msum tm xs xs.length)))):ConOk Try.prog 277 (zadp n_):=by
  refine ⟨Qm Try.func277 (by decide) rfl,fun args h=>?_⟩
  revert h
  dsimp only
  split
  · intro h
    obtain ⟨⟨xs,rfl,rfl⟩,h0,h1,hm_⟩:=h
    try simp only [Ql] at *
    exact ⟨ih xs _ h0 h1 hm_,by simp [go_sem]⟩
  · intro h
    exact h.elim
@[go_sem] def zaen (n_:Nat):Con:=.pure fun
  | [.st [.int .i64 k,.int .i64 v,.list n_ks c_ks],.int .i64 left]=>((Is cX n_ks c_ks) ∧ (-1 ≤ left) ∧ (left ≤ 1048576) ∧ ((de cX c_ks).length + msum tm (de cX c_ks) (de cX c_ks).length < n_),.int .i64 (szOf left ((de cX c_ks).length + msum tm (de cX c_ks) (de cX c_ks).length)))
  | _=>(False,.any)
theorem zafn {n_:Nat} (ih:∀ (k:Int) (v:Int) (ks:List Tree) (left:Int) (h0:-1 ≤ left) (h1:left ≤ 1048576) (hm_:ks.length + msum tm ks ks.length < n_),Pure Try.prog 261 [.st [.int .i64 k,.int .i64 v,li cX ks],.int .i64 left] (.int .i64 (szOf left (ks.length + msum tm ks ks.length)))):ConOk Try.prog 261 (zaen n_):=by
  refine ⟨Qm Try.func261 (by decide) rfl,fun args h=>?_⟩
  revert h
  dsimp only
  split
  · intro h
    obtain ⟨⟨ks,rfl,rfl⟩,h0,h1,hm_⟩:=h
    try simp only [Ql] at *
    exact ⟨ih _ _ ks _ h0 h1 hm_,by simp [go_sem]⟩
  · intro h
    exact h.elim
theorem zacc {n_:Nat} (ih:∀ (xs:List Tree) (left:Int) (h0:-1 ≤ left) (h1:left ≤ 1048576) (hm_:xs.length + msum tm xs xs.length < n_),Pure Try.prog 277 [li cX xs,.int .i64 left] (.int .i64 (szOf left (xs.length + msum tm xs xs.length)))):∀ (k:Int) (v:Int) (ks:List Tree) (left:Int) (h0:-1 ≤ left) (h1:left ≤ 1048576) (hm_:ks.length + msum tm ks ks.length < n_),Pure Try.prog 261 [.st [.int .i64 k,.int .i64 v,li cX ks],.int .i64 left] (.int .i64 (szOf left (ks.length + msum tm ks ks.length))):=by
  intro k v ks left h0 h1 hm_
  have Γr_ok:=Qj Γ23_ok (zabs ih)
  refine Pure.of_walk Try.func261 rfl (by simp [Try.f261]) (by simp [-zd,go_sem]) fun B hK=>?_
  (repeat' (first
 | refine Qx ?_
 | refine Qc (id:=0) Γr_ok [] (by kernel_rfl) ?_;simp [-zg,-zd,↓Qb,↓Qa,go_sem];try (refine Qt hK 2 ?_;simp [go_sem])
 | refine Qc (id:=1) Γr_ok [] (by kernel_rfl) ?_;simp [-zg,-zd,↓Qb,↓Qa,go_sem,h0,h1,hm_]
 | refine Qc (id:=2) Γr_ok [] (by kernel_rfl) ?_;simp [-zg,-zd,↓Qb,↓Qa,go_sem]
 | refine Qc (id:=3) Γr_ok [] (by kernel_rfl) ?_;simp [-zg,-zd,↓Qb,↓Qa,go_sem]
 | refine Qc (id:=4) Γr_ok [] (by kernel_rfl) ?_;simp [-zg,-zd,↓Qb,↓Qa,go_sem]
 | refine Qd (c:=.tmp 10) ?_;simp [-zg,-zd,↓Qb,↓Qa,go_sem];try first | (refine ⟨?_,?_⟩ <;> refine zA ?_) | (refine ⟨fun c10=>?_,fun c10=>?_⟩ <;> (try simp [B_iff,B_not] at c10))
 | (refine Qh ?_)
 | (refine Qv ?_;simp [-zg,-zd,↓Qb,↓Qa,go_sem])
 | (refine Qu ?_;simp [-zg,-zd,↓Qb,↓Qa,go_sem])
 | (refine Qy ?_;simp [-zg,-zd,↓Qb,↓Qa,go_sem,Try.results261])
 | (intro hx;refine zA ?_)
 | (refine ⟨?_,?_⟩ <;> refine zA ?_)
 | (intro hx;constructor <;> intro hs)
 | (constructor <;> intro hs)
 | (refine ⟨?_,fun hs=>?_⟩;refine zA ?_)
 | (refine ⟨fun hs=>?_,?_⟩;rotate_left;refine zA ?_;rotate_left)))
  all_goals (first
 | exact (Zi (by assumption) h0 (by omega)).symm
 | skip)
theorem zacd:∀ (n_:Nat),∀ (xs:List Tree) (left:Int) (h0:-1 ≤ left) (h1:left ≤ 1048576) (hm_:xs.length + msum tm xs xs.length < n_),Pure Try.prog 277 [li cX xs,.int .i64 left] (.int .i64 (szOf left (xs.length + msum tm xs xs.length))):=by
  intro n_
  induction n_ with
  | zero=>intros;omega
  | succ n_ ih =>
  intro xs left h0 h1 hm_
  have Γr_ok:=Qj (Qj Γ23_ok (zabs ih)) (zafn (zacc ih))
  refine Pure.of_walk Try.func277 rfl (by simp [Try.f277]) (by simp [-zd,go_sem]) fun B hK=>?_
  (repeat' (first
 | refine Qx ?_
 | (refine Xp 0 rfl fun hm=>?_);refine Qc (id:=0) Γr_ok [] (by kernel_rfl) ?_;simp [-zg,-zd,↓Qb,↓Qa,go_sem]
 | refine Qc (id:=1) Γr_ok [] (by kernel_rfl) ?_;simp [-zg,-zd,↓Qb,↓Qa,go_sem,wrap_sub h0 h1 hm]
 | refine Qc (id:=2) Γr_ok [] (by kernel_rfl) ?_;simp [-zg,-zd,↓Qb,↓Qa,go_sem]
 | refine Qc (id:=3) Γr_ok [] (by kernel_rfl) ?_;simp [-zg,-zd,↓Qb,↓Qa,go_sem]
 | refine Qc (id:=4) Γr_ok [] (by kernel_rfl) ?_;simp [-zg,-zd,↓Qb,↓Qa,go_sem]
 | refine Qc (id:=5) Γr_ok [] (by kernel_rfl) ?_;simp [-zg,-zd,↓Qb,↓Qa,go_sem,wrapS (k:=k) (by omega)]
 | refine Qc (id:=7) Γr_ok [] (by kernel_rfl) ?_;simp [-zg,-zd,↓Qb,↓Qa,go_sem,c15,Qk c15,zsP c15,zahm h0,zafm h1,tm_lt c15 hm_]
 | refine Qc (id:=8) Γr_ok [] (by kernel_rfl) ?_;simp [-zg,-zd,↓Qb,↓Qa,go_sem]
 | refine Qc (id:=9) Γr_ok [] (by kernel_rfl) ?_;simp [-zg,-zd,↓Qb,↓Qa,go_sem]
 | refine Qc (id:=6) Γr_ok [] (by kernel_rfl) ?_;simp [-zg,-zd,↓Qb,↓Qa,go_sem,wrapS (k:=k) (by omega)]
 | refine Qc (id:=10) Γr_ok [] (by kernel_rfl) ?_;simp [-zg,-zd,↓Qb,↓Qa,go_sem]
 | refine Qd (c:=.tmp 11) ?_;simp [-zg,-zd,↓Qb,↓Qa,go_sem];try first | (refine ⟨?_,?_⟩ <;> refine zA ?_) | (refine ⟨fun c11=>?_,fun c11=>?_⟩ <;> (try simp [B_iff,B_not] at c11))
 | refine Qd (c:=.tmp 15) ?_;simp [-zg,-zd,↓Qb,↓Qa,go_sem];try first | (refine ⟨?_,?_⟩ <;> refine zA ?_) | (refine ⟨fun c15=>?_,fun c15=>?_⟩ <;> (try simp [B_iff,B_not] at c15))
 | refine Qd (c:=.tmp 25) ?_;simp [-zg,-zd,↓Qb,↓Qa,go_sem];try first | (refine ⟨?_,?_⟩ <;> refine zA ?_) | (refine ⟨fun c25=>?_,fun c25=>?_⟩ <;> (try simp [B_iff,B_not] at c25))
 | (refine Qh (id:=0) (Xf (ι:=Nat) (fun k:Nat=>⟨(upd (upd (upd (fun _=>.any) 0 (li cX xs)) 1 (.int .i64 (szOf left (xs.length + msum tm xs k)))) 5 (.int .i64 k)),fun _=>none⟩) (fun k=>k ≤ xs.length) (fun k=>xs.length - k) (0) ?_ ?_ ?_);exact Nat.zero_le _;((repeat' (first | exact Qp (by assumption) | exact Qr | refine Qs ?_ ?_ | refine Qq ?_)) <;> simp [-zg,-zd,↓Qb,↓Qa,go_sem,szOf_yes c11]);rintro k hk)
 | (refine ⟨k + 1,by omega,by first | omega | (simp;done) | (simp;omega),?_⟩;((repeat' (first | exact Qp (by assumption) | exact Qr | refine Qs ?_ ?_ | refine Qq ?_)) <;> simp [-zg,-zd,↓Qb,↓Qa,go_sem,Xq h0,zabl c15,tm_eq,Nat.add_assoc]))
 | (refine Qh ?_)
 | (refine Qv ?_;simp [-zg,-zd,↓Qb,↓Qa,go_sem])
 | (refine Qu ?_;simp [-zg,-zd,↓Qb,↓Qa,go_sem])
 | (refine Qy ?_;simp [-zg,-zd,↓Qb,↓Qa,go_sem,Try.results277])
 | (intro hx;refine zA ?_)
 | (refine ⟨?_,?_⟩ <;> refine zA ?_)
 | (intro hx;constructor <;> intro hs)
 | (constructor <;> intro hs)
 | (refine ⟨?_,fun hs=>?_⟩;refine zA ?_)
 | (refine ⟨fun hs=>?_,?_⟩;rotate_left;refine zA ?_;rotate_left)))
  all_goals (first
 | rw [szOf_no (by omega)]
 | (rw [Xq h0,Nat.add_assoc] at *;have hms:=zabl (m:=tm) c15;have hmm:=zafb (m:=tm) (xs:=xs) (show k + 1 ≤ xs.length from c15);simp only [tm_eq] at hms;exact (Zi (by assumption) h0 (by omega)).symm)
 | (rw [msum_ge (by omega)])
 | skip)
theorem szExprS_pure (xs:List Tree) (left:Int) (h0:-1 ≤ left) (h1:left ≤ 1048576):Pure Try.prog 277 [li cX xs,.int .i64 left] (.int .i64 (szOf left (xs.length + msum tm xs xs.length))):=zacd (xs.length + msum tm xs xs.length + 1) xs left h0 h1 (by omega)
theorem szExpr_pure (k:Int) (v:Int) (ks:List Tree) (left:Int) (h0:-1 ≤ left) (h1:left ≤ 1048576):Pure Try.prog 261 [.st [.int .i64 k,.int .i64 v,li cX ks],.int .i64 left] (.int .i64 (szOf left (ks.length + msum tm ks ks.length))):=zacc (n_:=ks.length + msum tm ks ks.length + 1) (zacd _) k v ks left h0 h1 (by omega)
@[go_sem] def zace:Con:=.pure fun
  | [.list n_xs c_xs,.int .i64 left]=>((Is cX n_xs c_xs) ∧ (-1 ≤ left) ∧ (left ≤ 1048576),.int .i64 (szOf left ((de cX c_xs).length + msum tm (de cX c_xs) (de cX c_xs).length)))
  | _=>(False,.any)
theorem zafo:ConOk Try.prog 277 zace:=by
  refine ⟨Qm Try.func277 (by decide) rfl,fun args h=>?_⟩
  revert h
  dsimp only
  split
  · intro h
    obtain ⟨⟨xs,rfl,rfl⟩,h0,h1⟩:=h
    try simp only [Ql] at *
    exact ⟨szExprS_pure xs _ h0 h1,by simp [go_sem]⟩
  · intro h
    exact h.elim
@[go_sem] def Γt1:FuncId → Con:=ext Γ23 277 zace
theorem Γt1_ok:∀ g,ConOk Try.prog g (Γt1 g):=Qj Γ23_ok zafo
@[go_sem] def zadc:Con:=.pure fun
  | [.st [.int .i64 k,.int .i64 v,.list n_ks c_ks],.int .i64 left]=>((Is cX n_ks c_ks) ∧ (-1 ≤ left) ∧ (left ≤ 1048576),.int .i64 (szOf left ((de cX c_ks).length + msum tm (de cX c_ks) (de cX c_ks).length)))
  | _=>(False,.any)
theorem zagv:ConOk Try.prog 261 zadc:=by
  refine ⟨Qm Try.func261 (by decide) rfl,fun args h=>?_⟩
  revert h
  dsimp only
  split
  · intro h
    obtain ⟨⟨ks,rfl,rfl⟩,h0,h1⟩:=h
    try simp only [Ql] at *
    exact ⟨szExpr_pure _ _ ks _ h0 h1,by simp [go_sem]⟩
  · intro h
    exact h.elim
@[go_sem] def Γt2:FuncId → Con:=ext Γt1 261 zadc
theorem Zl:∀ g,ConOk Try.prog g (Γt2 g):=Qj Γt1_ok zagv

theorem szEdge_pure (fr_:Int) (to:Int) (gk:Int) (gv:Int) (gs:List Tree) (v:Int) (ek:Int) (ev:Int) (es:List Tree) (sy:Int) (left:Int) (h0:-1 ≤ left) (h1:left ≤ 1048576):Pure Try.prog 237 [.st [.int .i64 fr_,.int .i64 to,.int .i64 gk,.int .i64 gv,li cX gs,.int .i64 v,.int .i64 ek,.int .i64 ev,li cX es,.int .i64 sy],.int .i64 left] (.int .i64 (szOf left ((gs.length + msum tm gs gs.length) + (es.length + msum tm es es.length)))):=by
  refine Pure.of_walk Try.func237 rfl (by simp [Try.f237]) (by simp [-zd,go_sem]) fun B hK=>?_
  (repeat' (first
 | refine Qx ?_
 | refine Qc (id:=0) Zl [] (by kernel_rfl) ?_;simp [-zg,-zd,↓Qb,↓Qa,go_sem];try (refine Qt hK 2 ?_;simp [go_sem])
 | refine Qc (id:=1) Zl [] (by kernel_rfl) ?_;simp [-zg,-zd,↓Qb,↓Qa,go_sem,h0,h1]
 | refine Qc (id:=2) Zl [] (by kernel_rfl) ?_;simp [-zg,-zd,↓Qb,↓Qa,go_sem]
 | refine Qc (id:=3) Zl [] (by kernel_rfl) ?_;simp [-zg,-zd,↓Qb,↓Qa,go_sem]
 | refine Qc (id:=4) Zl [] (by kernel_rfl) ?_;simp [-zg,-zd,↓Qb,↓Qa,go_sem,zahm h0,zafm h1]
 | refine Qc (id:=5) Zl [] (by kernel_rfl) ?_;simp [-zg,-zd,↓Qb,↓Qa,go_sem]
 | refine Qc (id:=6) Zl [] (by kernel_rfl) ?_;simp [-zg,-zd,↓Qb,↓Qa,go_sem]
 | refine Qc (id:=7) Zl [] (by kernel_rfl) ?_;simp [-zg,-zd,↓Qb,↓Qa,go_sem,Xq h0]
 | refine Qd (c:=.tmp 10) ?_;simp [-zg,-zd,↓Qb,↓Qa,go_sem];try first | (refine ⟨?_,?_⟩ <;> refine zA ?_) | (refine ⟨fun c10=>?_,fun c10=>?_⟩ <;> (try simp [B_iff,B_not] at c10))
 | refine Qd (c:=.tmp 16) ?_;simp [-zg,-zd,↓Qb,↓Qa,go_sem];try first | (refine ⟨?_,?_⟩ <;> refine zA ?_) | (refine ⟨fun c16=>?_,fun c16=>?_⟩ <;> (try simp [B_iff,B_not] at c16))
 | (refine Qh ?_)
 | (refine Qv ?_;simp [-zg,-zd,↓Qb,↓Qa,go_sem])
 | (refine Qu ?_;simp [-zg,-zd,↓Qb,↓Qa,go_sem])
 | (refine Qy ?_;simp [-zg,-zd,↓Qb,↓Qa,go_sem,Try.results237])
 | (intro hx;refine zA ?_)
 | (refine ⟨?_,?_⟩ <;> refine zA ?_)
 | (intro hx;constructor <;> intro hs)
 | (constructor <;> intro hs)
 | (refine ⟨?_,fun hs=>?_⟩;refine zA ?_)
 | (refine ⟨fun hs=>?_,?_⟩;rotate_left;refine zA ?_;rotate_left)))
  all_goals (first
 | exact (Zi (by assumption) h0 (by omega)).symm
 | (rw [Xq h0] at *;exact (Zi (by assumption) h0 (by omega)).symm)
 | (rw [Xq h0])
 | skip)
@[go_sem] def zadd:Con:=.pure fun
  | [.st [.int .i64 fr_,.int .i64 to,.int .i64 gk,.int .i64 gv,.list n_gs c_gs,.int .i64 v,.int .i64 ek,.int .i64 ev,.list n_es c_es,.int .i64 sy],.int .i64 left]=>((Is cX n_gs c_gs) ∧ (Is cX n_es c_es) ∧ (-1 ≤ left) ∧ (left ≤ 1048576),.int .i64 (szOf left (((de cX c_gs).length + msum tm (de cX c_gs) (de cX c_gs).length) + ((de cX c_es).length + msum tm (de cX c_es) (de cX c_es).length))))
  | _=>(False,.any)
theorem zagw:ConOk Try.prog 237 zadd:=by
  refine ⟨Qm Try.func237 (by decide) rfl,fun args h=>?_⟩
  revert h
  dsimp only
  split
  · intro h
    obtain ⟨⟨gs,rfl,rfl⟩,⟨es,rfl,rfl⟩,h0,h1⟩:=h
    try simp only [Ql] at *
    exact ⟨szEdge_pure _ _ _ _ gs _ _ _ es _ _ h0 h1,by simp [go_sem]⟩
  · intro h
    exact h.elim
@[go_sem] def Γt3:FuncId → Con:=ext Γt2 237 zadd
theorem Xu:∀ g,ConOk Try.prog g (Γt3 g):=Qj Zl zagw

theorem szEdgeS_pure (xs:List Ed) (left:Int) (h0:-1 ≤ left) (h1:left ≤ 1048576):Pure Try.prog 209 [li cE xs,.int .i64 left] (.int .i64 (szOf left (xs.length + msum mE xs xs.length))):=by
  refine Pure.of_walk Try.func209 rfl (by simp [Try.f209]) (by simp [-zd,go_sem]) fun B hK=>?_
  (repeat' (first
 | refine Qx ?_
 | (refine Xp 0 rfl fun hm=>?_);refine Qc (id:=0) Xu [] (by kernel_rfl) ?_;simp [-zg,-zd,↓Qb,↓Qa,go_sem]
 | refine Qc (id:=1) Xu [] (by kernel_rfl) ?_;simp [-zg,-zd,↓Qb,↓Qa,go_sem,wrap_sub h0 h1 hm]
 | refine Qc (id:=2) Xu [] (by kernel_rfl) ?_;simp [-zg,-zd,↓Qb,↓Qa,go_sem]
 | refine Qc (id:=3) Xu [] (by kernel_rfl) ?_;simp [-zg,-zd,↓Qb,↓Qa,go_sem]
 | refine Qc (id:=4) Xu [] (by kernel_rfl) ?_;simp [-zg,-zd,↓Qb,↓Qa,go_sem]
 | refine Qc (id:=5) Xu [] (by kernel_rfl) ?_;simp [-zg,-zd,↓Qb,↓Qa,go_sem,wrapS (k:=k) (by omega)]
 | refine Qc (id:=7) Xu [] (by kernel_rfl) ?_;simp [-zg,-zd,↓Qb,↓Qa,go_sem,c15,Qk c15,zsP c15,zahm h0,zafm h1]
 | refine Qc (id:=8) Xu [] (by kernel_rfl) ?_;simp [-zg,-zd,↓Qb,↓Qa,go_sem]
 | refine Qc (id:=9) Xu [] (by kernel_rfl) ?_;simp [-zg,-zd,↓Qb,↓Qa,go_sem]
 | refine Qc (id:=6) Xu [] (by kernel_rfl) ?_;simp [-zg,-zd,↓Qb,↓Qa,go_sem,wrapS (k:=k) (by omega)]
 | refine Qc (id:=10) Xu [] (by kernel_rfl) ?_;simp [-zg,-zd,↓Qb,↓Qa,go_sem]
 | refine Qd (c:=.tmp 11) ?_;simp [-zg,-zd,↓Qb,↓Qa,go_sem];try first | (refine ⟨?_,?_⟩ <;> refine zA ?_) | (refine ⟨fun c11=>?_,fun c11=>?_⟩ <;> (try simp [B_iff,B_not] at c11))
 | refine Qd (c:=.tmp 15) ?_;simp [-zg,-zd,↓Qb,↓Qa,go_sem];try first | (refine ⟨?_,?_⟩ <;> refine zA ?_) | (refine ⟨fun c15=>?_,fun c15=>?_⟩ <;> (try simp [B_iff,B_not] at c15))
 | refine Qd (c:=.tmp 25) ?_;simp [-zg,-zd,↓Qb,↓Qa,go_sem];try first | (refine ⟨?_,?_⟩ <;> refine zA ?_) | (refine ⟨fun c25=>?_,fun c25=>?_⟩ <;> (try simp [B_iff,B_not] at c25))
 | (refine Qh (id:=0) (Xf (ι:=Nat) (fun k:Nat=>⟨(upd (upd (upd (fun _=>.any) 0 (li cE xs)) 1 (.int .i64 (szOf left (xs.length + msum mE xs k)))) 5 (.int .i64 k)),fun _=>none⟩) (fun k=>k ≤ xs.length) (fun k=>xs.length - k) (0) ?_ ?_ ?_);exact Nat.zero_le _;((repeat' (first | exact Qp (by assumption) | exact Qr | refine Qs ?_ ?_ | refine Qq ?_)) <;> simp [-zg,-zd,↓Qb,↓Qa,go_sem,szOf_yes c11]);rintro k hk)
 | (refine ⟨k + 1,by omega,by first | omega | (simp;done) | (simp;omega),?_⟩;((repeat' (first | exact Qp (by assumption) | exact Qr | refine Qs ?_ ?_ | refine Qq ?_)) <;> simp [-zg,-zd,↓Qb,↓Qa,go_sem,Xq h0,zabl c15,mE,Nat.add_assoc]))
 | (refine Qh ?_)
 | (refine Qv ?_;simp [-zg,-zd,↓Qb,↓Qa,go_sem])
 | (refine Qu ?_;simp [-zg,-zd,↓Qb,↓Qa,go_sem])
 | (refine Qy ?_;simp [-zg,-zd,↓Qb,↓Qa,go_sem,Try.results209])
 | (intro hx;refine zA ?_)
 | (refine ⟨?_,?_⟩ <;> refine zA ?_)
 | (intro hx;constructor <;> intro hs)
 | (constructor <;> intro hs)
 | (refine ⟨?_,fun hs=>?_⟩;refine zA ?_)
 | (refine ⟨fun hs=>?_,?_⟩;rotate_left;refine zA ?_;rotate_left)))
  all_goals (first
 | rw [szOf_no (by omega)]
 | (rw [Xq h0,Nat.add_assoc] at *;have hms:=zabl (m:=mE) c15;have hmm:=zafb (m:=mE) (xs:=xs) (show k + 1 ≤ xs.length from c15);simp only [mE] at hms;exact (Zi (by assumption) h0 (by omega)).symm)
 | (rw [msum_ge (by omega)])
 | skip)
@[go_sem] def zacf:Con:=.pure fun
  | [.list n_xs c_xs,.int .i64 left]=>((Is cE n_xs c_xs) ∧ (-1 ≤ left) ∧ (left ≤ 1048576),.int .i64 (szOf left ((de cE c_xs).length + msum mE (de cE c_xs) (de cE c_xs).length)))
  | _=>(False,.any)
theorem zafp:ConOk Try.prog 209 zacf:=by
  refine ⟨Qm Try.func209 (by decide) rfl,fun args h=>?_⟩
  revert h
  dsimp only
  split
  · intro h
    obtain ⟨⟨xs,rfl,rfl⟩,h0,h1⟩:=h
    try simp only [Ql] at *
    exact ⟨szEdgeS_pure xs _ h0 h1,by simp [go_sem]⟩
  · intro h
    exact h.elim
@[go_sem] def Γt4:FuncId → Con:=ext Γt3 209 zacf
theorem zahj:∀ g,ConOk Try.prog g (Γt4 g):=Qj Xu zafp

theorem szProcess_pure (loc:Int) (es:List Ed) (left:Int) (h0:-1 ≤ left) (h1:left ≤ 1048576):Pure Try.prog 176 [.st [.int .i64 loc,li cE es],.int .i64 left] (.int .i64 (szOf left (es.length + msum mE es es.length))):=by
  refine Pure.of_walk Try.func176 rfl (by simp [Try.f176]) (by simp [-zd,go_sem]) fun B hK=>?_
  (repeat' (first
 | refine Qx ?_
 | refine Qc (id:=0) zahj [] (by kernel_rfl) ?_;simp [-zg,-zd,↓Qb,↓Qa,go_sem];try (refine Qt hK 2 ?_;simp [go_sem])
 | refine Qc (id:=1) zahj [] (by kernel_rfl) ?_;simp [-zg,-zd,↓Qb,↓Qa,go_sem,h0,h1]
 | refine Qc (id:=2) zahj [] (by kernel_rfl) ?_;simp [-zg,-zd,↓Qb,↓Qa,go_sem]
 | refine Qc (id:=3) zahj [] (by kernel_rfl) ?_;simp [-zg,-zd,↓Qb,↓Qa,go_sem]
 | refine Qc (id:=4) zahj [] (by kernel_rfl) ?_;simp [-zg,-zd,↓Qb,↓Qa,go_sem]
 | refine Qd (c:=.tmp 10) ?_;simp [-zg,-zd,↓Qb,↓Qa,go_sem];try first | (refine ⟨?_,?_⟩ <;> refine zA ?_) | (refine ⟨fun c10=>?_,fun c10=>?_⟩ <;> (try simp [B_iff,B_not] at c10))
 | (refine Qh ?_)
 | (refine Qv ?_;simp [-zg,-zd,↓Qb,↓Qa,go_sem])
 | (refine Qu ?_;simp [-zg,-zd,↓Qb,↓Qa,go_sem])
 | (refine Qy ?_;simp [-zg,-zd,↓Qb,↓Qa,go_sem,Try.results176])
 | (intro hx;refine zA ?_)
 | (refine ⟨?_,?_⟩ <;> refine zA ?_)
 | (intro hx;constructor <;> intro hs)
 | (constructor <;> intro hs)
 | (refine ⟨?_,fun hs=>?_⟩;refine zA ?_)
 | (refine ⟨fun hs=>?_,?_⟩;rotate_left;refine zA ?_;rotate_left)))
  all_goals (first
 | exact (Zi (by assumption) h0 (by omega)).symm
 | skip)
@[go_sem] def zabc:Con:=.pure fun
  | [.st [.int .i64 loc,.list n_es c_es],.int .i64 left]=>((Is cE n_es c_es) ∧ (-1 ≤ left) ∧ (left ≤ 1048576),.int .i64 (szOf left ((de cE c_es).length + msum mE (de cE c_es) (de cE c_es).length)))
  | _=>(False,.any)
theorem zaee:ConOk Try.prog 176 zabc:=by
  refine ⟨Qm Try.func176 (by decide) rfl,fun args h=>?_⟩
  revert h
  dsimp only
  split
  · intro h
    obtain ⟨⟨es,rfl,rfl⟩,h0,h1⟩:=h
    try simp only [Ql] at *
    exact ⟨szProcess_pure _ es _ h0 h1,by simp [go_sem]⟩
  · intro h
    exact h.elim
@[go_sem] def Γt5:FuncId → Con:=ext Γt4 176 zabc
theorem Xt:∀ g,ConOk Try.prog g (Γt5 g):=Qj zahj zaee

theorem zagt (xs:List Pr) (left:Int) (h0:-1 ≤ left) (h1:left ≤ 1048576):Pure Try.prog 114 [li cR xs,.int .i64 left] (.int .i64 (szOf left (xs.length + msum mR xs xs.length))):=by
  refine Pure.of_walk Try.func114 rfl (by simp [Try.f114]) (by simp [-zd,go_sem]) fun B hK=>?_
  (repeat' (first
 | refine Qx ?_
 | (refine Xp 0 rfl fun hm=>?_);refine Qc (id:=0) Xt [] (by kernel_rfl) ?_;simp [-zg,-zd,↓Qb,↓Qa,go_sem]
 | refine Qc (id:=1) Xt [] (by kernel_rfl) ?_;simp [-zg,-zd,↓Qb,↓Qa,go_sem,wrap_sub h0 h1 hm]
 | refine Qc (id:=2) Xt [] (by kernel_rfl) ?_;simp [-zg,-zd,↓Qb,↓Qa,go_sem]
 | refine Qc (id:=3) Xt [] (by kernel_rfl) ?_;simp [-zg,-zd,↓Qb,↓Qa,go_sem]
 | refine Qc (id:=4) Xt [] (by kernel_rfl) ?_;simp [-zg,-zd,↓Qb,↓Qa,go_sem]
 | refine Qc (id:=5) Xt [] (by kernel_rfl) ?_;simp [-zg,-zd,↓Qb,↓Qa,go_sem,wrapS (k:=k) (by omega)]
 | refine Qc (id:=7) Xt [] (by kernel_rfl) ?_;simp [-zg,-zd,↓Qb,↓Qa,go_sem,c15,Qk c15,zsP c15,zahm h0,zafm h1]
 | refine Qc (id:=8) Xt [] (by kernel_rfl) ?_;simp [-zg,-zd,↓Qb,↓Qa,go_sem]
 | refine Qc (id:=9) Xt [] (by kernel_rfl) ?_;simp [-zg,-zd,↓Qb,↓Qa,go_sem]
 | refine Qc (id:=6) Xt [] (by kernel_rfl) ?_;simp [-zg,-zd,↓Qb,↓Qa,go_sem,wrapS (k:=k) (by omega)]
 | refine Qc (id:=10) Xt [] (by kernel_rfl) ?_;simp [-zg,-zd,↓Qb,↓Qa,go_sem]
 | refine Qd (c:=.tmp 11) ?_;simp [-zg,-zd,↓Qb,↓Qa,go_sem];try first | (refine ⟨?_,?_⟩ <;> refine zA ?_) | (refine ⟨fun c11=>?_,fun c11=>?_⟩ <;> (try simp [B_iff,B_not] at c11))
 | refine Qd (c:=.tmp 15) ?_;simp [-zg,-zd,↓Qb,↓Qa,go_sem];try first | (refine ⟨?_,?_⟩ <;> refine zA ?_) | (refine ⟨fun c15=>?_,fun c15=>?_⟩ <;> (try simp [B_iff,B_not] at c15))
 | refine Qd (c:=.tmp 25) ?_;simp [-zg,-zd,↓Qb,↓Qa,go_sem];try first | (refine ⟨?_,?_⟩ <;> refine zA ?_) | (refine ⟨fun c25=>?_,fun c25=>?_⟩ <;> (try simp [B_iff,B_not] at c25))
 | (refine Qh (id:=0) (Xf (ι:=Nat) (fun k:Nat=>⟨(upd (upd (upd (fun _=>.any) 0 (li cR xs)) 1 (.int .i64 (szOf left (xs.length + msum mR xs k)))) 5 (.int .i64 k)),fun _=>none⟩) (fun k=>k ≤ xs.length) (fun k=>xs.length - k) (0) ?_ ?_ ?_);exact Nat.zero_le _;((repeat' (first | exact Qp (by assumption) | exact Qr | refine Qs ?_ ?_ | refine Qq ?_)) <;> simp [-zg,-zd,↓Qb,↓Qa,go_sem,szOf_yes c11]);rintro k hk)
 | (refine ⟨k + 1,by omega,by first | omega | (simp;done) | (simp;omega),?_⟩;((repeat' (first | exact Qp (by assumption) | exact Qr | refine Qs ?_ ?_ | refine Qq ?_)) <;> simp [-zg,-zd,↓Qb,↓Qa,go_sem,Xq h0,zabl c15,mR,Nat.add_assoc]))
 | (refine Qh ?_)
 | (refine Qv ?_;simp [-zg,-zd,↓Qb,↓Qa,go_sem])
 | (refine Qu ?_;simp [-zg,-zd,↓Qb,↓Qa,go_sem])
 | (refine Qy ?_;simp [-zg,-zd,↓Qb,↓Qa,go_sem,Try.results114])
 | (intro hx;refine zA ?_)
 | (refine ⟨?_,?_⟩ <;> refine zA ?_)
 | (intro hx;constructor <;> intro hs)
 | (constructor <;> intro hs)
 | (refine ⟨?_,fun hs=>?_⟩;refine zA ?_)
 | (refine ⟨fun hs=>?_,?_⟩;rotate_left;refine zA ?_;rotate_left)))
  all_goals (first
 | rw [szOf_no (by omega)]
 | (rw [Xq h0,Nat.add_assoc] at *;have hms:=zabl (m:=mR) c15;have hmm:=zafb (m:=mR) (xs:=xs) (show k + 1 ≤ xs.length from c15);simp only [mR] at hms;exact (Zi (by assumption) h0 (by omega)).symm)
 | (rw [msum_ge (by omega)])
 | skip)
@[go_sem] def zaan:Con:=.pure fun
  | [.list n_xs c_xs,.int .i64 left]=>((Is cR n_xs c_xs) ∧ (-1 ≤ left) ∧ (left ≤ 1048576),.int .i64 (szOf left ((de cR c_xs).length + msum mR (de cR c_xs) (de cR c_xs).length)))
  | _=>(False,.any)
theorem zado:ConOk Try.prog 114 zaan:=by
  refine ⟨Qm Try.func114 (by decide) rfl,fun args h=>?_⟩
  revert h
  dsimp only
  split
  · intro h
    obtain ⟨⟨xs,rfl,rfl⟩,h0,h1⟩:=h
    try simp only [Ql] at *
    exact ⟨zagt xs _ h0 h1,by simp [go_sem]⟩
  · intro h
    exact h.elim
@[go_sem] def Γt6:FuncId → Con:=ext Γt5 114 zaan
theorem Zk:∀ g,ConOk Try.prog g (Γt6 g):=Qj Xt zado

theorem szSystem_pure (a:List Int) (b:List Pr) (left:Int) (h0:-1 ≤ left) (h1:left ≤ 1048576):Pure Try.prog 37 [.st [li cI a,li cR b],.int .i64 left] (.int .i64 (szOf left (a.length + (b.length + msum mR b b.length)))):=by
  refine Pure.of_walk Try.func37 rfl (by simp [Try.f37]) (by simp [-zd,go_sem]) fun B hK=>?_
  (repeat' (first
 | refine Qx ?_
 | refine Qc (id:=0) Zk [] (by kernel_rfl) ?_;simp [-zg,-zd,↓Qb,↓Qa,go_sem];try (refine Qt hK 2 ?_;simp [go_sem])
 | refine Qc (id:=1) Zk [] (by kernel_rfl) ?_;simp [-zg,-zd,↓Qb,↓Qa,go_sem,h0,h1]
 | refine Qc (id:=2) Zk [] (by kernel_rfl) ?_;simp [-zg,-zd,↓Qb,↓Qa,go_sem]
 | refine Qc (id:=3) Zk [] (by kernel_rfl) ?_;simp [-zg,-zd,↓Qb,↓Qa,go_sem]
 | refine Qc (id:=4) Zk [] (by kernel_rfl) ?_;simp [-zg,-zd,↓Qb,↓Qa,go_sem,zahm h0,zafm h1]
 | refine Qc (id:=5) Zk [] (by kernel_rfl) ?_;simp [-zg,-zd,↓Qb,↓Qa,go_sem]
 | refine Qc (id:=6) Zk [] (by kernel_rfl) ?_;simp [-zg,-zd,↓Qb,↓Qa,go_sem]
 | refine Qc (id:=7) Zk [] (by kernel_rfl) ?_;simp [-zg,-zd,↓Qb,↓Qa,go_sem,Xq h0]
 | refine Qd (c:=.tmp 10) ?_;simp [-zg,-zd,↓Qb,↓Qa,go_sem];try first | (refine ⟨?_,?_⟩ <;> refine zA ?_) | (refine ⟨fun c10=>?_,fun c10=>?_⟩ <;> (try simp [B_iff,B_not] at c10))
 | refine Qd (c:=.tmp 16) ?_;simp [-zg,-zd,↓Qb,↓Qa,go_sem];try first | (refine ⟨?_,?_⟩ <;> refine zA ?_) | (refine ⟨fun c16=>?_,fun c16=>?_⟩ <;> (try simp [B_iff,B_not] at c16))
 | (refine Qh ?_)
 | (refine Qv ?_;simp [-zg,-zd,↓Qb,↓Qa,go_sem])
 | (refine Qu ?_;simp [-zg,-zd,↓Qb,↓Qa,go_sem])
 | (refine Qy ?_;simp [-zg,-zd,↓Qb,↓Qa,go_sem,Try.results37])
 | (intro hx;refine zA ?_)
 | (refine ⟨?_,?_⟩ <;> refine zA ?_)
 | (intro hx;constructor <;> intro hs)
 | (constructor <;> intro hs)
 | (refine ⟨?_,fun hs=>?_⟩;refine zA ?_)
 | (refine ⟨fun hs=>?_,?_⟩;rotate_left;refine zA ?_;rotate_left)))
  all_goals (first
 | exact (Zi (by assumption) h0 (by omega)).symm
 | (rw [Xq h0] at *;exact (Zi (by assumption) h0 (by omega)).symm)
 | (rw [Xq h0])
 | skip)
@[go_sem] def zabi:Con:=.pure fun
  | [.st [.list n_a c_a,.list n_b c_b],.int .i64 left]=>((Is cI n_a c_a) ∧ (Is cR n_b c_b) ∧ (-1 ≤ left) ∧ (left ≤ 1048576),.int .i64 (szOf left ((de cI c_a).length + ((de cR c_b).length + msum mR (de cR c_b) (de cR c_b).length))))
  | _=>(False,.any)
theorem zaes:ConOk Try.prog 37 zabi:=by
  refine ⟨Qm Try.func37 (by decide) rfl,fun args h=>?_⟩
  revert h
  dsimp only
  split
  · intro h
    obtain ⟨⟨a,rfl,rfl⟩,⟨b,rfl,rfl⟩,h0,h1⟩:=h
    try simp only [Ql] at *
    exact ⟨szSystem_pure a b _ h0 h1,by simp [go_sem]⟩
  · intro h
    exact h.elim
@[go_sem] def Γt7:FuncId → Con:=ext Γt6 37 zabi
theorem Γt7_ok:∀ g,ConOk Try.prog g (Γt7 g):=Qj Zk zaes


theorem Spec.shutF {P:Program} {f:FuncId} {args:List D} {r:D} (h:Spec P f args (fun _=>none) r (fun _=>none)) (H:Hp):Spec P f args H (dat r) H:=by
  have h1:SpecR P f args (fun _=>none) (fun _=>(r,fun _=>none)):=fun w J vs μ fp N hR=>(h w J vs μ fp N hR).mono fun e w' ⟨v,μ',fp',N',he,hr⟩=>⟨⟨Unit,()⟩,v,μ',fp',N',he,hr⟩
  have h2:=(SpecR.frame0 (r:=fun _=>r) h1 (H:=H)).shut
  exact fun w J vs μ fp N hR=>(h2 w J vs μ fp N hR).mono fun e w' ⟨c,v,μ',fp',N',he,hr⟩=>⟨v,μ',fp',N',he,hr⟩
theorem Spec.shutG {P:Program} {f:FuncId} {args:List D} {r r2:D} (h:Spec P f args (fun _=>none) r (fun _=>none)) (hd:dat r = r2) (H:Hp):Spec P f args H r2 H:=hd ▸ Spec.shutF h H
@[go_sem] theorem fill_cX {x y z:D} {xs:List Tree} {k:Nat} {junk:List D} (h:k < xs.length):stSeg (fillC cX [x,y,z] 3 xs k junk) (k * 3) [.int .i64 (nth xs k).k,.int .i64 (nth xs k).v,.list (nth xs k).ks.length (cat cX (nth xs k).ks)] = fillC cX [x,y,z] 3 xs (k + 1) junk:=by have:=zaar (f:=cX) (sz:=3) (z:=[x,y,z]) rfl h junk;rwa [cX_eq] at this
@[go_sem] theorem fill_cE {x0 x1 x2 x3 x4 x5 x6 x7 x8 x9:D} {xs:List Ed} {k:Nat} {junk:List D} (h:k < xs.length):stSeg (fillC cE [x0,x1,x2,x3,x4,x5,x6,x7,x8,x9] 10 xs k junk) (k * 10) [.int .i64 (nth xs k).fr,.int .i64 (nth xs k).to,.int .i64 (nth xs k).g.k,.int .i64 (nth xs k).g.v,.list (nth xs k).g.ks.length (cat cX (nth xs k).g.ks),.int .i64 (nth xs k).v,.int .i64 (nth xs k).e.k,.int .i64 (nth xs k).e.v,.list (nth xs k).e.ks.length (cat cX (nth xs k).e.ks),.int .i64 (nth xs k).sy] = fillC cE [x0,x1,x2,x3,x4,x5,x6,x7,x8,x9] 10 xs (k + 1) junk:=zaar (f:=cE) (sz:=10) (z:=[x0,x1,x2,x3,x4,x5,x6,x7,x8,x9]) rfl h junk
@[go_sem] theorem fill_cR {x y:D} {xs:List Pr} {k:Nat} {junk:List D} (h:k < xs.length):stSeg (fillC cR [x,y] 2 xs k junk) (k * 2) [.int .i64 (nth xs k).loc,.list (nth xs k).es.length (cat cE (nth xs k).es)] = fillC cR [x,y] 2 xs (k + 1) junk:=zaar (f:=cR) (sz:=2) (z:=[x,y]) rfl h junk
theorem tm_le {xs:List Tree} {k:Nat} {n:Nat} (h:k < xs.length) (hn:xs.length + msum tm xs xs.length ≤ n):(nth xs k).ks.length + msum tm (nth xs k).ks (nth xs k).ks.length ≤ n:=by
  have:=msum_at (m:=tm) h;rw [tm_eq] at this;omega
theorem mE_le {xs:List Ed} {k:Nat} {n:Nat} (h:k < xs.length) (hn:xs.length + msum mE xs xs.length ≤ n):(nth xs k).g.ks.length + msum tm (nth xs k).g.ks (nth xs k).g.ks.length ≤ n ∧ (nth xs k).e.ks.length + msum tm (nth xs k).e.ks (nth xs k).e.ks.length ≤ n:=by
  have:=msum_at (m:=mE) h;rw [mE] at this;omega
theorem mR_le {xs:List Pr} {k:Nat} {n:Nat} (h:k < xs.length) (hn:xs.length + msum mR xs xs.length ≤ n):(nth xs k).es.length + msum mE (nth xs k).es (nth xs k).es.length ≤ n:=by
  have:=msum_at (m:=mR) h;rw [mR] at this;omega

theorem zabz (xs:List Tree):dat (fr 3 cX xs) = li cX xs:=by simp [go_sem]
theorem zacv (k:Int) (v:Int) (ks:List Tree):dat (.st [.int .i64 k,.int .i64 v,li cX ks]) = .st [.int .i64 k,.int .i64 v,li cX ks]:=by simp [go_sem]
@[go_sem] def zadn (n_:Nat):Con:=.gen fun args H=>match args with
  | [.list n_xs c_xs]=>((Is cX n_xs c_xs) ∧ ((de cX c_xs).length + msum tm (de cX c_xs) (de cX c_xs).length ≤ 1048576) ∧ ((de cX c_xs).length + msum tm (de cX c_xs) (de cX c_xs).length < n_),li cX (de cX c_xs),H)
  | _=>(False,.any,H)
theorem zabr {n_:Nat} (ih:∀ (xs:List Tree) (h0:xs.length + msum tm xs xs.length ≤ 1048576) (hm_:xs.length + msum tm xs xs.length < n_),Spec Try.prog 278 [li cX xs] (fun _=>none) (fr 3 cX xs) (fun _=>none)):ConOk Try.prog 278 (zadn n_):=by
  refine ⟨Qm Try.func278 (by decide) rfl,fun args H h=>?_⟩
  revert h
  dsimp only
  split
  · intro h
    obtain ⟨⟨xs,rfl,rfl⟩,h0,hm_⟩:=h
    try simp only [Ql] at *
    exact Spec.shutG (ih xs h0 hm_) (zabz xs) H
  · intro h
    exact h.elim
@[go_sem] def zaem (n_:Nat):Con:=.gen fun args H=>match args with
  | [.st [.int .i64 k,.int .i64 v,.list n_ks c_ks]]=>((Is cX n_ks c_ks) ∧ ((de cX c_ks).length + msum tm (de cX c_ks) (de cX c_ks).length ≤ 1048576) ∧ ((de cX c_ks).length + msum tm (de cX c_ks) (de cX c_ks).length < n_),.st [.int .i64 k,.int .i64 v,li cX (de cX c_ks)],H)
  | _=>(False,.any,H)
theorem zafi {n_:Nat} (ih:∀ (k:Int) (v:Int) (ks:List Tree) (h0:ks.length + msum tm ks ks.length ≤ 1048576) (hm_:ks.length + msum tm ks ks.length < n_),Spec Try.prog 262 [.st [.int .i64 k,.int .i64 v,li cX ks]] (fun _=>none) (.st [.int .i64 k,.int .i64 v,li cX ks]) (fun _=>none)):ConOk Try.prog 262 (zaem n_):=by
  refine ⟨Qm Try.func262 (by decide) rfl,fun args H h=>?_⟩
  revert h
  dsimp only
  split
  · intro h
    obtain ⟨⟨ks,rfl,rfl⟩,h0,hm_⟩:=h
    try simp only [Ql] at *
    exact Spec.shutG (ih _ _ ks h0 hm_) (zacv _ _ ks) H
  · intro h
    exact h.elim
theorem zabx {n_:Nat} (ih:∀ (xs:List Tree) (h0:xs.length + msum tm xs xs.length ≤ 1048576) (hm_:xs.length + msum tm xs xs.length < n_),Spec Try.prog 278 [li cX xs] (fun _=>none) (fr 3 cX xs) (fun _=>none)):∀ (k:Int) (v:Int) (ks:List Tree) (h0:ks.length + msum tm ks ks.length ≤ 1048576) (hm_:ks.length + msum tm ks ks.length < n_),Spec Try.prog 262 [.st [.int .i64 k,.int .i64 v,li cX ks]] (fun _=>none) (.st [.int .i64 k,.int .i64 v,li cX ks]) (fun _=>none):=by
  intro k v ks h0 hm_
  have Γr_ok:=Qj Γt7_ok (zabr ih)
  refine Spec.of_walk Try.func262 rfl (by simp [Try.f262]) fun B=>?_
  (repeat' (first
 | refine Qx ?_
 | refine Qc (id:=0) Γr_ok [] (by kernel_rfl) ?_;simp [-zg,-zd,↓Qb,↓Qa,go_sem];try (refine AW_shut 1 ?_;simp [go_sem])
 | refine Qc (id:=1) Γr_ok [] (by kernel_rfl) ?_;simp [-zg,-zd,↓Qb,↓Qa,go_sem];try (refine zaff 3 rfl fun b3 hb3=>?_)
 | refine Qc (id:=2) Γr_ok [] (by kernel_rfl) ?_;simp [-zg,-zd,↓Qb,↓Qa,go_sem]
 | refine Qc (id:=3) Γr_ok [] (by kernel_rfl) ?_;simp [-zg,-zd,↓Qb,↓Qa,go_sem]
 | refine Qc (id:=4) Γr_ok [] (by kernel_rfl) ?_;simp [-zg,-zd,↓Qb,↓Qa,go_sem,h0,hm_]
 | refine Qc (id:=5) Γr_ok [] (by kernel_rfl) ?_;simp [-zg,-zd,↓Qb,↓Qa,go_sem]
 | (refine Qh ?_)
 | (refine Qv ?_;simp [-zg,-zd,↓Qb,↓Qa,go_sem])
 | (refine Qu ?_;simp [-zg,-zd,↓Qb,↓Qa,go_sem])
 | (refine Qy ?_;simp [-zg,-zd,↓Qb,↓Qa,go_sem,Try.results262])
 | (intro hx;refine zA ?_)
 | (refine ⟨?_,?_⟩ <;> refine zA ?_)
 | (intro hx;constructor <;> intro hs)
 | (constructor <;> intro hs)
 | (refine ⟨?_,fun hs=>?_⟩;refine zA ?_)
 | (refine ⟨fun hs=>?_,?_⟩;rotate_left;refine zA ?_;rotate_left)))
theorem zaby:∀ (n_:Nat),∀ (xs:List Tree) (h0:xs.length + msum tm xs xs.length ≤ 1048576) (hm_:xs.length + msum tm xs xs.length < n_),Spec Try.prog 278 [li cX xs] (fun _=>none) (fr 3 cX xs) (fun _=>none):=by
  intro n_
  induction n_ with
  | zero=>intros;omega
  | succ n_ ih =>
  intro xs h0 hm_
  have Γr_ok:=Qj (Qj Γt7_ok (zabr ih)) (zafi (zabx ih))
  refine Spec.of_walk Try.func278 rfl (by simp [Try.f278]) fun B=>?_
  (repeat' (first
 | refine Qx ?_
 | refine Qc (id:=0) Γr_ok [] (by kernel_rfl) ?_;simp [-zg,-zd,↓Qb,↓Qa,go_sem]
 | refine Qc (id:=1) Γr_ok [] (by kernel_rfl) ?_;simp [-zg,-zd,↓Qb,↓Qa,go_sem,(by omega:192 * (xs.length:Int) ≤ 281474976710656),(by omega:80 * (xs.length:Int) ≤ 281474976710656),(by omega:112 * (xs.length:Int) ≤ 281474976710656),(by omega:40 * (xs.length:Int) ≤ 281474976710656),(by omega:32 * (xs.length:Int) ≤ 281474976710656),(by omega:(xs.length:Int) ≤ 9223372036854775807)];try ((refine AW_mat 3 rfl fun b cp j _ hcp hj=>?_))
 | refine Qc (id:=2) Γr_ok [] (by kernel_rfl) ?_;simp [-zg,-zd,↓Qb,↓Qa,go_sem]
 | refine Qc (id:=3) Γr_ok [] (by kernel_rfl) ?_;simp [-zg,-zd,↓Qb,↓Qa,go_sem]
 | refine Qc (id:=5) Γr_ok [] (by kernel_rfl) ?_;simp [-zg,-zd,↓Qb,↓Qa,go_sem,c11,Qk c11,zsP c11,tm_le c11 h0,tm_lt c11 hm_]
 | refine Qc (id:=4) Γr_ok [] (by kernel_rfl) ?_;simp [-zg,-zd,↓Qb,↓Qa,go_sem,wrapS (k:=k) (by omega)]
 | ((obtain rfl:k = xs.length:=by omega);refine AW_unmat 3 (b:=b) (all:=cat cX xs ++ zrP j .any) rfl (by simp [go_sem,fill_all]) (by omega) (by simp [Xi]) (by simp [Xi];omega) ?_);refine Qc (id:=6) Γr_ok [] (by kernel_rfl) ?_;simp [-zg,-zd,↓Qb,↓Qa,go_sem]
 | refine Qd (c:=.tmp 11) ?_;simp [-zg,-zd,↓Qb,↓Qa,go_sem];try first | (refine ⟨?_,?_⟩ <;> refine zA ?_) | (refine ⟨fun c11=>?_,fun c11=>?_⟩ <;> (try simp [B_iff,B_not] at c11))
 | (refine Qh (id:=0) (Xf (ι:=Nat) (fun k:Nat=>⟨(upd (upd (upd (fun _=>.any) 0 (li cX xs)) 3 (.sl b 3 0 xs.length cp)) 4 (.int .i64 k)),upd (fun _=>none) b (some (fillC cX [.int .i64 0,.int .i64 0,.nil] 3 xs k (zrP j .any)))⟩) (fun k=>k ≤ xs.length) (fun k=>xs.length - k) (0) ?_ ?_ ?_);exact Nat.zero_le _;((repeat' (first | exact Qp (by assumption) | exact Qr | refine Qs ?_ ?_ | refine Qq ?_)) <;> simp [-zg,-zd,↓Qb,↓Qa,go_sem,Zp]);rintro k hk)
 | (refine ⟨k + 1,by omega,by first | omega | (simp;done) | (simp;omega),?_⟩;((repeat' (first | exact Qp (by assumption) | exact Qr | refine Qs ?_ ?_ | refine Qq ?_)) <;> simp [-zg,-zd,↓Qb,↓Qa,go_sem,Zp]))
 | (refine Qh ?_)
 | (refine Qv ?_;simp [-zg,-zd,↓Qb,↓Qa,go_sem])
 | (refine Qu ?_;simp [-zg,-zd,↓Qb,↓Qa,go_sem])
 | (refine Qy ?_;simp [-zg,-zd,↓Qb,↓Qa,go_sem,Try.results278])
 | (intro hx;refine zA ?_)
 | (refine ⟨?_,?_⟩ <;> refine zA ?_)
 | (intro hx;constructor <;> intro hs)
 | (constructor <;> intro hs)
 | (refine ⟨?_,fun hs=>?_⟩;refine zA ?_)
 | (refine ⟨fun hs=>?_,?_⟩;rotate_left;refine zA ?_;rotate_left)))
theorem toExprS_spec (xs:List Tree) (h0:xs.length + msum tm xs xs.length ≤ 1048576):Spec Try.prog 278 [li cX xs] (fun _=>none) (fr 3 cX xs) (fun _=>none):=zaby (xs.length + msum tm xs xs.length + 1) xs h0 (by omega)
theorem toExpr_spec (k:Int) (v:Int) (ks:List Tree) (h0:ks.length + msum tm ks ks.length ≤ 1048576):Spec Try.prog 262 [.st [.int .i64 k,.int .i64 v,li cX ks]] (fun _=>none) (.st [.int .i64 k,.int .i64 v,li cX ks]) (fun _=>none):=zabx (n_:=ks.length + msum tm ks ks.length + 1) (zaby _) k v ks h0 (by omega)
@[go_sem] def zaca:Con:=.gen fun args H=>match args with
  | [.list n_xs c_xs]=>((Is cX n_xs c_xs) ∧ ((de cX c_xs).length + msum tm (de cX c_xs) (de cX c_xs).length ≤ 1048576),li cX (de cX c_xs),H)
  | _=>(False,.any,H)
theorem zafj:ConOk Try.prog 278 zaca:=by
  refine ⟨Qm Try.func278 (by decide) rfl,fun args H h=>?_⟩
  revert h
  dsimp only
  split
  · intro h
    obtain ⟨⟨xs,rfl,rfl⟩,h0⟩:=h
    try simp only [Ql] at *
    exact Spec.shutG (toExprS_spec xs h0) (zabz xs) H
  · intro h
    exact h.elim
@[go_sem] def Γt8:FuncId → Con:=ext Γt7 278 zaca
theorem Γt8_ok:∀ g,ConOk Try.prog g (Γt8 g):=Qj Γt7_ok zafj
@[go_sem] def zacz:Con:=.gen fun args H=>match args with
  | [.st [.int .i64 k,.int .i64 v,.list n_ks c_ks]]=>((Is cX n_ks c_ks) ∧ ((de cX c_ks).length + msum tm (de cX c_ks) (de cX c_ks).length ≤ 1048576),.st [.int .i64 k,.int .i64 v,li cX (de cX c_ks)],H)
  | _=>(False,.any,H)
theorem zagq:ConOk Try.prog 262 zacz:=by
  refine ⟨Qm Try.func262 (by decide) rfl,fun args H h=>?_⟩
  revert h
  dsimp only
  split
  · intro h
    obtain ⟨⟨ks,rfl,rfl⟩,h0⟩:=h
    try simp only [Ql] at *
    exact Spec.shutG (toExpr_spec _ _ ks h0) (zacv _ _ ks) H
  · intro h
    exact h.elim
@[go_sem] def Γt9:FuncId → Con:=ext Γt8 262 zacz
theorem Ze:∀ g,ConOk Try.prog g (Γt9 g):=Qj Γt8_ok zagq

theorem toEdge_spec (fr_:Int) (to:Int) (gk:Int) (gv:Int) (gs:List Tree) (v:Int) (ek:Int) (ev:Int) (es:List Tree) (sy:Int) (h0:gs.length + msum tm gs gs.length ≤ 1048576) (h1:es.length + msum tm es es.length ≤ 1048576):Spec Try.prog 238 [.st [.int .i64 fr_,.int .i64 to,.int .i64 gk,.int .i64 gv,li cX gs,.int .i64 v,.int .i64 ek,.int .i64 ev,li cX es,.int .i64 sy]] (fun _=>none) (.st [.int .i64 fr_,.int .i64 to,.int .i64 gk,.int .i64 gv,li cX gs,.int .i64 v,.int .i64 ek,.int .i64 ev,li cX es,.int .i64 sy]) (fun _=>none):=by
  refine Spec.of_walk Try.func238 rfl (by simp [Try.f238]) fun B=>?_
  (repeat' (first
 | refine Qx ?_
 | refine Qc (id:=0) Ze [] (by kernel_rfl) ?_;simp [-zg,-zd,↓Qb,↓Qa,go_sem];try (refine AW_shut 1 ?_;simp [go_sem])
 | refine Qc (id:=1) Ze [] (by kernel_rfl) ?_;simp [-zg,-zd,↓Qb,↓Qa,go_sem];try (refine zaff 3 rfl fun b3 hb3=>?_)
 | refine Qc (id:=2) Ze [] (by kernel_rfl) ?_;simp [-zg,-zd,↓Qb,↓Qa,go_sem]
 | refine Qc (id:=3) Ze [] (by kernel_rfl) ?_;simp [-zg,-zd,↓Qb,↓Qa,go_sem]
 | refine Qc (id:=4) Ze [] (by kernel_rfl) ?_;simp [-zg,-zd,↓Qb,↓Qa,go_sem,h0]
 | refine Qc (id:=5) Ze [] (by kernel_rfl) ?_;simp [-zg,-zd,↓Qb,↓Qa,go_sem]
 | refine Qc (id:=6) Ze [] (by kernel_rfl) ?_;simp [-zg,-zd,↓Qb,↓Qa,go_sem,h1]
 | refine Qc (id:=7) Ze [] (by kernel_rfl) ?_;simp [-zg,-zd,↓Qb,↓Qa,go_sem]
 | refine Qc (id:=8) Ze [] (by kernel_rfl) ?_;simp [-zg,-zd,↓Qb,↓Qa,go_sem]
 | (refine Qh ?_)
 | (refine Qv ?_;simp [-zg,-zd,↓Qb,↓Qa,go_sem])
 | (refine Qu ?_;simp [-zg,-zd,↓Qb,↓Qa,go_sem])
 | (refine Qy ?_;simp [-zg,-zd,↓Qb,↓Qa,go_sem,Try.results238])
 | (intro hx;refine zA ?_)
 | (refine ⟨?_,?_⟩ <;> refine zA ?_)
 | (intro hx;constructor <;> intro hs)
 | (constructor <;> intro hs)
 | (refine ⟨?_,fun hs=>?_⟩;refine zA ?_)
 | (refine ⟨fun hs=>?_,?_⟩;rotate_left;refine zA ?_;rotate_left)))
theorem zagr (fr_:Int) (to:Int) (gk:Int) (gv:Int) (gs:List Tree) (v:Int) (ek:Int) (ev:Int) (es:List Tree) (sy:Int):dat (.st [.int .i64 fr_,.int .i64 to,.int .i64 gk,.int .i64 gv,li cX gs,.int .i64 v,.int .i64 ek,.int .i64 ev,li cX es,.int .i64 sy]) = .st [.int .i64 fr_,.int .i64 to,.int .i64 gk,.int .i64 gv,li cX gs,.int .i64 v,.int .i64 ek,.int .i64 ev,li cX es,.int .i64 sy]:=by simp [go_sem]
@[go_sem] def zada:Con:=.gen fun args H=>match args with
  | [.st [.int .i64 fr_,.int .i64 to,.int .i64 gk,.int .i64 gv,.list n_gs c_gs,.int .i64 v,.int .i64 ek,.int .i64 ev,.list n_es c_es,.int .i64 sy]]=>((Is cX n_gs c_gs) ∧ (Is cX n_es c_es) ∧ ((de cX c_gs).length + msum tm (de cX c_gs) (de cX c_gs).length ≤ 1048576) ∧ ((de cX c_es).length + msum tm (de cX c_es) (de cX c_es).length ≤ 1048576),.st [.int .i64 fr_,.int .i64 to,.int .i64 gk,.int .i64 gv,li cX (de cX c_gs),.int .i64 v,.int .i64 ek,.int .i64 ev,li cX (de cX c_es),.int .i64 sy],H)
  | _=>(False,.any,H)
theorem zags:ConOk Try.prog 238 zada:=by
  refine ⟨Qm Try.func238 (by decide) rfl,fun args H h=>?_⟩
  revert h
  dsimp only
  split
  · intro h
    obtain ⟨⟨gs,rfl,rfl⟩,⟨es,rfl,rfl⟩,h0,h1⟩:=h
    try simp only [Ql] at *
    exact Spec.shutG (toEdge_spec _ _ _ _ gs _ _ _ es _ h0 h1) (zagr _ _ _ _ gs _ _ _ es _) H
  · intro h
    exact h.elim
@[go_sem] def Γt10:FuncId → Con:=ext Γt9 238 zada
theorem Zr:∀ g,ConOk Try.prog g (Γt10 g):=Qj Ze zags

theorem toEdgeS_spec (xs:List Ed) (h0:xs.length + msum mE xs xs.length ≤ 1048576):Spec Try.prog 210 [li cE xs] (fun _=>none) (fr 10 cE xs) (fun _=>none):=by
  refine Spec.of_walk Try.func210 rfl (by simp [Try.f210]) fun B=>?_
  (repeat' (first
 | refine Qx ?_
 | refine Qc (id:=0) Zr [] (by kernel_rfl) ?_;simp [-zg,-zd,↓Qb,↓Qa,go_sem]
 | refine Qc (id:=1) Zr [] (by kernel_rfl) ?_;simp [-zg,-zd,↓Qb,↓Qa,go_sem,(by omega:192 * (xs.length:Int) ≤ 281474976710656),(by omega:80 * (xs.length:Int) ≤ 281474976710656),(by omega:112 * (xs.length:Int) ≤ 281474976710656),(by omega:40 * (xs.length:Int) ≤ 281474976710656),(by omega:32 * (xs.length:Int) ≤ 281474976710656),(by omega:(xs.length:Int) ≤ 9223372036854775807)];try ((refine AW_mat 3 rfl fun b cp j _ hcp hj=>?_))
 | refine Qc (id:=2) Zr [] (by kernel_rfl) ?_;simp [-zg,-zd,↓Qb,↓Qa,go_sem]
 | refine Qc (id:=3) Zr [] (by kernel_rfl) ?_;simp [-zg,-zd,↓Qb,↓Qa,go_sem]
 | refine Qc (id:=5) Zr [] (by kernel_rfl) ?_;simp [-zg,-zd,↓Qb,↓Qa,go_sem,c11,Qk c11,zsP c11,(mE_le c11 h0).1,(mE_le c11 h0).2]
 | refine Qc (id:=4) Zr [] (by kernel_rfl) ?_;simp [-zg,-zd,↓Qb,↓Qa,go_sem,wrapS (k:=k) (by omega)]
 | ((obtain rfl:k = xs.length:=by omega);refine AW_unmat 3 (b:=b) (all:=cat cE xs ++ zrP j .any) rfl (by simp [go_sem,fill_all]) (by omega) (by simp [Xi]) (by simp [Xi];omega) ?_);refine Qc (id:=6) Zr [] (by kernel_rfl) ?_;simp [-zg,-zd,↓Qb,↓Qa,go_sem]
 | refine Qd (c:=.tmp 11) ?_;simp [-zg,-zd,↓Qb,↓Qa,go_sem];try first | (refine ⟨?_,?_⟩ <;> refine zA ?_) | (refine ⟨fun c11=>?_,fun c11=>?_⟩ <;> (try simp [B_iff,B_not] at c11))
 | (refine Qh (id:=0) (Xf (ι:=Nat) (fun k:Nat=>⟨(upd (upd (upd (fun _=>.any) 0 (li cE xs)) 3 (.sl b 10 0 xs.length cp)) 4 (.int .i64 k)),upd (fun _=>none) b (some (fillC cE [.int .i64 0,.int .i64 0,.int .i64 0,.int .i64 0,.nil,.int .i64 0,.int .i64 0,.int .i64 0,.nil,.int .i64 0] 10 xs k (zrP j .any)))⟩) (fun k=>k ≤ xs.length) (fun k=>xs.length - k) (0) ?_ ?_ ?_);exact Nat.zero_le _;((repeat' (first | exact Qp (by assumption) | exact Qr | refine Qs ?_ ?_ | refine Qq ?_)) <;> simp [-zg,-zd,↓Qb,↓Qa,go_sem,Zp]);rintro k hk)
 | (refine ⟨k + 1,by omega,by first | omega | (simp;done) | (simp;omega),?_⟩;((repeat' (first | exact Qp (by assumption) | exact Qr | refine Qs ?_ ?_ | refine Qq ?_)) <;> simp [-zg,-zd,↓Qb,↓Qa,go_sem,Zp]))
 | (refine Qh ?_)
 | (refine Qv ?_;simp [-zg,-zd,↓Qb,↓Qa,go_sem])
 | (refine Qu ?_;simp [-zg,-zd,↓Qb,↓Qa,go_sem])
 | (refine Qy ?_;simp [-zg,-zd,↓Qb,↓Qa,go_sem,Try.results210])
 | (intro hx;refine zA ?_)
 | (refine ⟨?_,?_⟩ <;> refine zA ?_)
 | (intro hx;constructor <;> intro hs)
 | (constructor <;> intro hs)
 | (refine ⟨?_,fun hs=>?_⟩;refine zA ?_)
 | (refine ⟨fun hs=>?_,?_⟩;rotate_left;refine zA ?_;rotate_left)))
theorem zafk (xs:List Ed):dat (fr 10 cE xs) = li cE xs:=by simp [go_sem]
@[go_sem] def zacb:Con:=.gen fun args H=>match args with
  | [.list n_xs c_xs]=>((Is cE n_xs c_xs) ∧ ((de cE c_xs).length + msum mE (de cE c_xs) (de cE c_xs).length ≤ 1048576),li cE (de cE c_xs),H)
  | _=>(False,.any,H)
theorem zafl:ConOk Try.prog 210 zacb:=by
  refine ⟨Qm Try.func210 (by decide) rfl,fun args H h=>?_⟩
  revert h
  dsimp only
  split
  · intro h
    obtain ⟨⟨xs,rfl,rfl⟩,h0⟩:=h
    try simp only [Ql] at *
    exact Spec.shutG (toEdgeS_spec xs h0) (zafk xs) H
  · intro h
    exact h.elim
@[go_sem] def Γt11:FuncId → Con:=ext Γt10 210 zacb
theorem zaeb:∀ g,ConOk Try.prog g (Γt11 g):=Qj Zr zafl

theorem toProcess_spec (loc:Int) (es:List Ed) (h0:es.length + msum mE es es.length ≤ 1048576):Spec Try.prog 178 [.st [.int .i64 loc,li cE es]] (fun _=>none) (.st [.int .i64 loc,li cE es]) (fun _=>none):=by
  refine Spec.of_walk Try.func178 rfl (by simp [Try.f178]) fun B=>?_
  (repeat' (first
 | refine Qx ?_
 | refine Qc (id:=0) zaeb [] (by kernel_rfl) ?_;simp [-zg,-zd,↓Qb,↓Qa,go_sem];try (refine AW_shut 1 ?_;simp [go_sem])
 | refine Qc (id:=1) zaeb [] (by kernel_rfl) ?_;simp [-zg,-zd,↓Qb,↓Qa,go_sem];try (refine zaff 3 rfl fun b3 hb3=>?_)
 | refine Qc (id:=2) zaeb [] (by kernel_rfl) ?_;simp [-zg,-zd,↓Qb,↓Qa,go_sem]
 | refine Qc (id:=3) zaeb [] (by kernel_rfl) ?_;simp [-zg,-zd,↓Qb,↓Qa,go_sem,h0]
 | refine Qc (id:=4) zaeb [] (by kernel_rfl) ?_;simp [-zg,-zd,↓Qb,↓Qa,go_sem]
 | (refine Qh ?_)
 | (refine Qv ?_;simp [-zg,-zd,↓Qb,↓Qa,go_sem])
 | (refine Qu ?_;simp [-zg,-zd,↓Qb,↓Qa,go_sem])
 | (refine Qy ?_;simp [-zg,-zd,↓Qb,↓Qa,go_sem,Try.results178])
 | (intro hx;refine zA ?_)
 | (refine ⟨?_,?_⟩ <;> refine zA ?_)
 | (intro hx;constructor <;> intro hs)
 | (constructor <;> intro hs)
 | (refine ⟨?_,fun hs=>?_⟩;refine zA ?_)
 | (refine ⟨fun hs=>?_,?_⟩;rotate_left;refine zA ?_;rotate_left)))
theorem zaec (loc:Int) (es:List Ed):dat (.st [.int .i64 loc,li cE es]) = .st [.int .i64 loc,li cE es]:=by simp [go_sem]
@[go_sem] def zabb:Con:=.gen fun args H=>match args with
  | [.st [.int .i64 loc,.list n_es c_es]]=>((Is cE n_es c_es) ∧ ((de cE c_es).length + msum mE (de cE c_es) (de cE c_es).length ≤ 1048576),.st [.int .i64 loc,li cE (de cE c_es)],H)
  | _=>(False,.any,H)
theorem zaed:ConOk Try.prog 178 zabb:=by
  refine ⟨Qm Try.func178 (by decide) rfl,fun args H h=>?_⟩
  revert h
  dsimp only
  split
  · intro h
    obtain ⟨⟨es,rfl,rfl⟩,h0⟩:=h
    try simp only [Ql] at *
    exact Spec.shutG (toProcess_spec _ es h0) (zaec _ es) H
  · intro h
    exact h.elim
@[go_sem] def Γt12:FuncId → Con:=ext Γt11 178 zabb
theorem Zq:∀ g,ConOk Try.prog g (Γt12 g):=Qj zaeb zaed

theorem zago (xs:List Pr) (h0:xs.length + msum mR xs xs.length ≤ 1048576):Spec Try.prog 117 [li cR xs] (fun _=>none) (fr 2 cR xs) (fun _=>none):=by
  refine Spec.of_walk Try.func117 rfl (by simp [Try.f117]) fun B=>?_
  (repeat' (first
 | refine Qx ?_
 | refine Qc (id:=0) Zq [] (by kernel_rfl) ?_;simp [-zg,-zd,↓Qb,↓Qa,go_sem]
 | refine Qc (id:=1) Zq [] (by kernel_rfl) ?_;simp [-zg,-zd,↓Qb,↓Qa,go_sem,(by omega:192 * (xs.length:Int) ≤ 281474976710656),(by omega:80 * (xs.length:Int) ≤ 281474976710656),(by omega:112 * (xs.length:Int) ≤ 281474976710656),(by omega:40 * (xs.length:Int) ≤ 281474976710656),(by omega:32 * (xs.length:Int) ≤ 281474976710656),(by omega:(xs.length:Int) ≤ 9223372036854775807)];try ((refine AW_mat 3 rfl fun b cp j _ hcp hj=>?_))
 | refine Qc (id:=2) Zq [] (by kernel_rfl) ?_;simp [-zg,-zd,↓Qb,↓Qa,go_sem]
 | refine Qc (id:=3) Zq [] (by kernel_rfl) ?_;simp [-zg,-zd,↓Qb,↓Qa,go_sem]
 | refine Qc (id:=5) Zq [] (by kernel_rfl) ?_;simp [-zg,-zd,↓Qb,↓Qa,go_sem,c11,Qk c11,zsP c11,mR_le c11 h0]
 | refine Qc (id:=4) Zq [] (by kernel_rfl) ?_;simp [-zg,-zd,↓Qb,↓Qa,go_sem,wrapS (k:=k) (by omega)]
 | ((obtain rfl:k = xs.length:=by omega);refine AW_unmat 3 (b:=b) (all:=cat cR xs ++ zrP j .any) rfl (by simp [go_sem,fill_all]) (by omega) (by simp [Xi]) (by simp [Xi];omega) ?_);refine Qc (id:=6) Zq [] (by kernel_rfl) ?_;simp [-zg,-zd,↓Qb,↓Qa,go_sem]
 | refine Qd (c:=.tmp 11) ?_;simp [-zg,-zd,↓Qb,↓Qa,go_sem];try first | (refine ⟨?_,?_⟩ <;> refine zA ?_) | (refine ⟨fun c11=>?_,fun c11=>?_⟩ <;> (try simp [B_iff,B_not] at c11))
 | (refine Qh (id:=0) (Xf (ι:=Nat) (fun k:Nat=>⟨(upd (upd (upd (fun _=>.any) 0 (li cR xs)) 3 (.sl b 2 0 xs.length cp)) 4 (.int .i64 k)),upd (fun _=>none) b (some (fillC cR [.int .i64 0,.nil] 2 xs k (zrP j .any)))⟩) (fun k=>k ≤ xs.length) (fun k=>xs.length - k) (0) ?_ ?_ ?_);exact Nat.zero_le _;((repeat' (first | exact Qp (by assumption) | exact Qr | refine Qs ?_ ?_ | refine Qq ?_)) <;> simp [-zg,-zd,↓Qb,↓Qa,go_sem,Zp]);rintro k hk)
 | (refine ⟨k + 1,by omega,by first | omega | (simp;done) | (simp;omega),?_⟩;((repeat' (first | exact Qp (by assumption) | exact Qr | refine Qs ?_ ?_ | refine Qq ?_)) <;> simp [-zg,-zd,↓Qb,↓Qa,go_sem,Zp]))
 | (refine Qh ?_)
 | (refine Qv ?_;simp [-zg,-zd,↓Qb,↓Qa,go_sem])
 | (refine Qu ?_;simp [-zg,-zd,↓Qb,↓Qa,go_sem])
 | (refine Qy ?_;simp [-zg,-zd,↓Qb,↓Qa,go_sem,Try.results117])
 | (intro hx;refine zA ?_)
 | (refine ⟨?_,?_⟩ <;> refine zA ?_)
 | (intro hx;constructor <;> intro hs)
 | (constructor <;> intro hs)
 | (refine ⟨?_,fun hs=>?_⟩;refine zA ?_)
 | (refine ⟨fun hs=>?_,?_⟩;rotate_left;refine zA ?_;rotate_left)))
theorem zadl (xs:List Pr):dat (fr 2 cR xs) = li cR xs:=by simp [go_sem]
@[go_sem] def zaam:Con:=.gen fun args H=>match args with
  | [.list n_xs c_xs]=>((Is cR n_xs c_xs) ∧ ((de cR c_xs).length + msum mR (de cR c_xs) (de cR c_xs).length ≤ 1048576),li cR (de cR c_xs),H)
  | _=>(False,.any,H)
theorem zadm:ConOk Try.prog 117 zaam:=by
  refine ⟨Qm Try.func117 (by decide) rfl,fun args H h=>?_⟩
  revert h
  dsimp only
  split
  · intro h
    obtain ⟨⟨xs,rfl,rfl⟩,h0⟩:=h
    try simp only [Ql] at *
    exact Spec.shutG (zago xs h0) (zadl xs) H
  · intro h
    exact h.elim
@[go_sem] def Γt13:FuncId → Con:=ext Γt12 117 zaam
theorem zaea:∀ g,ConOk Try.prog g (Γt13 g):=Qj Zq zadm

theorem toSystem_spec (a:List Int) (b:List Pr) (h0:a.length ≤ 1048576) (h1:b.length + msum mR b b.length ≤ 1048576):Spec Try.prog 39 [.st [li cI a,li cR b]] (fun _=>none) (.st [fr 1 cI a,li cR b]) (fun _=>none):=by
  refine Spec.of_walk Try.func39 rfl (by simp [Try.f39]) fun B=>?_
  (repeat' (first
 | refine Qx ?_
 | refine Qc (id:=0) zaea [] (by kernel_rfl) ?_;simp [-zg,-zd,↓Qb,↓Qa,go_sem];try (refine AW_shut 1 ?_;simp [go_sem])
 | refine Qc (id:=1) zaea [] (by kernel_rfl) ?_;simp [-zg,-zd,↓Qb,↓Qa,go_sem];try (refine zaff 3 rfl fun b3 hb3=>?_)
 | refine Qc (id:=2) zaea [] (by kernel_rfl) ?_;simp [-zg,-zd,↓Qb,↓Qa,go_sem,h0]
 | refine Qc (id:=3) zaea [] (by kernel_rfl) ?_;simp [-zg,-zd,↓Qb,↓Qa,go_sem,h1]
 | refine Qc (id:=4) zaea [] (by kernel_rfl) ?_;simp [-zg,-zd,↓Qb,↓Qa,go_sem]
 | (refine Qh ?_)
 | (refine Qv ?_;simp [-zg,-zd,↓Qb,↓Qa,go_sem])
 | (refine Qu ?_;simp [-zg,-zd,↓Qb,↓Qa,go_sem])
 | (refine Qy ?_;simp [-zg,-zd,↓Qb,↓Qa,go_sem,Try.results39])
 | (intro hx;refine zA ?_)
 | (refine ⟨?_,?_⟩ <;> refine zA ?_)
 | (intro hx;constructor <;> intro hs)
 | (constructor <;> intro hs)
 | (refine ⟨?_,fun hs=>?_⟩;refine zA ?_)
 | (refine ⟨fun hs=>?_,?_⟩;rotate_left;refine zA ?_;rotate_left)))
theorem zaeq (a:List Int) (b:List Pr):dat (.st [fr 1 cI a,li cR b]) = .st [li cI a,li cR b]:=by simp [go_sem]
@[go_sem] def zabh:Con:=.gen fun args H=>match args with
  | [.st [.list n_a c_a,.list n_b c_b]]=>((Is cI n_a c_a) ∧ (Is cR n_b c_b) ∧ ((de cI c_a).length ≤ 1048576) ∧ ((de cR c_b).length + msum mR (de cR c_b) (de cR c_b).length ≤ 1048576),.st [li cI (de cI c_a),li cR (de cR c_b)],H)
  | _=>(False,.any,H)
theorem zaer:ConOk Try.prog 39 zabh:=by
  refine ⟨Qm Try.func39 (by decide) rfl,fun args H h=>?_⟩
  revert h
  dsimp only
  split
  · intro h
    obtain ⟨⟨a,rfl,rfl⟩,⟨b,rfl,rfl⟩,h0,h1⟩:=h
    try simp only [Ql] at *
    exact Spec.shutG (toSystem_spec a b h0 h1) (zaeq a b) H
  · intro h
    exact h.elim
@[go_sem] def Γt14:FuncId → Con:=ext Γt13 39 zabh
theorem Γt14_ok:∀ g,ConOk Try.prog g (Γt14 g):=Qj zaea zaer


noncomputable instance:DecidableEq Tree:=fun _ _=>Classical.propDecidable _
noncomputable instance:DecidableEq Ed:=fun _ _=>Classical.propDecidable _
noncomputable instance:DecidableEq Pr:=fun _ _=>Classical.propDecidable _
theorem zafh {a b:Tree} (h1:a.k = b.k) (h2:a.v = b.v) (h3:a.ks = b.ks):a = b:=by rw [← Tree.eta a,← Tree.eta b,h1,h2,h3]
theorem ed_ext {a b:Ed} (h1:a.fr = b.fr) (h2:a.to = b.to) (h3:a.g.k = b.g.k) (h4:a.g.v = b.g.v) (h5:a.g.ks = b.g.ks) (h6:a.v = b.v) (h7:a.e.k = b.e.k) (h8:a.e.v = b.e.v) (h9:a.e.ks = b.e.ks) (h10:a.sy = b.sy):a = b:=by
  have e1:=zafh h3 h4 h5;have e2:=zafh h7 h8 h9
  cases a;cases b;simp_all
theorem pr_ext {a b:Pr} (h1:a.loc = b.loc) (h2:a.es = b.es):a = b:=by cases a;cases b;simp_all

@[go_sem] def zadz (n_:Nat):Con:=.pure fun
  | [.list n_xs c_xs,.list n_ys c_ys]=>((Is cX n_xs c_xs) ∧ (Is cX n_ys c_ys) ∧ ((de cX c_xs).length + msum tm (de cX c_xs) (de cX c_xs).length < n_),.bool (decide ((de cX c_xs) = (de cX c_ys))))
  | _=>(False,.any)
theorem zabu {n_:Nat} (ih:∀ (xs:List Tree) (ys:List Tree)  (hm_:xs.length + msum tm xs xs.length < n_),Pure Try.prog 279 [li cX xs,li cX ys] (.bool (decide (xs = ys)))):ConOk Try.prog 279 (zadz n_):=by
  refine ⟨Qm Try.func279 (by decide) rfl,fun args h=>?_⟩
  revert h
  dsimp only
  split
  · intro h
    obtain ⟨⟨xs,rfl,rfl⟩,⟨ys,rfl,rfl⟩,hm_⟩:=h
    try simp only [Ql] at *
    exact ⟨ih xs ys hm_,by simp [go_sem]⟩
  · intro h
    exact h.elim
@[go_sem] def zaep (n_:Nat):Con:=.pure fun
  | [.st [.int .i64 k,.int .i64 v,.list n_ks c_ks],.st [.int .i64 k2,.int .i64 v2,.list n_ks2 c_ks2]]=>((Is cX n_ks c_ks) ∧ (Is cX n_ks2 c_ks2) ∧ ((de cX c_ks).length + msum tm (de cX c_ks) (de cX c_ks).length < n_),.bool (decide (k = k2) && decide (v = v2) && decide ((de cX c_ks) = (de cX c_ks2))))
  | _=>(False,.any)
theorem zagg {n_:Nat} (ih:∀ (k:Int) (v:Int) (ks:List Tree) (k2:Int) (v2:Int) (ks2:List Tree)  (hm_:ks.length + msum tm ks ks.length < n_),Pure Try.prog 263 [.st [.int .i64 k,.int .i64 v,li cX ks],.st [.int .i64 k2,.int .i64 v2,li cX ks2]] (.bool (decide (k = k2) && decide (v = v2) && decide (ks = ks2)))):ConOk Try.prog 263 (zaep n_):=by
  refine ⟨Qm Try.func263 (by decide) rfl,fun args h=>?_⟩
  revert h
  dsimp only
  split
  · intro h
    obtain ⟨⟨ks,rfl,rfl⟩,⟨ks2,rfl,rfl⟩,hm_⟩:=h
    try simp only [Ql] at *
    exact ⟨ih _ _ ks _ _ ks2 hm_,by simp [go_sem]⟩
  · intro h
    exact h.elim
theorem zaci {n_:Nat} (ih:∀ (xs:List Tree) (ys:List Tree)  (hm_:xs.length + msum tm xs xs.length < n_),Pure Try.prog 279 [li cX xs,li cX ys] (.bool (decide (xs = ys)))):∀ (k:Int) (v:Int) (ks:List Tree) (k2:Int) (v2:Int) (ks2:List Tree)  (hm_:ks.length + msum tm ks ks.length < n_),Pure Try.prog 263 [.st [.int .i64 k,.int .i64 v,li cX ks],.st [.int .i64 k2,.int .i64 v2,li cX ks2]] (.bool (decide (k = k2) && decide (v = v2) && decide (ks = ks2))):=by
  intro k v ks k2 v2 ks2  hm_
  have Γr_ok:=Qj Γt14_ok (zabu ih)
  refine Pure.of_walk Try.func263 rfl (by simp [Try.f263]) (by simp [-zd,go_sem]) fun B hK=>?_
  (repeat' (first
 | refine Qx ?_
 | refine Qc (id:=0) Γr_ok [] (by kernel_rfl) ?_;simp [-zg,-zd,↓Qb,↓Qa,go_sem];try (refine Qt hK 2 ?_;simp [go_sem];refine Qt hK 3 ?_;simp [go_sem])
 | refine Qc (id:=1) Γr_ok [] (by kernel_rfl) ?_;simp [-zg,-zd,↓Qb,↓Qa,go_sem]
 | refine Qc (id:=2) Γr_ok [] (by kernel_rfl) ?_;simp [-zg,-zd,↓Qb,↓Qa,go_sem]
 | refine Qc (id:=3) Γr_ok [] (by kernel_rfl) ?_;simp [-zg,-zd,↓Qb,↓Qa,go_sem]
 | refine Qc (id:=4) Γr_ok [] (by kernel_rfl) ?_;simp [-zg,-zd,↓Qb,↓Qa,go_sem]
 | refine Qc (id:=5) Γr_ok [] (by kernel_rfl) ?_;simp [-zg,-zd,↓Qb,↓Qa,go_sem,hm_]
 | refine Qc (id:=6) Γr_ok [] (by kernel_rfl) ?_;simp [-zg,-zd,↓Qb,↓Qa,go_sem]
 | refine Qc (id:=7) Γr_ok [] (by kernel_rfl) ?_;simp [-zg,-zd,↓Qb,↓Qa,go_sem]
 | refine Qd (c:=.tmp 9) ?_;simp [-zg,-zd,↓Qb,↓Qa,go_sem];try first | (refine ⟨?_,?_⟩ <;> refine zA ?_) | (refine ⟨fun c9=>?_,fun c9=>?_⟩ <;> (try simp [B_iff,B_not] at c9))
 | refine Qd (c:=.tmp 14) ?_;simp [-zg,-zd,↓Qb,↓Qa,go_sem];try first | (refine ⟨?_,?_⟩ <;> refine zA ?_) | (refine ⟨fun c14=>?_,fun c14=>?_⟩ <;> (try simp [B_iff,B_not] at c14))
 | refine Qd (c:=.tmp 20) ?_;simp [-zg,-zd,↓Qb,↓Qa,go_sem];try first | (refine ⟨?_,?_⟩ <;> refine zA ?_) | (refine ⟨fun c20=>?_,fun c20=>?_⟩ <;> (try simp [B_iff,B_not] at c20))
 | (refine Qh ?_)
 | (refine Qv ?_;simp [-zg,-zd,↓Qb,↓Qa,go_sem])
 | (refine Qu ?_;simp [-zg,-zd,↓Qb,↓Qa,go_sem])
 | (refine Qy ?_;simp [-zg,-zd,↓Qb,↓Qa,go_sem,Try.results263])
 | (intro hx;refine zA ?_)
 | (refine ⟨?_,?_⟩ <;> refine zA ?_)
 | (intro hx;constructor <;> intro hs)
 | (constructor <;> intro hs)
 | (refine ⟨?_,fun hs=>?_⟩;refine zA ?_)
 | (refine ⟨fun hs=>?_,?_⟩;rotate_left;refine zA ?_;rotate_left)))
  all_goals (first
 | (simp_all;done)
 | (intros;simp_all;done)
 | skip)
theorem zacj:∀ (n_:Nat),∀ (xs:List Tree) (ys:List Tree)  (hm_:xs.length + msum tm xs xs.length < n_),Pure Try.prog 279 [li cX xs,li cX ys] (.bool (decide (xs = ys))):=by
  intro n_
  induction n_ with
  | zero=>intros;omega
  | succ n_ ih =>
  intro xs ys  hm_
  have Γr_ok:=Qj (Qj Γt14_ok (zabu ih)) (zagg (zaci ih))
  refine Pure.of_walk Try.func279 rfl (by simp [Try.f279]) (by simp [-zd,go_sem]) fun B hK=>?_
  (repeat' (first
 | refine Qx ?_
 | (refine Xp 0 rfl fun hm=>?_);refine Qc (id:=0) Γr_ok [] (by kernel_rfl) ?_;simp [-zg,-zd,↓Qb,↓Qa,go_sem]
 | refine Qc (id:=1) Γr_ok [] (by kernel_rfl) ?_;simp [-zg,-zd,↓Qb,↓Qa,go_sem]
 | refine Qc (id:=2) Γr_ok [] (by kernel_rfl) ?_;simp [-zg,-zd,↓Qb,↓Qa,go_sem]
 | refine Qc (id:=3) Γr_ok [] (by kernel_rfl) ?_;simp [-zg,-zd,↓Qb,↓Qa,go_sem]
 | refine Qc (id:=4) Γr_ok [] (by kernel_rfl) ?_;simp [-zg,-zd,↓Qb,↓Qa,go_sem]
 | (have cy:k < ys.length:=by omega);refine Zm (id:=6) Γr_ok mixed [] [5] (by kernel_rfl) (by kernel_rfl) (by simp [-zg,-zd,↓Qb,↓Qa,go_sem,c14,Qk c14,zsP c14,cy,Qk cy,zsP cy,tm_lt c14 hm_]) ?_;simp [-zg,-zd,↓Qb,↓Qa,go_sem,c14,Qk c14,zsP c14,cy,Qk cy,zsP cy,tm_lt c14 hm_]
 | refine Qc (id:=7) Γr_ok [] (by kernel_rfl) ?_;simp [-zg,-zd,↓Qb,↓Qa,go_sem]
 | refine Qc (id:=5) Γr_ok [] (by kernel_rfl) ?_;simp [-zg,-zd,↓Qb,↓Qa,go_sem,wrapS (k:=k) (by omega)]
 | refine Qc (id:=8) Γr_ok [] (by kernel_rfl) ?_;simp [-zg,-zd,↓Qb,↓Qa,go_sem]
 | refine Qd (c:=.tmp 10) ?_;simp [-zg,-zd,↓Qb,↓Qa,go_sem];try first | (refine ⟨?_,?_⟩ <;> refine zA ?_) | (refine ⟨fun c10=>?_,fun c10=>?_⟩ <;> (try simp [B_iff,B_not] at c10))
 | refine Qd (c:=.tmp 14) ?_;simp [-zg,-zd,↓Qb,↓Qa,go_sem];try first | (refine ⟨?_,?_⟩ <;> refine zA ?_) | (refine ⟨fun c14=>?_,fun c14=>?_⟩ <;> (try simp [B_iff,B_not] at c14))
 | refine Qd (c:=.tmp 26) ?_;simp [-zg,-zd,↓Qb,↓Qa,go_sem];try first | (refine ⟨?_,?_⟩ <;> refine zA ?_) | (refine ⟨fun c26=>?_,fun c26=>?_⟩ <;> (try simp [B_iff,B_not] at c26))
 | (refine Qh (id:=0) (Xf (ι:=Nat) (fun k:Nat=>⟨(upd (upd (upd (fun _=>.any) 0 (li cX xs)) 1 (li cX ys)) 5 (.int .i64 k)),fun _=>none⟩) (fun k=>k ≤ xs.length ∧ NoneTill (neAt xs ys) k) (fun k=>xs.length - k) (0) ?_ ?_ ?_);exact ⟨Nat.zero_le _,.zero _⟩;((repeat' (first | exact Qp (by assumption) | exact Qr | refine Qs ?_ ?_ | refine Qq ?_)) <;> simp [-zg,-zd,↓Qb,↓Qa,go_sem]);rintro k ⟨hk,ht⟩)
 | (refine ⟨k + 1,⟨by omega,ht.succ (by simp [neAt];apply zafh <;> simp_all)⟩,by first | omega | (simp;done) | (simp;omega),?_⟩;((repeat' (first | exact Qp (by assumption) | exact Qr | refine Qs ?_ ?_ | refine Qq ?_)) <;> simp [-zg,-zd,↓Qb,↓Qa,go_sem]))
 | (refine Qh ?_)
 | (refine Qv ?_;simp [-zg,-zd,↓Qb,↓Qa,go_sem])
 | (refine Qu ?_;simp [-zg,-zd,↓Qb,↓Qa,go_sem])
 | (refine Qy ?_;simp [-zg,-zd,↓Qb,↓Qa,go_sem,Try.results279])
 | (intro hx;refine zA ?_)
 | (refine ⟨?_,?_⟩ <;> refine zA ?_)
 | (intro hx;constructor <;> intro hs)
 | (constructor <;> intro hs)
 | (refine ⟨?_,fun hs=>?_⟩;refine zA ?_)
 | (refine ⟨fun hs=>?_,?_⟩;rotate_left;refine zA ?_;rotate_left)))
  all_goals (first
 | (rintro rfl;simp at c10;done)
 | (rintro rfl;simp at c26;done)
 | exact Xm (by omega) ht (by omega)
 | skip)
theorem eqExprS_pure (xs:List Tree) (ys:List Tree)  : Pure Try.prog 279 [li cX xs,li cX ys] (.bool (decide (xs = ys))):=zacj (xs.length + msum tm xs xs.length + 1) xs ys  (by omega)
theorem eqExpr_pure (k:Int) (v:Int) (ks:List Tree) (k2:Int) (v2:Int) (ks2:List Tree)  : Pure Try.prog 263 [.st [.int .i64 k,.int .i64 v,li cX ks],.st [.int .i64 k2,.int .i64 v2,li cX ks2]] (.bool (decide (k = k2) && decide (v = v2) && decide (ks = ks2))):=zaci (n_:=ks.length + msum tm ks ks.length + 1) (zacj _) k v ks k2 v2 ks2  (by omega)
@[go_sem] def zack:Con:=.pure fun
  | [.list n_xs c_xs,.list n_ys c_ys]=>((Is cX n_xs c_xs) ∧ (Is cX n_ys c_ys),.bool (decide ((de cX c_xs) = (de cX c_ys))))
  | _=>(False,.any)
theorem zagh:ConOk Try.prog 279 zack:=by
  refine ⟨Qm Try.func279 (by decide) rfl,fun args h=>?_⟩
  revert h
  dsimp only
  split
  · intro h
    obtain ⟨⟨xs,rfl,rfl⟩,⟨ys,rfl,rfl⟩⟩:=h
    try simp only [Ql] at *
    exact ⟨eqExprS_pure xs ys,by simp [go_sem]⟩
  · intro h
    exact h.elim
@[go_sem] def Γt15:FuncId → Con:=ext Γt14 279 zack
theorem Γt15_ok:∀ g,ConOk Try.prog g (Γt15 g):=Qj Γt14_ok zagh
@[go_sem] def zadj:Con:=.pure fun
  | [.st [.int .i64 k,.int .i64 v,.list n_ks c_ks],.st [.int .i64 k2,.int .i64 v2,.list n_ks2 c_ks2]]=>((Is cX n_ks c_ks) ∧ (Is cX n_ks2 c_ks2),.bool (decide (k = k2) && decide (v = v2) && decide ((de cX c_ks) = (de cX c_ks2))))
  | _=>(False,.any)
theorem zahh:ConOk Try.prog 263 zadj:=by
  refine ⟨Qm Try.func263 (by decide) rfl,fun args h=>?_⟩
  revert h
  dsimp only
  split
  · intro h
    obtain ⟨⟨ks,rfl,rfl⟩,⟨ks2,rfl,rfl⟩⟩:=h
    try simp only [Ql] at *
    exact ⟨eqExpr_pure _ _ ks _ _ ks2,by simp [go_sem]⟩
  · intro h
    exact h.elim
@[go_sem] def Γt16:FuncId → Con:=ext Γt15 263 zadj
theorem Xl:∀ g,ConOk Try.prog g (Γt16 g):=Qj Γt15_ok zahh

theorem eqEdge_pure (f1:Int) (t1:Int) (gk1:Int) (gv1:Int) (gs1:List Tree) (v1:Int) (ek1:Int) (ev1:Int) (es1:List Tree) (sy1:Int) (f2:Int) (t2:Int) (gk2:Int) (gv2:Int) (gs2:List Tree) (v2:Int) (ek2:Int) (ev2:Int) (es2:List Tree) (sy2:Int)  : Pure Try.prog 239 [.st [.int .i64 f1,.int .i64 t1,.int .i64 gk1,.int .i64 gv1,li cX gs1,.int .i64 v1,.int .i64 ek1,.int .i64 ev1,li cX es1,.int .i64 sy1],.st [.int .i64 f2,.int .i64 t2,.int .i64 gk2,.int .i64 gv2,li cX gs2,.int .i64 v2,.int .i64 ek2,.int .i64 ev2,li cX es2,.int .i64 sy2]] (.bool (decide (f1 = f2) && decide (t1 = t2) && decide (gk1 = gk2) && decide (gv1 = gv2) && decide (gs1 = gs2) && decide (v1 = v2) && decide (ek1 = ek2) && decide (ev1 = ev2) && decide (es1 = es2) && decide (sy1 = sy2))):=by
  refine Pure.of_walk Try.func239 rfl (by simp [Try.f239]) (by simp [-zd,go_sem]) fun B hK=>?_
  (repeat' (first
 | refine Qx ?_
 | refine Qc (id:=0) Xl [] (by kernel_rfl) ?_;simp [-zg,-zd,↓Qb,↓Qa,go_sem];try (refine Qt hK 2 ?_;simp [go_sem];refine Qt hK 3 ?_;simp [go_sem])
 | refine Qc (id:=1) Xl [] (by kernel_rfl) ?_;simp [-zg,-zd,↓Qb,↓Qa,go_sem]
 | refine Qc (id:=2) Xl [] (by kernel_rfl) ?_;simp [-zg,-zd,↓Qb,↓Qa,go_sem]
 | refine Qc (id:=3) Xl [] (by kernel_rfl) ?_;simp [-zg,-zd,↓Qb,↓Qa,go_sem]
 | refine Qc (id:=4) Xl [] (by kernel_rfl) ?_;simp [-zg,-zd,↓Qb,↓Qa,go_sem]
 | refine Qc (id:=5) Xl [] (by kernel_rfl) ?_;simp [-zg,-zd,↓Qb,↓Qa,go_sem]
 | refine Qc (id:=6) Xl [] (by kernel_rfl) ?_;simp [-zg,-zd,↓Qb,↓Qa,go_sem]
 | refine Qc (id:=7) Xl [] (by kernel_rfl) ?_;simp [-zg,-zd,↓Qb,↓Qa,go_sem]
 | refine Qc (id:=8) Xl [] (by kernel_rfl) ?_;simp [-zg,-zd,↓Qb,↓Qa,go_sem]
 | refine Qc (id:=9) Xl [] (by kernel_rfl) ?_;simp [-zg,-zd,↓Qb,↓Qa,go_sem]
 | refine Qc (id:=10) Xl [] (by kernel_rfl) ?_;simp [-zg,-zd,↓Qb,↓Qa,go_sem]
 | refine Qc (id:=11) Xl [] (by kernel_rfl) ?_;simp [-zg,-zd,↓Qb,↓Qa,go_sem]
 | refine Qc (id:=12) Xl [] (by kernel_rfl) ?_;simp [-zg,-zd,↓Qb,↓Qa,go_sem]
 | refine Qc (id:=13) Xl [] (by kernel_rfl) ?_;simp [-zg,-zd,↓Qb,↓Qa,go_sem]
 | refine Qd (c:=.tmp 9) ?_;simp [-zg,-zd,↓Qb,↓Qa,go_sem];try first | (refine ⟨?_,?_⟩ <;> refine zA ?_) | (refine ⟨fun c9=>?_,fun c9=>?_⟩ <;> (try simp [B_iff,B_not] at c9))
 | refine Qd (c:=.tmp 14) ?_;simp [-zg,-zd,↓Qb,↓Qa,go_sem];try first | (refine ⟨?_,?_⟩ <;> refine zA ?_) | (refine ⟨fun c14=>?_,fun c14=>?_⟩ <;> (try simp [B_iff,B_not] at c14))
 | refine Qd (c:=.tmp 20) ?_;simp [-zg,-zd,↓Qb,↓Qa,go_sem];try first | (refine ⟨?_,?_⟩ <;> refine zA ?_) | (refine ⟨fun c20=>?_,fun c20=>?_⟩ <;> (try simp [B_iff,B_not] at c20))
 | refine Qd (c:=.tmp 25) ?_;simp [-zg,-zd,↓Qb,↓Qa,go_sem];try first | (refine ⟨?_,?_⟩ <;> refine zA ?_) | (refine ⟨fun c25=>?_,fun c25=>?_⟩ <;> (try simp [B_iff,B_not] at c25))
 | refine Qd (c:=.tmp 31) ?_;simp [-zg,-zd,↓Qb,↓Qa,go_sem];try first | (refine ⟨?_,?_⟩ <;> refine zA ?_) | (refine ⟨fun c31=>?_,fun c31=>?_⟩ <;> (try simp [B_iff,B_not] at c31))
 | refine Qd (c:=.tmp 36) ?_;simp [-zg,-zd,↓Qb,↓Qa,go_sem];try first | (refine ⟨?_,?_⟩ <;> refine zA ?_) | (refine ⟨fun c36=>?_,fun c36=>?_⟩ <;> (try simp [B_iff,B_not] at c36))
 | (refine Qh ?_)
 | (refine Qv ?_;simp [-zg,-zd,↓Qb,↓Qa,go_sem])
 | (refine Qu ?_;simp [-zg,-zd,↓Qb,↓Qa,go_sem])
 | (refine Qy ?_;simp [-zg,-zd,↓Qb,↓Qa,go_sem,Try.results239])
 | (intro hx;refine zA ?_)
 | (refine ⟨?_,?_⟩ <;> refine zA ?_)
 | (intro hx;constructor <;> intro hs)
 | (constructor <;> intro hs)
 | (refine ⟨?_,fun hs=>?_⟩;refine zA ?_)
 | (refine ⟨fun hs=>?_,?_⟩;rotate_left;refine zA ?_;rotate_left)))
  all_goals (first
 | (simp_all;done)
 | (intros;simp_all;done)
 | skip)
@[go_sem] def zadk:Con:=.pure fun
  | [.st [.int .i64 f1,.int .i64 t1,.int .i64 gk1,.int .i64 gv1,.list n_gs1 c_gs1,.int .i64 v1,.int .i64 ek1,.int .i64 ev1,.list n_es1 c_es1,.int .i64 sy1],.st [.int .i64 f2,.int .i64 t2,.int .i64 gk2,.int .i64 gv2,.list n_gs2 c_gs2,.int .i64 v2,.int .i64 ek2,.int .i64 ev2,.list n_es2 c_es2,.int .i64 sy2]]=>((Is cX n_gs1 c_gs1) ∧ (Is cX n_es1 c_es1) ∧ (Is cX n_gs2 c_gs2) ∧ (Is cX n_es2 c_es2),.bool (decide (f1 = f2) && decide (t1 = t2) && decide (gk1 = gk2) && decide (gv1 = gv2) && decide ((de cX c_gs1) = (de cX c_gs2)) && decide (v1 = v2) && decide (ek1 = ek2) && decide (ev1 = ev2) && decide ((de cX c_es1) = (de cX c_es2)) && decide (sy1 = sy2)))
  | _=>(False,.any)
theorem zahi:ConOk Try.prog 239 zadk:=by
  refine ⟨Qm Try.func239 (by decide) rfl,fun args h=>?_⟩
  revert h
  dsimp only
  split
  · intro h
    obtain ⟨⟨gs1,rfl,rfl⟩,⟨es1,rfl,rfl⟩,⟨gs2,rfl,rfl⟩,⟨es2,rfl,rfl⟩⟩:=h
    try simp only [Ql] at *
    exact ⟨eqEdge_pure _ _ _ _ gs1 _ _ _ es1 _ _ _ _ _ gs2 _ _ _ es2 _,by simp [go_sem]⟩
  · intro h
    exact h.elim
@[go_sem] def Γt17:FuncId → Con:=ext Γt16 239 zadk
theorem Zd:∀ g,ConOk Try.prog g (Γt17 g):=Qj Xl zahi

theorem eqEdgeS_pure (xs:List Ed) (ys:List Ed)  : Pure Try.prog 212 [li cE xs,li cE ys] (.bool (decide (xs = ys))):=by
  refine Pure.of_walk Try.func212 rfl (by simp [Try.f212]) (by simp [-zd,go_sem]) fun B hK=>?_
  (repeat' (first
 | refine Qx ?_
 | (refine Xp 0 rfl fun hm=>?_);refine Qc (id:=0) Zd [] (by kernel_rfl) ?_;simp [-zg,-zd,↓Qb,↓Qa,go_sem]
 | refine Qc (id:=1) Zd [] (by kernel_rfl) ?_;simp [-zg,-zd,↓Qb,↓Qa,go_sem]
 | refine Qc (id:=2) Zd [] (by kernel_rfl) ?_;simp [-zg,-zd,↓Qb,↓Qa,go_sem]
 | refine Qc (id:=3) Zd [] (by kernel_rfl) ?_;simp [-zg,-zd,↓Qb,↓Qa,go_sem]
 | refine Qc (id:=4) Zd [] (by kernel_rfl) ?_;simp [-zg,-zd,↓Qb,↓Qa,go_sem]
 | (have cy:k < ys.length:=by omega);refine Zm (id:=6) Zd mixed [] [5] (by kernel_rfl) (by kernel_rfl) (by simp [-zg,-zd,↓Qb,↓Qa,go_sem,c14,Qk c14,zsP c14,cy,Qk cy,zsP cy]) ?_;simp [-zg,-zd,↓Qb,↓Qa,go_sem,c14,Qk c14,zsP c14,cy,Qk cy,zsP cy]
 | refine Qc (id:=7) Zd [] (by kernel_rfl) ?_;simp [-zg,-zd,↓Qb,↓Qa,go_sem]
 | refine Qc (id:=5) Zd [] (by kernel_rfl) ?_;simp [-zg,-zd,↓Qb,↓Qa,go_sem,wrapS (k:=k) (by omega)]
 | refine Qc (id:=8) Zd [] (by kernel_rfl) ?_;simp [-zg,-zd,↓Qb,↓Qa,go_sem]
 | refine Qd (c:=.tmp 10) ?_;simp [-zg,-zd,↓Qb,↓Qa,go_sem];try first | (refine ⟨?_,?_⟩ <;> refine zA ?_) | (refine ⟨fun c10=>?_,fun c10=>?_⟩ <;> (try simp [B_iff,B_not] at c10))
 | refine Qd (c:=.tmp 14) ?_;simp [-zg,-zd,↓Qb,↓Qa,go_sem];try first | (refine ⟨?_,?_⟩ <;> refine zA ?_) | (refine ⟨fun c14=>?_,fun c14=>?_⟩ <;> (try simp [B_iff,B_not] at c14))
 | refine Qd (c:=.tmp 26) ?_;simp [-zg,-zd,↓Qb,↓Qa,go_sem];try first | (refine ⟨?_,?_⟩ <;> refine zA ?_) | (refine ⟨fun c26=>?_,fun c26=>?_⟩ <;> (try simp [B_iff,B_not] at c26))
 | (refine Qh (id:=0) (Xf (ι:=Nat) (fun k:Nat=>⟨(upd (upd (upd (fun _=>.any) 0 (li cE xs)) 1 (li cE ys)) 5 (.int .i64 k)),fun _=>none⟩) (fun k=>k ≤ xs.length ∧ NoneTill (neAt xs ys) k) (fun k=>xs.length - k) (0) ?_ ?_ ?_);exact ⟨Nat.zero_le _,.zero _⟩;((repeat' (first | exact Qp (by assumption) | exact Qr | refine Qs ?_ ?_ | refine Qq ?_)) <;> simp [-zg,-zd,↓Qb,↓Qa,go_sem]);rintro k ⟨hk,ht⟩)
 | (refine ⟨k + 1,⟨by omega,ht.succ (by simp [neAt];apply ed_ext <;> simp_all)⟩,by first | omega | (simp;done) | (simp;omega),?_⟩;((repeat' (first | exact Qp (by assumption) | exact Qr | refine Qs ?_ ?_ | refine Qq ?_)) <;> simp [-zg,-zd,↓Qb,↓Qa,go_sem]))
 | (refine Qh ?_)
 | (refine Qv ?_;simp [-zg,-zd,↓Qb,↓Qa,go_sem])
 | (refine Qu ?_;simp [-zg,-zd,↓Qb,↓Qa,go_sem])
 | (refine Qy ?_;simp [-zg,-zd,↓Qb,↓Qa,go_sem,Try.results212])
 | (intro hx;refine zA ?_)
 | (refine ⟨?_,?_⟩ <;> refine zA ?_)
 | (intro hx;constructor <;> intro hs)
 | (constructor <;> intro hs)
 | (refine ⟨?_,fun hs=>?_⟩;refine zA ?_)
 | (refine ⟨fun hs=>?_,?_⟩;rotate_left;refine zA ?_;rotate_left)))
  all_goals (first
 | (rintro rfl;simp at c10;done)
 | (rintro rfl;simp at c26;done)
 | exact Xm (by omega) ht (by omega)
 | skip)
@[go_sem] def zacl:Con:=.pure fun
  | [.list n_xs c_xs,.list n_ys c_ys]=>((Is cE n_xs c_xs) ∧ (Is cE n_ys c_ys),.bool (decide ((de cE c_xs) = (de cE c_ys))))
  | _=>(False,.any)
theorem zagi:ConOk Try.prog 212 zacl:=by
  refine ⟨Qm Try.func212 (by decide) rfl,fun args h=>?_⟩
  revert h
  dsimp only
  split
  · intro h
    obtain ⟨⟨xs,rfl,rfl⟩,⟨ys,rfl,rfl⟩⟩:=h
    try simp only [Ql] at *
    exact ⟨eqEdgeS_pure xs ys,by simp [go_sem]⟩
  · intro h
    exact h.elim
@[go_sem] def Γt18:FuncId → Con:=ext Γt17 212 zacl
theorem zacx:∀ g,ConOk Try.prog g (Γt18 g):=Qj Zd zagi

theorem eqProcess_pure (l1:Int) (es1:List Ed) (l2:Int) (es2:List Ed)  : Pure Try.prog 180 [.st [.int .i64 l1,li cE es1],.st [.int .i64 l2,li cE es2]] (.bool (decide (l1 = l2) && decide (es1 = es2))):=by
  refine Pure.of_walk Try.func180 rfl (by simp [Try.f180]) (by simp [-zd,go_sem]) fun B hK=>?_
  (repeat' (first
 | refine Qx ?_
 | refine Qc (id:=0) zacx [] (by kernel_rfl) ?_;simp [-zg,-zd,↓Qb,↓Qa,go_sem];try (refine Qt hK 2 ?_;simp [go_sem];refine Qt hK 3 ?_;simp [go_sem])
 | refine Qc (id:=1) zacx [] (by kernel_rfl) ?_;simp [-zg,-zd,↓Qb,↓Qa,go_sem]
 | refine Qc (id:=2) zacx [] (by kernel_rfl) ?_;simp [-zg,-zd,↓Qb,↓Qa,go_sem]
 | refine Qc (id:=3) zacx [] (by kernel_rfl) ?_;simp [-zg,-zd,↓Qb,↓Qa,go_sem]
 | refine Qc (id:=4) zacx [] (by kernel_rfl) ?_;simp [-zg,-zd,↓Qb,↓Qa,go_sem]
 | refine Qc (id:=5) zacx [] (by kernel_rfl) ?_;simp [-zg,-zd,↓Qb,↓Qa,go_sem]
 | refine Qd (c:=.tmp 9) ?_;simp [-zg,-zd,↓Qb,↓Qa,go_sem];try first | (refine ⟨?_,?_⟩ <;> refine zA ?_) | (refine ⟨fun c9=>?_,fun c9=>?_⟩ <;> (try simp [B_iff,B_not] at c9))
 | refine Qd (c:=.tmp 15) ?_;simp [-zg,-zd,↓Qb,↓Qa,go_sem];try first | (refine ⟨?_,?_⟩ <;> refine zA ?_) | (refine ⟨fun c15=>?_,fun c15=>?_⟩ <;> (try simp [B_iff,B_not] at c15))
 | (refine Qh ?_)
 | (refine Qv ?_;simp [-zg,-zd,↓Qb,↓Qa,go_sem])
 | (refine Qu ?_;simp [-zg,-zd,↓Qb,↓Qa,go_sem])
 | (refine Qy ?_;simp [-zg,-zd,↓Qb,↓Qa,go_sem,Try.results180])
 | (intro hx;refine zA ?_)
 | (refine ⟨?_,?_⟩ <;> refine zA ?_)
 | (intro hx;constructor <;> intro hs)
 | (constructor <;> intro hs)
 | (refine ⟨?_,fun hs=>?_⟩;refine zA ?_)
 | (refine ⟨fun hs=>?_,?_⟩;rotate_left;refine zA ?_;rotate_left)))
  all_goals (first
 | (simp_all;done)
 | (intros;simp_all;done)
 | skip)
@[go_sem] def zabd:Con:=.pure fun
  | [.st [.int .i64 l1,.list n_es1 c_es1],.st [.int .i64 l2,.list n_es2 c_es2]]=>((Is cE n_es1 c_es1) ∧ (Is cE n_es2 c_es2),.bool (decide (l1 = l2) && decide ((de cE c_es1) = (de cE c_es2))))
  | _=>(False,.any)
theorem zaeh:ConOk Try.prog 180 zabd:=by
  refine ⟨Qm Try.func180 (by decide) rfl,fun args h=>?_⟩
  revert h
  dsimp only
  split
  · intro h
    obtain ⟨⟨es1,rfl,rfl⟩,⟨es2,rfl,rfl⟩⟩:=h
    try simp only [Ql] at *
    exact ⟨eqProcess_pure _ es1 _ es2,by simp [go_sem]⟩
  · intro h
    exact h.elim
@[go_sem] def Γt19:FuncId → Con:=ext Γt18 180 zabd
theorem Zc:∀ g,ConOk Try.prog g (Γt19 g):=Qj zacx zaeh

theorem zahd (xs:List Pr) (ys:List Pr)  : Pure Try.prog 123 [li cR xs,li cR ys] (.bool (decide (xs = ys))):=by
  refine Pure.of_walk Try.func123 rfl (by simp [Try.f123]) (by simp [-zd,go_sem]) fun B hK=>?_
  (repeat' (first
 | refine Qx ?_
 | (refine Xp 0 rfl fun hm=>?_);refine Qc (id:=0) Zc [] (by kernel_rfl) ?_;simp [-zg,-zd,↓Qb,↓Qa,go_sem]
 | refine Qc (id:=1) Zc [] (by kernel_rfl) ?_;simp [-zg,-zd,↓Qb,↓Qa,go_sem]
 | refine Qc (id:=2) Zc [] (by kernel_rfl) ?_;simp [-zg,-zd,↓Qb,↓Qa,go_sem]
 | refine Qc (id:=3) Zc [] (by kernel_rfl) ?_;simp [-zg,-zd,↓Qb,↓Qa,go_sem]
 | refine Qc (id:=4) Zc [] (by kernel_rfl) ?_;simp [-zg,-zd,↓Qb,↓Qa,go_sem]
 | (have cy:k < ys.length:=by omega);refine Zm (id:=6) Zc mixed [] [5] (by kernel_rfl) (by kernel_rfl) (by simp [-zg,-zd,↓Qb,↓Qa,go_sem,c14,Qk c14,zsP c14,cy,Qk cy,zsP cy]) ?_;simp [-zg,-zd,↓Qb,↓Qa,go_sem,c14,Qk c14,zsP c14,cy,Qk cy,zsP cy]
 | refine Qc (id:=7) Zc [] (by kernel_rfl) ?_;simp [-zg,-zd,↓Qb,↓Qa,go_sem]
 | refine Qc (id:=5) Zc [] (by kernel_rfl) ?_;simp [-zg,-zd,↓Qb,↓Qa,go_sem,wrapS (k:=k) (by omega)]
 | refine Qc (id:=8) Zc [] (by kernel_rfl) ?_;simp [-zg,-zd,↓Qb,↓Qa,go_sem]
 | refine Qd (c:=.tmp 10) ?_;simp [-zg,-zd,↓Qb,↓Qa,go_sem];try first | (refine ⟨?_,?_⟩ <;> refine zA ?_) | (refine ⟨fun c10=>?_,fun c10=>?_⟩ <;> (try simp [B_iff,B_not] at c10))
 | refine Qd (c:=.tmp 14) ?_;simp [-zg,-zd,↓Qb,↓Qa,go_sem];try first | (refine ⟨?_,?_⟩ <;> refine zA ?_) | (refine ⟨fun c14=>?_,fun c14=>?_⟩ <;> (try simp [B_iff,B_not] at c14))
 | refine Qd (c:=.tmp 26) ?_;simp [-zg,-zd,↓Qb,↓Qa,go_sem];try first | (refine ⟨?_,?_⟩ <;> refine zA ?_) | (refine ⟨fun c26=>?_,fun c26=>?_⟩ <;> (try simp [B_iff,B_not] at c26))
 | (refine Qh (id:=0) (Xf (ι:=Nat) (fun k:Nat=>⟨(upd (upd (upd (fun _=>.any) 0 (li cR xs)) 1 (li cR ys)) 5 (.int .i64 k)),fun _=>none⟩) (fun k=>k ≤ xs.length ∧ NoneTill (neAt xs ys) k) (fun k=>xs.length - k) (0) ?_ ?_ ?_);exact ⟨Nat.zero_le _,.zero _⟩;((repeat' (first | exact Qp (by assumption) | exact Qr | refine Qs ?_ ?_ | refine Qq ?_)) <;> simp [-zg,-zd,↓Qb,↓Qa,go_sem]);rintro k ⟨hk,ht⟩)
 | (refine ⟨k + 1,⟨by omega,ht.succ (by simp [neAt];apply pr_ext <;> simp_all)⟩,by first | omega | (simp;done) | (simp;omega),?_⟩;((repeat' (first | exact Qp (by assumption) | exact Qr | refine Qs ?_ ?_ | refine Qq ?_)) <;> simp [-zg,-zd,↓Qb,↓Qa,go_sem]))
 | (refine Qh ?_)
 | (refine Qv ?_;simp [-zg,-zd,↓Qb,↓Qa,go_sem])
 | (refine Qu ?_;simp [-zg,-zd,↓Qb,↓Qa,go_sem])
 | (refine Qy ?_;simp [-zg,-zd,↓Qb,↓Qa,go_sem,Try.results123])
 | (intro hx;refine zA ?_)
 | (refine ⟨?_,?_⟩ <;> refine zA ?_)
 | (intro hx;constructor <;> intro hs)
 | (constructor <;> intro hs)
 | (refine ⟨?_,fun hs=>?_⟩;refine zA ?_)
 | (refine ⟨fun hs=>?_,?_⟩;rotate_left;refine zA ?_;rotate_left)))
  all_goals (first
 | (rintro rfl;simp at c10;done)
 | (rintro rfl;simp at c26;done)
 | exact Xm (by omega) ht (by omega)
 | skip)
@[go_sem] def zaas:Con:=.pure fun
  | [.list n_xs c_xs,.list n_ys c_ys]=>((Is cR n_xs c_xs) ∧ (Is cR n_ys c_ys),.bool (decide ((de cR c_xs) = (de cR c_ys))))
  | _=>(False,.any)
theorem zadw:ConOk Try.prog 123 zaas:=by
  refine ⟨Qm Try.func123 (by decide) rfl,fun args h=>?_⟩
  revert h
  dsimp only
  split
  · intro h
    obtain ⟨⟨xs,rfl,rfl⟩,⟨ys,rfl,rfl⟩⟩:=h
    try simp only [Ql] at *
    exact ⟨zahd xs ys,by simp [go_sem]⟩
  · intro h
    exact h.elim
@[go_sem] def Γt20:FuncId → Con:=ext Γt19 123 zaas
theorem zacw:∀ g,ConOk Try.prog g (Γt20 g):=Qj Zc zadw

theorem eqSystem_pure (a:List Int) (b:List Pr) (c:List Int) (d:List Pr)  : Pure Try.prog 41 [.st [li cI a,li cR b],.st [li cI c,li cR d]] (.bool (decide (a = c) && decide (b = d))):=by
  refine Pure.of_walk Try.func41 rfl (by simp [Try.f41]) (by simp [-zd,go_sem]) fun B hK=>?_
  (repeat' (first
 | refine Qx ?_
 | refine Qc (id:=0) zacw [] (by kernel_rfl) ?_;simp [-zg,-zd,↓Qb,↓Qa,go_sem];try (refine Qt hK 2 ?_;simp [go_sem];refine Qt hK 3 ?_;simp [go_sem])
 | refine Qc (id:=1) zacw [] (by kernel_rfl) ?_;simp [-zg,-zd,↓Qb,↓Qa,go_sem]
 | refine Qc (id:=2) zacw [] (by kernel_rfl) ?_;simp [-zg,-zd,↓Qb,↓Qa,go_sem]
 | refine Qc (id:=3) zacw [] (by kernel_rfl) ?_;simp [-zg,-zd,↓Qb,↓Qa,go_sem]
 | refine Qc (id:=4) zacw [] (by kernel_rfl) ?_;simp [-zg,-zd,↓Qb,↓Qa,go_sem]
 | refine Qc (id:=5) zacw [] (by kernel_rfl) ?_;simp [-zg,-zd,↓Qb,↓Qa,go_sem]
 | refine Qd (c:=.tmp 10) ?_;simp [-zg,-zd,↓Qb,↓Qa,go_sem];try first | (refine ⟨?_,?_⟩ <;> refine zA ?_) | (refine ⟨fun c10=>?_,fun c10=>?_⟩ <;> (try simp [B_iff,B_not] at c10))
 | refine Qd (c:=.tmp 16) ?_;simp [-zg,-zd,↓Qb,↓Qa,go_sem];try first | (refine ⟨?_,?_⟩ <;> refine zA ?_) | (refine ⟨fun c16=>?_,fun c16=>?_⟩ <;> (try simp [B_iff,B_not] at c16))
 | (refine Qh ?_)
 | (refine Qv ?_;simp [-zg,-zd,↓Qb,↓Qa,go_sem])
 | (refine Qu ?_;simp [-zg,-zd,↓Qb,↓Qa,go_sem])
 | (refine Qy ?_;simp [-zg,-zd,↓Qb,↓Qa,go_sem,Try.results41])
 | (intro hx;refine zA ?_)
 | (refine ⟨?_,?_⟩ <;> refine zA ?_)
 | (intro hx;constructor <;> intro hs)
 | (constructor <;> intro hs)
 | (refine ⟨?_,fun hs=>?_⟩;refine zA ?_)
 | (refine ⟨fun hs=>?_,?_⟩;rotate_left;refine zA ?_;rotate_left)))
  all_goals (first
 | (simp_all;done)
 | (intros;simp_all;done)
 | skip)
@[go_sem] def zabm:Con:=.pure fun
  | [.st [.list n_a c_a,.list n_b c_b],.st [.list n_c c_c,.list n_d c_d]]=>((Is cI n_a c_a) ∧ (Is cR n_b c_b) ∧ (Is cI n_c c_c) ∧ (Is cR n_d c_d),.bool (decide ((de cI c_a) = (de cI c_c)) && decide ((de cR c_b) = (de cR c_d))))
  | _=>(False,.any)
theorem zaew:ConOk Try.prog 41 zabm:=by
  refine ⟨Qm Try.func41 (by decide) rfl,fun args h=>?_⟩
  revert h
  dsimp only
  split
  · intro h
    obtain ⟨⟨a,rfl,rfl⟩,⟨b,rfl,rfl⟩,⟨c,rfl,rfl⟩,⟨d,rfl,rfl⟩⟩:=h
    try simp only [Ql] at *
    exact ⟨eqSystem_pure a b c d,by simp [go_sem]⟩
  · intro h
    exact h.elim
@[go_sem] def Γt21:FuncId → Con:=ext Γt20 41 zabm
theorem Γt21_ok:∀ g,ConOk Try.prog g (Γt21 g):=Qj zacw zaew


@[go_sem] def zaax (n_:Nat):Con:=.pure fun
  | [.st [.int .i64 k,.int .i64 v,.list n_ks c_ks],.st [.int .i64 k2,.int .i64 v2,.list n_ks2 c_ks2]]=>((Is cX n_ks c_ks) ∧ (Is cX n_ks2 c_ks2) ∧ ((de cX c_ks).length + msum tm (de cX c_ks) (de cX c_ks).length < n_),.bool (decide (k = k2) && decide (v = v2) && decide ((de cX c_ks) = (de cX c_ks2))))
  | _=>(False,.any)
theorem zacg {n_:Nat} (ih:∀ (k:Int) (v:Int) (ks:List Tree) (k2:Int) (v2:Int) (ks2:List Tree)  (hm_:ks.length + msum tm ks ks.length < n_),Pure Try.prog 177 [.st [.int .i64 k,.int .i64 v,li cX ks],.st [.int .i64 k2,.int .i64 v2,li cX ks2]] (.bool (decide (k = k2) && decide (v = v2) && decide (ks = ks2)))):ConOk Try.prog 177 (zaax n_):=by
  refine ⟨Qm Try.func177 (by decide) rfl,fun args h=>?_⟩
  revert h
  dsimp only
  split
  · intro h
    obtain ⟨⟨ks,rfl,rfl⟩,⟨ks2,rfl,rfl⟩,hm_⟩:=h
    try simp only [Ql] at *
    exact ⟨ih _ _ ks _ _ ks2 hm_,by simp [go_sem]⟩
  · intro h
    exact h.elim
theorem zacs:∀ (n_:Nat),∀ (k:Int) (v:Int) (ks:List Tree) (k2:Int) (v2:Int) (ks2:List Tree)  (hm_:ks.length + msum tm ks ks.length < n_),Pure Try.prog 177 [.st [.int .i64 k,.int .i64 v,li cX ks],.st [.int .i64 k2,.int .i64 v2,li cX ks2]] (.bool (decide (k = k2) && decide (v = v2) && decide (ks = ks2))):=by
  intro n_
  induction n_ with
  | zero=>intros;omega
  | succ n_ ih =>
  intro k v ks k2 v2 ks2  hm_
  have Γr_ok:=Qj Γt21_ok (zacg ih)
  refine Pure.of_walk Try.func177 rfl (by simp [Try.f177]) (by simp [-zd,go_sem]) fun B hK=>?_
  (repeat' (first
 | refine Qx ?_
 | refine Qc (id:=0) Γr_ok [] (by kernel_rfl) ?_;simp [-zg,-zd,↓Qb,↓Qa,go_sem];try (refine Qt hK 2 ?_;simp [go_sem];refine Qt hK 3 ?_;simp [go_sem])
 | refine Qc (id:=1) Γr_ok [11,18] (by kernel_rfl) ?_;simp [-zg,-zd,↓Qb,↓Qa,go_sem];try (refine ⟨fun s1a=>?_,fun s1a=>?_⟩ <;> (try simp [B_iff,B_not] at s1a) <;> try (refine ⟨fun s1b=>?_,fun s1b=>?_⟩ <;> (try simp [B_iff,B_not] at s1b) <;> try (refine ⟨fun s1c=>?_,fun s1c=>?_⟩ <;> (try simp [B_iff,B_not] at s1c))))
 | refine Qc (id:=2) Γr_ok [] (by kernel_rfl) ?_;simp [-zg,-zd,↓Qb,↓Qa,go_sem]
 | (refine AW_lenP 2 2 ⟨rfl,rfl⟩ fun hm=>?_);refine Qc (id:=3) Γr_ok [] (by kernel_rfl) ?_;simp [-zg,-zd,↓Qb,↓Qa,go_sem]
 | refine Qc (id:=4) Γr_ok [] (by kernel_rfl) ?_;simp [-zg,-zd,↓Qb,↓Qa,go_sem]
 | (have cy:i < ks2.length:=by omega);refine Zm (id:=6) Γr_ok mixed [] [5] (by kernel_rfl) (by kernel_rfl) (by simp [-zg,-zd,↓Qb,↓Qa,go_sem,c31,Qk c31,zsP c31,cy,Qk cy,zsP cy,tm_lt c31 hm_]) ?_;simp [-zg,-zd,↓Qb,↓Qa,go_sem,c31,Qk c31,zsP c31,cy,Qk cy,zsP cy,tm_lt c31 hm_]
 | refine Qc (id:=7) Γr_ok [] (by kernel_rfl) ?_;simp [-zg,-zd,↓Qb,↓Qa,go_sem]
 | refine Qc (id:=5) Γr_ok [] (by kernel_rfl) ?_;simp [-zg,-zd,↓Qb,↓Qa,go_sem,wrapS (k:=i) (by omega)]
 | refine Qc (id:=8) Γr_ok [] (by kernel_rfl) ?_;simp [-zg,-zd,↓Qb,↓Qa,go_sem]
 | refine Qd (c:=.tmp 26) ?_;simp [-zg,-zd,↓Qb,↓Qa,go_sem];try first | (refine ⟨?_,?_⟩ <;> refine zA ?_) | (refine ⟨fun c26=>?_,fun c26=>?_⟩ <;> (try simp [B_iff,B_not] at c26))
 | refine Qd (c:=.tmp 31) ?_;simp [-zg,-zd,↓Qb,↓Qa,go_sem];try first | (refine ⟨?_,?_⟩ <;> refine zA ?_) | (refine ⟨fun c31=>?_,fun c31=>?_⟩ <;> (try simp [B_iff,B_not] at c31))
 | refine Qd (c:=.tmp 45) ?_;simp [-zg,-zd,↓Qb,↓Qa,go_sem];try first | (refine ⟨?_,?_⟩ <;> refine zA ?_) | (refine ⟨fun c45=>?_,fun c45=>?_⟩ <;> (try simp [B_iff,B_not] at c45))
 | (refine Qh (id:=0) (Xf (ι:=Nat) (fun i:Nat=>⟨(upd (upd (upd (fun _=>.any) 2 (.pd [.int .i64 k,.int .i64 v,li cX ks])) 3 (.pd [.int .i64 k2,.int .i64 v2,li cX ks2])) 5 (.int .i64 i)),fun _=>none⟩) (fun i=>i ≤ ks.length ∧ NoneTill (neAt ks ks2) i) (fun i=>ks.length - i) (0) ?_ ?_ ?_);exact ⟨Nat.zero_le _,.zero _⟩;((repeat' (first | exact Qp (by assumption) | exact Qr | refine Qs ?_ ?_ | refine Qq ?_)) <;> simp [-zg,-zd,↓Qb,↓Qa,go_sem]);rintro i ⟨hi,ht⟩)
 | (refine ⟨i + 1,⟨by omega,ht.succ (by simp [neAt];apply zafh <;> simp_all)⟩,by first | omega | (simp;done) | (simp;omega),?_⟩;((repeat' (first | exact Qp (by assumption) | exact Qr | refine Qs ?_ ?_ | refine Qq ?_)) <;> simp [-zg,-zd,↓Qb,↓Qa,go_sem]))
 | (refine Qh ?_)
 | (refine Qv ?_;simp [-zg,-zd,↓Qb,↓Qa,go_sem])
 | (refine Qu ?_;simp [-zg,-zd,↓Qb,↓Qa,go_sem])
 | (refine Qy ?_;simp [-zg,-zd,↓Qb,↓Qa,go_sem,Try.results177])
 | (intro hx;refine zA ?_)
 | (refine ⟨?_,?_⟩ <;> refine zA ?_)
 | (intro hx;constructor <;> intro hs)
 | (constructor <;> intro hs)
 | (refine ⟨?_,fun hs=>?_⟩;refine zA ?_)
 | (refine ⟨fun hs=>?_,?_⟩;rotate_left;refine zA ?_;rotate_left)))
  all_goals (first
 | exact Xm (by omega) ht (by omega)
 | (have hq:=Xm (xs:=ks) (ys:=ks2) (by omega) ht (by omega);simp_all;done)
 | (rintro rfl rfl rfl;simp at s1a;done)
 | (rintro rfl rfl rfl;simp at s1b;done)
 | (rintro rfl rfl rfl;simp at c26;done)
 | (rintro rfl rfl rfl;simp at c45;done)
 | skip)
theorem zaeu (k:Int) (v:Int) (ks:List Tree) (k2:Int) (v2:Int) (ks2:List Tree)  : Pure Try.prog 177 [.st [.int .i64 k,.int .i64 v,li cX ks],.st [.int .i64 k2,.int .i64 v2,li cX ks2]] (.bool (decide (k = k2) && decide (v = v2) && decide (ks = ks2))):=zacs (ks.length + msum tm ks ks.length + 1) k v ks k2 v2 ks2  (by omega)
@[go_sem] def zaae:Con:=.pure fun
  | [.st [.int .i64 k,.int .i64 v,.list n_ks c_ks],.st [.int .i64 k2,.int .i64 v2,.list n_ks2 c_ks2]]=>((Is cX n_ks c_ks) ∧ (Is cX n_ks2 c_ks2),.bool (decide (k = k2) && decide (v = v2) && decide ((de cX c_ks) = (de cX c_ks2))))
  | _=>(False,.any)
theorem zact:ConOk Try.prog 177 zaae:=by
  refine ⟨Qm Try.func177 (by decide) rfl,fun args h=>?_⟩
  revert h
  dsimp only
  split
  · intro h
    obtain ⟨⟨ks,rfl,rfl⟩,⟨ks2,rfl,rfl⟩⟩:=h
    try simp only [Ql] at *
    exact ⟨zaeu _ _ ks _ _ ks2,by simp [go_sem]⟩
  · intro h
    exact h.elim
@[go_sem] def Γt22:FuncId → Con:=ext Γt21 177 zaae
theorem Γt22_ok:∀ g,ConOk Try.prog g (Γt22 g):=Qj Γt21_ok zact

theorem l2Edge_pure (f1:Int) (t1:Int) (gk1:Int) (gv1:Int) (gs1:List Tree) (v1:Int) (ek1:Int) (ev1:Int) (es1:List Tree) (sy1:Int) (f2:Int) (t2:Int) (gk2:Int) (gv2:Int) (gs2:List Tree) (v2:Int) (ek2:Int) (ev2:Int) (es2:List Tree) (sy2:Int)  : Pure Try.prog 116 [.st [.int .i64 f1,.int .i64 t1,.int .i64 gk1,.int .i64 gv1,li cX gs1,.int .i64 v1,.int .i64 ek1,.int .i64 ev1,li cX es1,.int .i64 sy1],.st [.int .i64 f2,.int .i64 t2,.int .i64 gk2,.int .i64 gv2,li cX gs2,.int .i64 v2,.int .i64 ek2,.int .i64 ev2,li cX es2,.int .i64 sy2]] (.bool (decide (f1 = f2) && decide (t1 = t2) && decide (gk1 = gk2) && decide (gv1 = gv2) && decide (gs1 = gs2) && decide (v1 = v2) && decide (ek1 = ek2) && decide (ev1 = ev2) && decide (es1 = es2) && decide (sy1 = sy2))):=by
  refine Pure.of_walk Try.func116 rfl (by simp [Try.f116]) (by simp [-zd,go_sem]) fun B hK=>?_
  (repeat' (first
 | refine Qx ?_
 | refine Qc (id:=0) Γt22_ok [] (by kernel_rfl) ?_;simp [-zg,-zd,↓Qb,↓Qa,go_sem];try (refine Qt hK 2 ?_;simp [go_sem];refine Qt hK 3 ?_;simp [go_sem])
 | refine Qc (id:=1) Γt22_ok [10,17,24,31,38] (by kernel_rfl) ?_;simp [-zg,-zd,↓Qb,↓Qa,go_sem];try (refine ⟨fun s1a=>?_,fun s1a=>?_⟩ <;> (try simp [B_iff,B_not] at s1a) <;> try (refine ⟨fun s1b=>?_,fun s1b=>?_⟩ <;> (try simp [B_iff,B_not] at s1b) <;> try (refine ⟨fun s1c=>?_,fun s1c=>?_⟩ <;> (try simp [B_iff,B_not] at s1c) <;> try (refine ⟨fun s1d=>?_,fun s1d=>?_⟩ <;> (try simp [B_iff,B_not] at s1d) <;> try (refine ⟨fun s1e=>?_,fun s1e=>?_⟩ <;> (try simp [B_iff,B_not] at s1e) <;> try (refine ⟨fun s1f=>?_,fun s1f=>?_⟩ <;> (try simp [B_iff,B_not] at s1f)))))))
 | (refine Qh ?_)
 | (refine Qv ?_;simp [-zg,-zd,↓Qb,↓Qa,go_sem])
 | (refine Qu ?_;simp [-zg,-zd,↓Qb,↓Qa,go_sem])
 | (refine Qy ?_;simp [-zg,-zd,↓Qb,↓Qa,go_sem,Try.results116])
 | (intro hx;refine zA ?_)
 | (refine ⟨?_,?_⟩ <;> refine zA ?_)
 | (intro hx;constructor <;> intro hs)
 | (constructor <;> intro hs)
 | (refine ⟨?_,fun hs=>?_⟩;refine zA ?_)
 | (refine ⟨fun hs=>?_,?_⟩;rotate_left;refine zA ?_;rotate_left)))
  all_goals (first
 | (simp_all;done)
 | (intros;simp_all;done)
 | skip)
@[go_sem] def zadh:Con:=.pure fun
  | [.st [.int .i64 f1,.int .i64 t1,.int .i64 gk1,.int .i64 gv1,.list n_gs1 c_gs1,.int .i64 v1,.int .i64 ek1,.int .i64 ev1,.list n_es1 c_es1,.int .i64 sy1],.st [.int .i64 f2,.int .i64 t2,.int .i64 gk2,.int .i64 gv2,.list n_gs2 c_gs2,.int .i64 v2,.int .i64 ek2,.int .i64 ev2,.list n_es2 c_es2,.int .i64 sy2]]=>((Is cX n_gs1 c_gs1) ∧ (Is cX n_es1 c_es1) ∧ (Is cX n_gs2 c_gs2) ∧ (Is cX n_es2 c_es2),.bool (decide (f1 = f2) && decide (t1 = t2) && decide (gk1 = gk2) && decide (gv1 = gv2) && decide ((de cX c_gs1) = (de cX c_gs2)) && decide (v1 = v2) && decide (ek1 = ek2) && decide (ev1 = ev2) && decide ((de cX c_es1) = (de cX c_es2)) && decide (sy1 = sy2)))
  | _=>(False,.any)
theorem zahc:ConOk Try.prog 116 zadh:=by
  refine ⟨Qm Try.func116 (by decide) rfl,fun args h=>?_⟩
  revert h
  dsimp only
  split
  · intro h
    obtain ⟨⟨gs1,rfl,rfl⟩,⟨es1,rfl,rfl⟩,⟨gs2,rfl,rfl⟩,⟨es2,rfl,rfl⟩⟩:=h
    try simp only [Ql] at *
    exact ⟨l2Edge_pure _ _ _ _ gs1 _ _ _ es1 _ _ _ _ _ gs2 _ _ _ es2 _,by simp [go_sem]⟩
  · intro h
    exact h.elim
@[go_sem] def Γt23:FuncId → Con:=ext Γt22 116 zadh
theorem Xg:∀ g,ConOk Try.prog g (Γt23 g):=Qj Γt22_ok zahc

theorem zadq (a:List Int) (b:List Pr) (c:List Int) (d:List Pr)  : Pure Try.prog 38 [.st [li cI a,li cR b],.st [li cI c,li cR d]] (.bool (decide (a = c) && decide (b = d))):=by
  refine Pure.of_walk Try.func38 rfl (by simp [Try.f38]) (by simp [-zd,go_sem]) fun B hK=>?_
  (repeat' (first
 | refine Qx ?_
 | refine Qc (id:=0) Xg [] (by kernel_rfl) ?_;simp [-zg,-zd,↓Qb,↓Qa,go_sem];try (refine Qt hK 2 ?_;simp [go_sem];refine Qt hK 3 ?_;simp [go_sem])
 | refine Qc (id:=1) Xg [15] (by kernel_rfl) ?_;simp [-zg,-zd,↓Qb,↓Qa,go_sem];try (refine ⟨fun s1a=>?_,fun s1a=>?_⟩ <;> (try simp [B_iff,B_not] at s1a) <;> try (refine ⟨fun s1b=>?_,fun s1b=>?_⟩ <;> (try simp [B_iff,B_not] at s1b)))
 | refine Qc (id:=2) Xg [] (by kernel_rfl) ?_;simp [-zg,-zd,↓Qb,↓Qa,go_sem]
 | (refine AW_lenP 2 1 ⟨rfl,rfl⟩ fun hm=>?_);refine Qc (id:=3) Xg [] (by kernel_rfl) ?_;simp [-zg,-zd,↓Qb,↓Qa,go_sem]
 | refine Qc (id:=4) Xg [] (by kernel_rfl) ?_;simp [-zg,-zd,↓Qb,↓Qa,go_sem]
 | refine Qc (id:=6) Xg [] (by kernel_rfl) ?_;simp [-zg,-zd,↓Qb,↓Qa,go_sem,c28,Qk c28,zsP c28];try (refine Qt hK 6 ?_;simp [go_sem])
 | (have cy:k < d.length:=by omega);refine Qc (id:=7) Xg [] (by kernel_rfl) ?_;simp [-zg,-zd,↓Qb,↓Qa,go_sem,cy,Qk cy,zsP cy];try (refine Qt hK 7 ?_;simp [go_sem])
 | refine Qc (id:=8) Xg [46] (by kernel_rfl) ?_;simp [-zg,-zd,↓Qb,↓Qa,go_sem];try (refine ⟨fun s8a=>?_,fun s8a=>?_⟩ <;> (try simp [B_iff,B_not] at s8a) <;> try (refine ⟨fun s8b=>?_,fun s8b=>?_⟩ <;> (try simp [B_iff,B_not] at s8b)))
 | refine Qc (id:=9) Xg [] (by kernel_rfl) ?_;simp [-zg,-zd,↓Qb,↓Qa,go_sem]
 | (refine AW_lenP 6 1 ⟨rfl,rfl⟩ fun hm2=>?_);refine Qc (id:=10) Xg [] (by kernel_rfl) ?_;simp [-zg,-zd,↓Qb,↓Qa,go_sem]
 | refine Qc (id:=11) Xg [] (by kernel_rfl) ?_;simp [-zg,-zd,↓Qb,↓Qa,go_sem]
 | (have cz:i < (nth d k).es.length:=by omega);refine Zm (id:=13) Xg mixed [] [8] (by kernel_rfl) (by kernel_rfl) (by simp [-zg,-zd,↓Qb,↓Qa,go_sem,c59,Qk c59,zsP c59,cz,Qk cz,zsP cz]) ?_;simp [-zg,-zd,↓Qb,↓Qa,go_sem,c59,Qk c59,zsP c59,cz,Qk cz,zsP cz]
 | refine Qc (id:=14) Xg [] (by kernel_rfl) ?_;simp [-zg,-zd,↓Qb,↓Qa,go_sem]
 | refine Qc (id:=12) Xg [] (by kernel_rfl) ?_;simp [-zg,-zd,↓Qb,↓Qa,go_sem,wrapS (k:=i) (by omega)]
 | refine Qc (id:=5) Xg [] (by kernel_rfl) ?_;simp [-zg,-zd,↓Qb,↓Qa,go_sem,wrapS (k:=k) (by omega)]
 | refine Qc (id:=15) Xg [] (by kernel_rfl) ?_;simp [-zg,-zd,↓Qb,↓Qa,go_sem]
 | refine Qd (c:=.tmp 23) ?_;simp [-zg,-zd,↓Qb,↓Qa,go_sem];try first | (refine ⟨?_,?_⟩ <;> refine zA ?_) | (refine ⟨fun c23=>?_,fun c23=>?_⟩ <;> (try simp [B_iff,B_not] at c23))
 | refine Qd (c:=.tmp 28) ?_;simp [-zg,-zd,↓Qb,↓Qa,go_sem];try first | (refine ⟨?_,?_⟩ <;> refine zA ?_) | (refine ⟨fun c28=>?_,fun c28=>?_⟩ <;> (try simp [B_iff,B_not] at c28))
 | refine Qd (c:=.tmp 54) ?_;simp [-zg,-zd,↓Qb,↓Qa,go_sem];try first | (refine ⟨?_,?_⟩ <;> refine zA ?_) | (refine ⟨fun c54=>?_,fun c54=>?_⟩ <;> (try simp [B_iff,B_not] at c54))
 | refine Qd (c:=.tmp 59) ?_;simp [-zg,-zd,↓Qb,↓Qa,go_sem];try first | (refine ⟨?_,?_⟩ <;> refine zA ?_) | (refine ⟨fun c59=>?_,fun c59=>?_⟩ <;> (try simp [B_iff,B_not] at c59))
 | refine Qd (c:=.tmp 73) ?_;simp [-zg,-zd,↓Qb,↓Qa,go_sem];try first | (refine ⟨?_,?_⟩ <;> refine zA ?_) | (refine ⟨fun c73=>?_,fun c73=>?_⟩ <;> (try simp [B_iff,B_not] at c73))
 | (refine Qh (id:=0) (Xf (ι:=Nat) (fun k:Nat=>⟨(upd (upd (upd (fun _=>.any) 2 (.pd [li cI a,li cR b])) 3 (.pd [li cI c,li cR d])) 5 (.int .i64 k)),fun _=>none⟩) (fun k=>k ≤ b.length ∧ NoneTill (neAt b d) k) (fun k=>b.length - k) (0) ?_ ?_ ?_);exact ⟨Nat.zero_le _,.zero _⟩;((repeat' (first | exact Qp (by assumption) | exact Qr | refine Qs ?_ ?_ | refine Qq ?_)) <;> simp [-zg,-zd,↓Qb,↓Qa,go_sem]);rintro k ⟨hk,ht⟩)
 | (refine ⟨k + 1,⟨by omega,ht.succ (by simp [neAt];exact pr_ext (by simp_all) (Xm (by omega) hu (by omega)))⟩,by first | omega | (simp;done) | (simp;omega),?_⟩;((repeat' (first | exact Qp (by assumption) | exact Qr | refine Qs ?_ ?_ | refine Qq ?_)) <;> simp [-zg,-zd,↓Qb,↓Qa,go_sem]))
 | (refine Qh (id:=2) (Xf (ι:=Nat) (fun i:Nat=>⟨(upd (upd (upd (upd (upd (upd (fun _=>.any) 2 (.pd [li cI a,li cR b])) 3 (.pd [li cI c,li cR d])) 5 (.int .i64 k)) 6 (.pd [.int .i64 (nth b k).loc,li cE (nth b k).es])) 7 (.pd [.int .i64 (nth d k).loc,li cE (nth d k).es])) 8 (.int .i64 i)),fun _=>none⟩) (fun i=>i ≤ (nth b k).es.length ∧ NoneTill (neAt (nth b k).es (nth d k).es) i) (fun i=>(nth b k).es.length - i) (0) ?_ ?_ ?_);exact ⟨Nat.zero_le _,.zero _⟩;((repeat' (first | exact Qp (by assumption) | exact Qr | refine Qs ?_ ?_ | refine Qq ?_)) <;> simp [-zg,-zd,↓Qb,↓Qa,go_sem]);rintro i ⟨hi,hu⟩)
 | (refine ⟨i + 1,⟨by omega,hu.succ (by simp [neAt];apply ed_ext <;> simp_all)⟩,by first | omega | (simp;done) | (simp;omega),?_⟩;((repeat' (first | exact Qp (by assumption) | exact Qr | refine Qs ?_ ?_ | refine Qq ?_)) <;> simp [-zg,-zd,↓Qb,↓Qa,go_sem]))
 | (refine Qh ?_)
 | (refine Qv ?_;simp [-zg,-zd,↓Qb,↓Qa,go_sem])
 | (refine Qu ?_;simp [-zg,-zd,↓Qb,↓Qa,go_sem])
 | (refine Qy ?_;simp [-zg,-zd,↓Qb,↓Qa,go_sem,Try.results38])
 | (intro hx;refine zA ?_)
 | (refine ⟨?_,?_⟩ <;> refine zA ?_)
 | (intro hx;constructor <;> intro hs)
 | (constructor <;> intro hs)
 | (refine ⟨?_,fun hs=>?_⟩;refine zA ?_)
 | (refine ⟨fun hs=>?_,?_⟩;rotate_left;refine zA ?_;rotate_left)))
  all_goals (first
 | exact Xm (by omega) ht (by omega)
 | (have hq:=Xm (xs:=b) (ys:=d) (by omega) ht (by omega);simp_all;done)
 | (rintro rfl rfl;simp at s1a;done)
 | (rintro rfl rfl;simp at c23;done)
 | (rintro rfl rfl;simp at s8a;done)
 | (rintro rfl rfl;simp at c54;done)
 | (rintro rfl rfl;simp at c73;done)
 | skip)
@[go_sem] def zaaa:Con:=.pure fun
  | [.st [.list n_a c_a,.list n_b c_b],.st [.list n_c c_c,.list n_d c_d]]=>((Is cI n_a c_a) ∧ (Is cR n_b c_b) ∧ (Is cI n_c c_c) ∧ (Is cR n_d c_d),.bool (decide ((de cI c_a) = (de cI c_c)) && decide ((de cR c_b) = (de cR c_d))))
  | _=>(False,.any)
theorem zabv:ConOk Try.prog 38 zaaa:=by
  refine ⟨Qm Try.func38 (by decide) rfl,fun args h=>?_⟩
  revert h
  dsimp only
  split
  · intro h
    obtain ⟨⟨a,rfl,rfl⟩,⟨b,rfl,rfl⟩,⟨c,rfl,rfl⟩,⟨d,rfl,rfl⟩⟩:=h
    try simp only [Ql] at *
    exact ⟨zadq a b c d,by simp [go_sem]⟩
  · intro h
    exact h.elim
@[go_sem] def Γt24:FuncId → Con:=ext Γt23 38 zaaa
theorem Γt24_ok:∀ g,ConOk Try.prog g (Γt24 g):=Qj Xg zabv

@[go_sem] def zabt (n_:Nat):Con:=.pure fun
  | [.list n_xs c_xs,.list n_ys c_ys,.fn 179 []]=>((Is cX n_xs c_xs) ∧ (Is cX n_ys c_ys) ∧ ((de cX c_xs).length + msum tm (de cX c_xs) (de cX c_xs).length < n_),.bool (decide ((de cX c_xs) = (de cX c_ys))))
  | _=>(False,.any)
theorem zaat {n_:Nat} (ih:∀ (xs:List Tree) (ys:List Tree)   (hm_:xs.length + msum tm xs xs.length < n_),Pure Try.prog 211 [li cX xs,li cX ys,.fn 179 []] (.bool (decide (xs = ys)))):ConOk Try.prog 211 (zabt n_):=by
  refine ⟨Qm Try.func211 (by decide) rfl,fun args h=>?_⟩
  revert h
  dsimp only
  split
  · intro h
    obtain ⟨⟨xs,rfl,rfl⟩,⟨ys,rfl,rfl⟩,hm_⟩:=h
    try simp only [Ql] at *
    exact ⟨ih xs ys  hm_,by simp [go_sem]⟩
  · intro h
    exact h.elim
@[go_sem] def zaaz (n_:Nat):Con:=.pure fun
  | [.st [.int .i64 k,.int .i64 v,.list n_ks c_ks],.st [.int .i64 k2,.int .i64 v2,.list n_ks2 c_ks2]]=>((Is cX n_ks c_ks) ∧ (Is cX n_ks2 c_ks2) ∧ ((de cX c_ks).length + msum tm (de cX c_ks) (de cX c_ks).length < n_),.bool (decide (k = k2) && decide (v = v2) && decide ((de cX c_ks) = (de cX c_ks2))))
  | _=>(False,.any)
theorem zach {n_:Nat} (ih:∀ (k:Int) (v:Int) (ks:List Tree) (k2:Int) (v2:Int) (ks2:List Tree)  (hm_:ks.length + msum tm ks ks.length < n_),Pure Try.prog 179 [.st [.int .i64 k,.int .i64 v,li cX ks],.st [.int .i64 k2,.int .i64 v2,li cX ks2]] (.bool (decide (k = k2) && decide (v = v2) && decide (ks = ks2)))):ConOk Try.prog 179 (zaaz n_):=by
  refine ⟨Qm Try.func179 (by decide) rfl,fun args h=>?_⟩
  revert h
  dsimp only
  split
  · intro h
    obtain ⟨⟨ks,rfl,rfl⟩,⟨ks2,rfl,rfl⟩,hm_⟩:=h
    try simp only [Ql] at *
    exact ⟨ih _ _ ks _ _ ks2 hm_,by simp [go_sem]⟩
  · intro h
    exact h.elim
theorem zaaj {n_:Nat} (ih:∀ (xs:List Tree) (ys:List Tree)   (hm_:xs.length + msum tm xs xs.length < n_),Pure Try.prog 211 [li cX xs,li cX ys,.fn 179 []] (.bool (decide (xs = ys)))):∀ (k:Int) (v:Int) (ks:List Tree) (k2:Int) (v2:Int) (ks2:List Tree)  (hm_:ks.length + msum tm ks ks.length < n_),Pure Try.prog 179 [.st [.int .i64 k,.int .i64 v,li cX ks],.st [.int .i64 k2,.int .i64 v2,li cX ks2]] (.bool (decide (k = k2) && decide (v = v2) && decide (ks = ks2))):=by
  intro k v ks k2 v2 ks2  hm_
  have Γr_ok:=Qj Γt24_ok (zaat ih)
  refine Pure.of_walk Try.func179 rfl (by simp [Try.f179]) (by simp [-zd,go_sem]) fun B hK=>?_
  (repeat' (first
 | refine Qx ?_
 | refine Qc (id:=0) Γr_ok [] (by kernel_rfl) ?_;simp [-zg,-zd,↓Qb,↓Qa,go_sem];try (refine Qt hK 2 ?_;simp [go_sem];refine Qt hK 3 ?_;simp [go_sem])
 | refine Qc (id:=1) Γr_ok [10,17] (by kernel_rfl) ?_;simp [-zg,-zd,↓Qb,↓Qa,go_sem,hm_];try (refine ⟨fun s1a=>?_,fun s1a=>?_⟩ <;> (try simp [B_iff,B_not] at s1a) <;> try (refine ⟨fun s1b=>?_,fun s1b=>?_⟩ <;> (try simp [B_iff,B_not] at s1b) <;> try (refine ⟨fun s1c=>?_,fun s1c=>?_⟩ <;> (try simp [B_iff,B_not] at s1c))))
 | (refine Qh ?_)
 | (refine Qv ?_;simp [-zg,-zd,↓Qb,↓Qa,go_sem])
 | (refine Qu ?_;simp [-zg,-zd,↓Qb,↓Qa,go_sem])
 | (refine Qy ?_;simp [-zg,-zd,↓Qb,↓Qa,go_sem,Try.results179])
 | (intro hx;refine zA ?_)
 | (refine ⟨?_,?_⟩ <;> refine zA ?_)
 | (intro hx;constructor <;> intro hs)
 | (constructor <;> intro hs)
 | (refine ⟨?_,fun hs=>?_⟩;refine zA ?_)
 | (refine ⟨fun hs=>?_,?_⟩;rotate_left;refine zA ?_;rotate_left)))
  all_goals (first
 | (simp_all;done)
 | (intros;simp_all;done)
 | skip)
theorem zaba:∀ (n_:Nat),∀ (xs:List Tree) (ys:List Tree)   (hm_:xs.length + msum tm xs xs.length < n_),Pure Try.prog 211 [li cX xs,li cX ys,.fn 179 []] (.bool (decide (xs = ys))):=by
  intro n_
  induction n_ with
  | zero=>intros;omega
  | succ n_ ih =>
  intro xs ys   hm_
  have Γr_ok:=Qj (Qj Γt24_ok (zaat ih)) (zach (zaaj ih))
  refine Pure.of_walk Try.func211 rfl (by simp [Try.f211]) (by simp [-zd,go_sem]) fun B hK=>?_
  (repeat' (first
 | refine Qx ?_
 | (refine Xp 0 rfl fun hm=>?_);refine Qc (id:=0) Γr_ok [] (by kernel_rfl) ?_;simp [-zg,-zd,↓Qb,↓Qa,go_sem]
 | refine Qc (id:=1) Γr_ok [] (by kernel_rfl) ?_;simp [-zg,-zd,↓Qb,↓Qa,go_sem]
 | refine Qc (id:=2) Γr_ok [] (by kernel_rfl) ?_;simp [-zg,-zd,↓Qb,↓Qa,go_sem]
 | refine Qc (id:=3) Γr_ok [] (by kernel_rfl) ?_;simp [-zg,-zd,↓Qb,↓Qa,go_sem]
 | refine Qc (id:=4) Γr_ok [] (by kernel_rfl) ?_;simp [-zg,-zd,↓Qb,↓Qa,go_sem]
 | refine Qc (id:=5) Γr_ok [] (by kernel_rfl) ?_;simp [-zg,-zd,↓Qb,↓Qa,go_sem,c18,Qk c18,zsP c18];try (try (refine Qt hK 8 ?_;simp [go_sem]))
 | (have cy:k < ys.length:=by omega);refine Qc (id:=6) Γr_ok [] (by kernel_rfl) ?_;simp [-zg,-zd,↓Qb,↓Qa,go_sem,cy,Qk cy,zsP cy];try (try (refine Qt hK 9 ?_;simp [go_sem]))
 | refine Qc (id:=7) Γr_ok [] (by kernel_rfl) ?_;simp [-zg,-zd,↓Qb,↓Qa,go_sem,tm_lt c18 hm_]
 | refine Qc (id:=8) Γr_ok [] (by kernel_rfl) ?_;simp [-zg,-zd,↓Qb,↓Qa,go_sem]
 | refine Qc (id:=9) Γr_ok [] (by kernel_rfl) ?_;simp [-zg,-zd,↓Qb,↓Qa,go_sem,wrapS (k:=k) (by omega)]
 | refine Qc (id:=10) Γr_ok [] (by kernel_rfl) ?_;simp [-zg,-zd,↓Qb,↓Qa,go_sem]
 | refine Qd (c:=.tmp 14) ?_;simp [-zg,-zd,↓Qb,↓Qa,go_sem];try first | (refine ⟨?_,?_⟩ <;> refine zA ?_) | (refine ⟨fun c14=>?_,fun c14=>?_⟩ <;> (try simp [B_iff,B_not] at c14))
 | refine Qd (c:=.tmp 18) ?_;simp [-zg,-zd,↓Qb,↓Qa,go_sem];try first | (refine ⟨?_,?_⟩ <;> refine zA ?_) | (refine ⟨fun c18=>?_,fun c18=>?_⟩ <;> (try simp [B_iff,B_not] at c18))
 | refine Qd (c:=.tmp 30) ?_;simp [-zg,-zd,↓Qb,↓Qa,go_sem];try first | (refine ⟨?_,?_⟩ <;> refine zA ?_) | (refine ⟨fun c30=>?_,fun c30=>?_⟩ <;> (try simp [B_iff,B_not] at c30))
 | (refine Qh (id:=0) (Xf (ι:=Nat) (fun k:Nat=>⟨(upd (upd (upd (upd (upd (upd (fun _=>.any) 0 (li cX xs)) 1 (li cX ys)) 2 (.fn 179 [])) 15 (li cX xs)) 16 (.int .i64 xs.length)) 17 (.int .i64 k)),fun _=>none⟩) (fun k=>k ≤ xs.length ∧ NoneTill (neAt xs ys) k) (fun k=>xs.length - k) (0) ?_ ?_ ?_);exact ⟨Nat.zero_le _,.zero _⟩;((repeat' (first | exact Qp (by assumption) | exact Qr | refine Qs ?_ ?_ | refine Qq ?_)) <;> simp [-zg,-zd,↓Qb,↓Qa,go_sem]);rintro k ⟨hk,ht⟩)
 | (refine ⟨k + 1,⟨by omega,ht.succ (by simp [neAt];apply zafh <;> simp_all)⟩,by first | omega | (simp;done) | (simp;omega),?_⟩;((repeat' (first | exact Qp (by assumption) | exact Qr | refine Qs ?_ ?_ | refine Qq ?_)) <;> simp [-zg,-zd,↓Qb,↓Qa,go_sem]))
 | (refine Qh ?_)
 | (refine Qv ?_;simp [-zg,-zd,↓Qb,↓Qa,go_sem])
 | (refine Qu ?_;simp [-zg,-zd,↓Qb,↓Qa,go_sem])
 | (refine Qy ?_;simp [-zg,-zd,↓Qb,↓Qa,go_sem,Try.results211])
 | (intro hx;refine zA ?_)
 | (refine ⟨?_,?_⟩ <;> refine zA ?_)
 | (intro hx;constructor <;> intro hs)
 | (constructor <;> intro hs)
 | (refine ⟨?_,fun hs=>?_⟩;refine zA ?_)
 | (refine ⟨fun hs=>?_,?_⟩;rotate_left;refine zA ?_;rotate_left)))
  all_goals (first
 | (rintro rfl;simp at c14;done)
 | (rintro rfl;simp at c30;done)
 | exact Xm (by omega) ht (by omega)
 | skip)
theorem zahf (xs:List Tree) (ys:List Tree)   : Pure Try.prog 211 [li cX xs,li cX ys,.fn 179 []] (.bool (decide (xs = ys))):=zaba (xs.length + msum tm xs xs.length + 1) xs ys   (by omega)
theorem zaev (k:Int) (v:Int) (ks:List Tree) (k2:Int) (v2:Int) (ks2:List Tree)  : Pure Try.prog 179 [.st [.int .i64 k,.int .i64 v,li cX ks],.st [.int .i64 k2,.int .i64 v2,li cX ks2]] (.bool (decide (k = k2) && decide (v = v2) && decide (ks = ks2))):=zaaj (n_:=ks.length + msum tm ks ks.length + 1) (zaba _) k v ks k2 v2 ks2  (by omega)
@[go_sem] def zaau:Con:=.pure fun
  | [.list n_xs c_xs,.list n_ys c_ys,.fn 179 []]=>((Is cX n_xs c_xs) ∧ (Is cX n_ys c_ys),.bool (decide ((de cX c_xs) = (de cX c_ys))))
  | _=>(False,.any)
theorem zadx:ConOk Try.prog 211 zaau:=by
  refine ⟨Qm Try.func211 (by decide) rfl,fun args h=>?_⟩
  revert h
  dsimp only
  split
  · intro h
    obtain ⟨⟨xs,rfl,rfl⟩,⟨ys,rfl,rfl⟩⟩:=h
    try simp only [Ql] at *
    exact ⟨zahf xs ys ,by simp [go_sem]⟩
  · intro h
    exact h.elim
@[go_sem] def Γt25:FuncId → Con:=ext Γt24 211 zaau
theorem Γt25_ok:∀ g,ConOk Try.prog g (Γt25 g):=Qj Γt24_ok zadx
@[go_sem] def zaai:Con:=.pure fun
  | [.st [.int .i64 k,.int .i64 v,.list n_ks c_ks],.st [.int .i64 k2,.int .i64 v2,.list n_ks2 c_ks2]]=>((Is cX n_ks c_ks) ∧ (Is cX n_ks2 c_ks2),.bool (decide (k = k2) && decide (v = v2) && decide ((de cX c_ks) = (de cX c_ks2))))
  | _=>(False,.any)
theorem zacu:ConOk Try.prog 179 zaai:=by
  refine ⟨Qm Try.func179 (by decide) rfl,fun args h=>?_⟩
  revert h
  dsimp only
  split
  · intro h
    obtain ⟨⟨ks,rfl,rfl⟩,⟨ks2,rfl,rfl⟩⟩:=h
    try simp only [Ql] at *
    exact ⟨zaev _ _ ks _ _ ks2,by simp [go_sem]⟩
  · intro h
    exact h.elim
@[go_sem] def Γt26:FuncId → Con:=ext Γt25 179 zaai
theorem Γt26_ok:∀ g,ConOk Try.prog g (Γt26 g):=Qj Γt25_ok zacu

theorem edgeSame_pure (f1:Int) (t1:Int) (gk1:Int) (gv1:Int) (gs1:List Tree) (v1:Int) (ek1:Int) (ev1:Int) (es1:List Tree) (sy1:Int) (f2:Int) (t2:Int) (gk2:Int) (gv2:Int) (gs2:List Tree) (v2:Int) (ek2:Int) (ev2:Int) (es2:List Tree) (sy2:Int)  : Pure Try.prog 122 [.st [.int .i64 f1,.int .i64 t1,.int .i64 gk1,.int .i64 gv1,li cX gs1,.int .i64 v1,.int .i64 ek1,.int .i64 ev1,li cX es1,.int .i64 sy1],.st [.int .i64 f2,.int .i64 t2,.int .i64 gk2,.int .i64 gv2,li cX gs2,.int .i64 v2,.int .i64 ek2,.int .i64 ev2,li cX es2,.int .i64 sy2]] (.bool (decide (f1 = f2) && decide (t1 = t2) && decide (gk1 = gk2) && decide (gv1 = gv2) && decide (gs1 = gs2) && decide (v1 = v2) && decide (ek1 = ek2) && decide (ev1 = ev2) && decide (es1 = es2) && decide (sy1 = sy2))):=by
  refine Pure.of_walk Try.func122 rfl (by simp [Try.f122]) (by simp [-zd,go_sem]) fun B hK=>?_
  (repeat' (first
 | refine Qx ?_
 | refine Qc (id:=0) Γt26_ok [] (by kernel_rfl) ?_;simp [-zg,-zd,↓Qb,↓Qa,go_sem];try (refine Qt hK 2 ?_;simp [go_sem];refine Qt hK 3 ?_;simp [go_sem])
 | refine Qc (id:=1) Γt26_ok [10,17,24,31,38] (by kernel_rfl) ?_;simp [-zg,-zd,↓Qb,↓Qa,go_sem];try (refine ⟨fun s1a=>?_,fun s1a=>?_⟩ <;> (try simp [B_iff,B_not] at s1a) <;> try (refine ⟨fun s1b=>?_,fun s1b=>?_⟩ <;> (try simp [B_iff,B_not] at s1b) <;> try (refine ⟨fun s1c=>?_,fun s1c=>?_⟩ <;> (try simp [B_iff,B_not] at s1c) <;> try (refine ⟨fun s1d=>?_,fun s1d=>?_⟩ <;> (try simp [B_iff,B_not] at s1d) <;> try (refine ⟨fun s1e=>?_,fun s1e=>?_⟩ <;> (try simp [B_iff,B_not] at s1e) <;> try (refine ⟨fun s1f=>?_,fun s1f=>?_⟩ <;> (try simp [B_iff,B_not] at s1f)))))))
 | (refine Qh ?_)
 | (refine Qv ?_;simp [-zg,-zd,↓Qb,↓Qa,go_sem])
 | (refine Qu ?_;simp [-zg,-zd,↓Qb,↓Qa,go_sem])
 | (refine Qy ?_;simp [-zg,-zd,↓Qb,↓Qa,go_sem,Try.results122])
 | (intro hx;refine zA ?_)
 | (refine ⟨?_,?_⟩ <;> refine zA ?_)
 | (intro hx;constructor <;> intro hs)
 | (constructor <;> intro hs)
 | (refine ⟨?_,fun hs=>?_⟩;refine zA ?_)
 | (refine ⟨fun hs=>?_,?_⟩;rotate_left;refine zA ?_;rotate_left)))
  all_goals (first
 | (simp_all;done)
 | (intros;simp_all;done)
 | skip)
@[go_sem] def zabo:Con:=.pure fun
  | [.st [.int .i64 f1,.int .i64 t1,.int .i64 gk1,.int .i64 gv1,.list n_gs1 c_gs1,.int .i64 v1,.int .i64 ek1,.int .i64 ev1,.list n_es1 c_es1,.int .i64 sy1],.st [.int .i64 f2,.int .i64 t2,.int .i64 gk2,.int .i64 gv2,.list n_gs2 c_gs2,.int .i64 v2,.int .i64 ek2,.int .i64 ev2,.list n_es2 c_es2,.int .i64 sy2]]=>((Is cX n_gs1 c_gs1) ∧ (Is cX n_es1 c_es1) ∧ (Is cX n_gs2 c_gs2) ∧ (Is cX n_es2 c_es2),.bool (decide (f1 = f2) && decide (t1 = t2) && decide (gk1 = gk2) && decide (gv1 = gv2) && decide ((de cX c_gs1) = (de cX c_gs2)) && decide (v1 = v2) && decide (ek1 = ek2) && decide (ev1 = ev2) && decide ((de cX c_es1) = (de cX c_es2)) && decide (sy1 = sy2)))
  | _=>(False,.any)
theorem zaey:ConOk Try.prog 122 zabo:=by
  refine ⟨Qm Try.func122 (by decide) rfl,fun args h=>?_⟩
  revert h
  dsimp only
  split
  · intro h
    obtain ⟨⟨gs1,rfl,rfl⟩,⟨es1,rfl,rfl⟩,⟨gs2,rfl,rfl⟩,⟨es2,rfl,rfl⟩⟩:=h
    try simp only [Ql] at *
    exact ⟨edgeSame_pure _ _ _ _ gs1 _ _ _ es1 _ _ _ _ _ gs2 _ _ _ es2 _,by simp [go_sem]⟩
  · intro h
    exact h.elim
@[go_sem] def Γt27:FuncId → Con:=ext Γt26 122 zabo
theorem Xs:∀ g,ConOk Try.prog g (Γt27 g):=Qj Γt26_ok zaey

theorem zahg (xs:List Ed) (ys:List Ed)   : Pure Try.prog 121 [li cE xs,li cE ys,.fn 122 []] (.bool (decide (xs = ys))):=by
  refine Pure.of_walk Try.func121 rfl (by simp [Try.f121]) (by simp [-zd,go_sem]) fun B hK=>?_
  (repeat' (first
 | refine Qx ?_
 | (refine Xp 0 rfl fun hm=>?_);refine Qc (id:=0) Xs [] (by kernel_rfl) ?_;simp [-zg,-zd,↓Qb,↓Qa,go_sem]
 | refine Qc (id:=1) Xs [] (by kernel_rfl) ?_;simp [-zg,-zd,↓Qb,↓Qa,go_sem]
 | refine Qc (id:=2) Xs [] (by kernel_rfl) ?_;simp [-zg,-zd,↓Qb,↓Qa,go_sem]
 | refine Qc (id:=3) Xs [] (by kernel_rfl) ?_;simp [-zg,-zd,↓Qb,↓Qa,go_sem]
 | refine Qc (id:=4) Xs [] (by kernel_rfl) ?_;simp [-zg,-zd,↓Qb,↓Qa,go_sem]
 | refine Qc (id:=5) Xs [] (by kernel_rfl) ?_;simp [-zg,-zd,↓Qb,↓Qa,go_sem,c18,Qk c18,zsP c18];try (try (refine Qt hK 8 ?_;simp [go_sem]))
 | (have cy:k < ys.length:=by omega);refine Qc (id:=6) Xs [] (by kernel_rfl) ?_;simp [-zg,-zd,↓Qb,↓Qa,go_sem,cy,Qk cy,zsP cy];try (try (refine Qt hK 9 ?_;simp [go_sem]))
 | refine Qc (id:=7) Xs [] (by kernel_rfl) ?_;simp [-zg,-zd,↓Qb,↓Qa,go_sem]
 | refine Qc (id:=8) Xs [] (by kernel_rfl) ?_;simp [-zg,-zd,↓Qb,↓Qa,go_sem]
 | refine Qc (id:=9) Xs [] (by kernel_rfl) ?_;simp [-zg,-zd,↓Qb,↓Qa,go_sem,wrapS (k:=k) (by omega)]
 | refine Qc (id:=10) Xs [] (by kernel_rfl) ?_;simp [-zg,-zd,↓Qb,↓Qa,go_sem]
 | refine Qd (c:=.tmp 14) ?_;simp [-zg,-zd,↓Qb,↓Qa,go_sem];try first | (refine ⟨?_,?_⟩ <;> refine zA ?_) | (refine ⟨fun c14=>?_,fun c14=>?_⟩ <;> (try simp [B_iff,B_not] at c14))
 | refine Qd (c:=.tmp 18) ?_;simp [-zg,-zd,↓Qb,↓Qa,go_sem];try first | (refine ⟨?_,?_⟩ <;> refine zA ?_) | (refine ⟨fun c18=>?_,fun c18=>?_⟩ <;> (try simp [B_iff,B_not] at c18))
 | refine Qd (c:=.tmp 30) ?_;simp [-zg,-zd,↓Qb,↓Qa,go_sem];try first | (refine ⟨?_,?_⟩ <;> refine zA ?_) | (refine ⟨fun c30=>?_,fun c30=>?_⟩ <;> (try simp [B_iff,B_not] at c30))
 | (refine Qh (id:=0) (Xf (ι:=Nat) (fun k:Nat=>⟨(upd (upd (upd (upd (upd (upd (fun _=>.any) 0 (li cE xs)) 1 (li cE ys)) 2 (.fn 122 [])) 15 (li cE xs)) 16 (.int .i64 xs.length)) 17 (.int .i64 k)),fun _=>none⟩) (fun k=>k ≤ xs.length ∧ NoneTill (neAt xs ys) k) (fun k=>xs.length - k) (0) ?_ ?_ ?_);exact ⟨Nat.zero_le _,.zero _⟩;((repeat' (first | exact Qp (by assumption) | exact Qr | refine Qs ?_ ?_ | refine Qq ?_)) <;> simp [-zg,-zd,↓Qb,↓Qa,go_sem]);rintro k ⟨hk,ht⟩)
 | (refine ⟨k + 1,⟨by omega,ht.succ (by simp [neAt];apply ed_ext <;> simp_all)⟩,by first | omega | (simp;done) | (simp;omega),?_⟩;((repeat' (first | exact Qp (by assumption) | exact Qr | refine Qs ?_ ?_ | refine Qq ?_)) <;> simp [-zg,-zd,↓Qb,↓Qa,go_sem]))
 | (refine Qh ?_)
 | (refine Qv ?_;simp [-zg,-zd,↓Qb,↓Qa,go_sem])
 | (refine Qu ?_;simp [-zg,-zd,↓Qb,↓Qa,go_sem])
 | (refine Qy ?_;simp [-zg,-zd,↓Qb,↓Qa,go_sem,Try.results121])
 | (intro hx;refine zA ?_)
 | (refine ⟨?_,?_⟩ <;> refine zA ?_)
 | (intro hx;constructor <;> intro hs)
 | (constructor <;> intro hs)
 | (refine ⟨?_,fun hs=>?_⟩;refine zA ?_)
 | (refine ⟨fun hs=>?_,?_⟩;rotate_left;refine zA ?_;rotate_left)))
  all_goals (first
 | (rintro rfl;simp at c14;done)
 | (rintro rfl;simp at c30;done)
 | exact Xm (by omega) ht (by omega)
 | skip)
@[go_sem] def zaav:Con:=.pure fun
  | [.list n_xs c_xs,.list n_ys c_ys,.fn 122 []]=>((Is cE n_xs c_xs) ∧ (Is cE n_ys c_ys),.bool (decide ((de cE c_xs) = (de cE c_ys))))
  | _=>(False,.any)
theorem zady:ConOk Try.prog 121 zaav:=by
  refine ⟨Qm Try.func121 (by decide) rfl,fun args h=>?_⟩
  revert h
  dsimp only
  split
  · intro h
    obtain ⟨⟨xs,rfl,rfl⟩,⟨ys,rfl,rfl⟩⟩:=h
    try simp only [Ql] at *
    exact ⟨zahg xs ys ,by simp [go_sem]⟩
  · intro h
    exact h.elim
@[go_sem] def Γt28:FuncId → Con:=ext Γt27 121 zaav
theorem Γt28_ok:∀ g,ConOk Try.prog g (Γt28 g):=Qj Xs zady

theorem sysSame1_pure (l1:Int) (es1:List Ed) (l2:Int) (es2:List Ed)  : Pure Try.prog 120 [.st [.int .i64 l1,li cE es1],.st [.int .i64 l2,li cE es2]] (.bool (decide (l1 = l2) && decide (es1 = es2))):=by
  refine Pure.of_walk Try.func120 rfl (by simp [Try.f120]) (by simp [-zd,go_sem]) fun B hK=>?_
  (repeat' (first
 | refine Qx ?_
 | refine Qc (id:=0) Γt28_ok [] (by kernel_rfl) ?_;simp [-zg,-zd,↓Qb,↓Qa,go_sem];try (refine Qt hK 2 ?_;simp [go_sem];refine Qt hK 3 ?_;simp [go_sem])
 | refine Qc (id:=1) Γt28_ok [10] (by kernel_rfl) ?_;simp [-zg,-zd,↓Qb,↓Qa,go_sem];try (refine ⟨fun s1a=>?_,fun s1a=>?_⟩ <;> (try simp [B_iff,B_not] at s1a) <;> try (refine ⟨fun s1b=>?_,fun s1b=>?_⟩ <;> (try simp [B_iff,B_not] at s1b)))
 | (refine Qh ?_)
 | (refine Qv ?_;simp [-zg,-zd,↓Qb,↓Qa,go_sem])
 | (refine Qu ?_;simp [-zg,-zd,↓Qb,↓Qa,go_sem])
 | (refine Qy ?_;simp [-zg,-zd,↓Qb,↓Qa,go_sem,Try.results120])
 | (intro hx;refine zA ?_)
 | (refine ⟨?_,?_⟩ <;> refine zA ?_)
 | (intro hx;constructor <;> intro hs)
 | (constructor <;> intro hs)
 | (refine ⟨?_,fun hs=>?_⟩;refine zA ?_)
 | (refine ⟨fun hs=>?_,?_⟩;rotate_left;refine zA ?_;rotate_left)))
  all_goals (first
 | (simp_all;done)
 | (intros;simp_all;done)
 | skip)
@[go_sem] def zabj:Con:=.pure fun
  | [.st [.int .i64 l1,.list n_es1 c_es1],.st [.int .i64 l2,.list n_es2 c_es2]]=>((Is cE n_es1 c_es1) ∧ (Is cE n_es2 c_es2),.bool (decide (l1 = l2) && decide ((de cE c_es1) = (de cE c_es2))))
  | _=>(False,.any)
theorem zaet:ConOk Try.prog 120 zabj:=by
  refine ⟨Qm Try.func120 (by decide) rfl,fun args h=>?_⟩
  revert h
  dsimp only
  split
  · intro h
    obtain ⟨⟨es1,rfl,rfl⟩,⟨es2,rfl,rfl⟩⟩:=h
    try simp only [Ql] at *
    exact ⟨sysSame1_pure _ es1 _ es2,by simp [go_sem]⟩
  · intro h
    exact h.elim
@[go_sem] def Γt29:FuncId → Con:=ext Γt28 120 zabj
theorem Xr:∀ g,ConOk Try.prog g (Γt29 g):=Qj Γt28_ok zaet

theorem eqFuncPr_pure (xs:List Pr) (ys:List Pr)   : Pure Try.prog 119 [li cR xs,li cR ys,.fn 120 []] (.bool (decide (xs = ys))):=by
  refine Pure.of_walk Try.func119 rfl (by simp [Try.f119]) (by simp [-zd,go_sem]) fun B hK=>?_
  (repeat' (first
 | refine Qx ?_
 | (refine Xp 0 rfl fun hm=>?_);refine Qc (id:=0) Xr [] (by kernel_rfl) ?_;simp [-zg,-zd,↓Qb,↓Qa,go_sem]
 | refine Qc (id:=1) Xr [] (by kernel_rfl) ?_;simp [-zg,-zd,↓Qb,↓Qa,go_sem]
 | refine Qc (id:=2) Xr [] (by kernel_rfl) ?_;simp [-zg,-zd,↓Qb,↓Qa,go_sem]
 | refine Qc (id:=3) Xr [] (by kernel_rfl) ?_;simp [-zg,-zd,↓Qb,↓Qa,go_sem]
 | refine Qc (id:=4) Xr [] (by kernel_rfl) ?_;simp [-zg,-zd,↓Qb,↓Qa,go_sem]
 | refine Qc (id:=5) Xr [] (by kernel_rfl) ?_;simp [-zg,-zd,↓Qb,↓Qa,go_sem,c18,Qk c18,zsP c18];try (try (refine Qt hK 8 ?_;simp [go_sem]))
 | (have cy:k < ys.length:=by omega);refine Qc (id:=6) Xr [] (by kernel_rfl) ?_;simp [-zg,-zd,↓Qb,↓Qa,go_sem,cy,Qk cy,zsP cy];try (try (refine Qt hK 9 ?_;simp [go_sem]))
 | refine Qc (id:=7) Xr [] (by kernel_rfl) ?_;simp [-zg,-zd,↓Qb,↓Qa,go_sem]
 | refine Qc (id:=8) Xr [] (by kernel_rfl) ?_;simp [-zg,-zd,↓Qb,↓Qa,go_sem]
 | refine Qc (id:=9) Xr [] (by kernel_rfl) ?_;simp [-zg,-zd,↓Qb,↓Qa,go_sem,wrapS (k:=k) (by omega)]
 | refine Qc (id:=10) Xr [] (by kernel_rfl) ?_;simp [-zg,-zd,↓Qb,↓Qa,go_sem]
 | refine Qd (c:=.tmp 14) ?_;simp [-zg,-zd,↓Qb,↓Qa,go_sem];try first | (refine ⟨?_,?_⟩ <;> refine zA ?_) | (refine ⟨fun c14=>?_,fun c14=>?_⟩ <;> (try simp [B_iff,B_not] at c14))
 | refine Qd (c:=.tmp 18) ?_;simp [-zg,-zd,↓Qb,↓Qa,go_sem];try first | (refine ⟨?_,?_⟩ <;> refine zA ?_) | (refine ⟨fun c18=>?_,fun c18=>?_⟩ <;> (try simp [B_iff,B_not] at c18))
 | refine Qd (c:=.tmp 30) ?_;simp [-zg,-zd,↓Qb,↓Qa,go_sem];try first | (refine ⟨?_,?_⟩ <;> refine zA ?_) | (refine ⟨fun c30=>?_,fun c30=>?_⟩ <;> (try simp [B_iff,B_not] at c30))
 | (refine Qh (id:=0) (Xf (ι:=Nat) (fun k:Nat=>⟨(upd (upd (upd (upd (upd (upd (fun _=>.any) 0 (li cR xs)) 1 (li cR ys)) 2 (.fn 120 [])) 15 (li cR xs)) 16 (.int .i64 xs.length)) 17 (.int .i64 k)),fun _=>none⟩) (fun k=>k ≤ xs.length ∧ NoneTill (neAt xs ys) k) (fun k=>xs.length - k) (0) ?_ ?_ ?_);exact ⟨Nat.zero_le _,.zero _⟩;((repeat' (first | exact Qp (by assumption) | exact Qr | refine Qs ?_ ?_ | refine Qq ?_)) <;> simp [-zg,-zd,↓Qb,↓Qa,go_sem]);rintro k ⟨hk,ht⟩)
 | (refine ⟨k + 1,⟨by omega,ht.succ (by simp [neAt];apply pr_ext <;> simp_all)⟩,by first | omega | (simp;done) | (simp;omega),?_⟩;((repeat' (first | exact Qp (by assumption) | exact Qr | refine Qs ?_ ?_ | refine Qq ?_)) <;> simp [-zg,-zd,↓Qb,↓Qa,go_sem]))
 | (refine Qh ?_)
 | (refine Qv ?_;simp [-zg,-zd,↓Qb,↓Qa,go_sem])
 | (refine Qu ?_;simp [-zg,-zd,↓Qb,↓Qa,go_sem])
 | (refine Qy ?_;simp [-zg,-zd,↓Qb,↓Qa,go_sem,Try.results119])
 | (intro hx;refine zA ?_)
 | (refine ⟨?_,?_⟩ <;> refine zA ?_)
 | (intro hx;constructor <;> intro hs)
 | (constructor <;> intro hs)
 | (refine ⟨?_,fun hs=>?_⟩;refine zA ?_)
 | (refine ⟨fun hs=>?_,?_⟩;rotate_left;refine zA ?_;rotate_left)))
  all_goals (first
 | (rintro rfl;simp at c14;done)
 | (rintro rfl;simp at c30;done)
 | exact Xm (by omega) ht (by omega)
 | skip)
@[go_sem] def zabn:Con:=.pure fun
  | [.list n_xs c_xs,.list n_ys c_ys,.fn 120 []]=>((Is cR n_xs c_xs) ∧ (Is cR n_ys c_ys),.bool (decide ((de cR c_xs) = (de cR c_ys))))
  | _=>(False,.any)
theorem zaex:ConOk Try.prog 119 zabn:=by
  refine ⟨Qm Try.func119 (by decide) rfl,fun args h=>?_⟩
  revert h
  dsimp only
  split
  · intro h
    obtain ⟨⟨xs,rfl,rfl⟩,⟨ys,rfl,rfl⟩⟩:=h
    try simp only [Ql] at *
    exact ⟨eqFuncPr_pure xs ys ,by simp [go_sem]⟩
  · intro h
    exact h.elim
@[go_sem] def Γt30:FuncId → Con:=ext Γt29 119 zabn
theorem Γt30_ok:∀ g,ConOk Try.prog g (Γt30 g):=Qj Xr zaex

theorem zadu (a:List Int) (b:List Pr) (c:List Int) (d:List Pr)  : Pure Try.prog 40 [.st [li cI a,li cR b],.st [li cI c,li cR d]] (.bool (decide (a = c) && decide (b = d))):=by
  refine Pure.of_walk Try.func40 rfl (by simp [Try.f40]) (by simp [-zd,go_sem]) fun B hK=>?_
  (repeat' (first
 | refine Qx ?_
 | refine Qc (id:=0) Γt30_ok [] (by kernel_rfl) ?_;simp [-zg,-zd,↓Qb,↓Qa,go_sem];try (refine Qt hK 2 ?_;simp [go_sem];refine Qt hK 3 ?_;simp [go_sem])
 | refine Qc (id:=1) Γt30_ok [10] (by kernel_rfl) ?_;simp [-zg,-zd,↓Qb,↓Qa,go_sem];try (refine ⟨fun s1a=>?_,fun s1a=>?_⟩ <;> (try simp [B_iff,B_not] at s1a) <;> try (refine ⟨fun s1b=>?_,fun s1b=>?_⟩ <;> (try simp [B_iff,B_not] at s1b)))
 | (refine Qh ?_)
 | (refine Qv ?_;simp [-zg,-zd,↓Qb,↓Qa,go_sem])
 | (refine Qu ?_;simp [-zg,-zd,↓Qb,↓Qa,go_sem])
 | (refine Qy ?_;simp [-zg,-zd,↓Qb,↓Qa,go_sem,Try.results40])
 | (intro hx;refine zA ?_)
 | (refine ⟨?_,?_⟩ <;> refine zA ?_)
 | (intro hx;constructor <;> intro hs)
 | (constructor <;> intro hs)
 | (refine ⟨?_,fun hs=>?_⟩;refine zA ?_)
 | (refine ⟨fun hs=>?_,?_⟩;rotate_left;refine zA ?_;rotate_left)))
  all_goals (first
 | (simp_all;done)
 | (intros;simp_all;done)
 | skip)
@[go_sem] def zaac:Con:=.pure fun
  | [.st [.list n_a c_a,.list n_b c_b],.st [.list n_c c_c,.list n_d c_d]]=>((Is cI n_a c_a) ∧ (Is cR n_b c_b) ∧ (Is cI n_c c_c) ∧ (Is cR n_d c_d),.bool (decide ((de cI c_a) = (de cI c_c)) && decide ((de cR c_b) = (de cR c_d))))
  | _=>(False,.any)
theorem zabw:ConOk Try.prog 40 zaac:=by
  refine ⟨Qm Try.func40 (by decide) rfl,fun args h=>?_⟩
  revert h
  dsimp only
  split
  · intro h
    obtain ⟨⟨a,rfl,rfl⟩,⟨b,rfl,rfl⟩,⟨c,rfl,rfl⟩,⟨d,rfl,rfl⟩⟩:=h
    try simp only [Ql] at *
    exact ⟨zadu a b c d,by simp [go_sem]⟩
  · intro h
    exact h.elim
@[go_sem] def Γt31:FuncId → Con:=ext Γt30 40 zaac
theorem Xe:∀ g,ConOk Try.prog g (Γt31 g):=Qj Γt30_ok zabw

end
end Go.Proofs.Ytkjimmkemnmajaa.Vm

