import Derived.Test.YtkjimmkemnmajaaY2
/-
  Formulas: normal forms, subformulas, basic formulas; their values. No conditions.
-/
namespace Go.Proofs.Ytkjimmkemnmajaa.Vm
open Go
open Nat renaming sub_pos_of_lt → zsP
open List renaming getD_eq_getElem?_getD → zg,drop_one → zd
noncomputable section
set_option linter.unusedVariables false
set_option linter.unusedSimpArgs false
set_option maxRecDepth 200000

@[go_sem] def Wq:Tree × Bool → D:=fun x=>.tup [sX x.1,.bool x.2]
theorem zaoy (x:Tree × Bool):dat (Wq x) = Wq x:=by simp [go_sem]
def Wp (k:Int) (v:Int) (ks:List Tree):Tree × Bool → Prop:=fun x=>(x.2 = true → ForOk x.1) ∧ (x.1.k = 0 ∨ WellF x.1)
def zadc (k:Int) (v:Int) (ks:List Tree) (x:(Tree × Bool) × D):Prop:=Wp k v ks x.1 ∧ dat x.2 = Wq x.1
def zabq (k:Int) (v:Int) (ks:List Tree) (c:Any):(Tree × Bool) × D:=sel (zadc k v ks) (((.mk 0 0 [],false):Tree × Bool),Wq ((.mk 0 0 [],false))) c
def zace (k:Int) (v:Int) (ks:List Tree) (c:Any):Tree × Bool:=(zabq k v ks c).1
theorem zahx (k:Int) (v:Int) (ks:List Tree)  (c:Any):zadc k v ks (zabq k v ks c):=by
  have hx:Wp k v ks ((.mk 0 0 [],false)):=by simp [Wp,Tree.k]
  exact Ji (p:=zadc k v ks) (x0:=(((.mk 0 0 [],false):Tree × Bool),Wq ((.mk 0 0 [],false)))) ⟨hx,zaoy _⟩ c
theorem zajx (k:Int) (v:Int) (ks:List Tree)  (c:Any):Wp k v ks (zace k v ks c):=(zahx k v ks  c).1
theorem zahw (k:Int) (v:Int) (ks:List Tree) {e_:Exit} {S_:St} (x:Tree × Bool) (he_:e_ = .ret ∨ e_ = .normal)
    (h1:(Qk Try.prog S_ Try.f214.results.toList).1 ∧ dat (resD (Qk Try.prog S_ Try.f214.results.toList).2.1) = Wq x) (hg:Wp k v ks x) :
    retR Try.prog Try.f214 (fun c=>((zabq k v ks c).2,fun _=>none)) e_ S_ :=
  Jd (good:=zadc k v ks) (enc:=fun x:(Tree × Bool) × D=>x.2) (x,resD (Qk Try.prog S_ Try.f214.results.toList).2.1) he_ ⟨h1.1,rfl⟩ ⟨hg,h1.2⟩
theorem zaox (k:Int) (v:Int) (ks:List Tree)  : SpecR Try.prog 214 [.st [.int .i64 k,.int .i64 v,li cX ks]] (fun _=>none) (fun c=>((zabq k v ks c).2,fun _=>none)):=by
  refine SpecR.of_walk Try.func214 rfl (by simp [Try.f214]) fun B=>?_
  cases hs:Vm.B (ForOk (.mk k v ks))
  all_goals (repeat' (first
 | refine Qt ?_
 | refine Qc (id:=0) Wz [] (by kernel_rfl) ?_;simp [-zg,-zd,↓Qb,↓Qa,go_sem];try (refine Zr 1 ?_;simp [go_sem])
 | refine Qc (id:=1) Wz [] (by kernel_rfl) ?_;simp [-zg,-zd,↓Qb,↓Qa,go_sem,hs]
 | refine Qc (id:=2) Wz [] (by kernel_rfl) ?_;simp [-zg,-zd,↓Qb,↓Qa,go_sem]
 | (have hS:ForOk (.mk k v ks):=(by rw [B_iff] at hs;exact hs);have hW:=hS.well);refine Qc (id:=3) Wz [] (by kernel_rfl) ?_;simp [-zg,-zd,↓Qb,↓Qa,go_sem,hW];try (intro c3;generalize Wv k v ks false c3 = z3 at *;refine Zr 4 ?_;simp [go_sem])
 | refine Qc (id:=4) Wz [] (by kernel_rfl) ?_;simp [-zg,-zd,↓Qb,↓Qa,go_sem,Tree.eta]
 | refine Qc (id:=5) Wz [] (by kernel_rfl) ?_;simp [-zg,-zd,↓Qb,↓Qa,go_sem]
 | refine Qc (id:=6) Wz [] (by kernel_rfl) ?_;simp [-zg,-zd,↓Qb,↓Qa,go_sem]
 | refine Qd (c:=.tmp 7) ?_;simp [-zg,-zd,↓Qb,↓Qa,go_sem];try first | (refine ⟨?_,?_⟩ <;> refine zA ?_) | (refine ⟨fun c7=>?_,fun c7=>?_⟩ <;> (try simp [B_iff,B_not] at c7))
 | refine Qd (c:=.tmp 13) ?_;simp [-zg,-zd,↓Qb,↓Qa,go_sem];try first | (refine ⟨?_,?_⟩ <;> refine zA ?_) | (refine ⟨fun c13=>?_,fun c13=>?_⟩ <;> (try simp [B_iff,B_not] at c13))
 | (refine Qe ?_)
 | (refine Qs ?_;simp [-zg,-zd,↓Qb,↓Qa,go_sem])
 | (refine Qr ?_;simp [-zg,-zd,↓Qb,↓Qa,go_sem])
 | (refine Qu ?_;try simp [-zg,-zd,↓Qb,↓Qa,go_sem,Try.results214])
 | (intro hx;refine zA ?_)
 | (intro hx;change retR _ _ _ _ _)
 | (refine ⟨?_,?_⟩ <;> refine zA ?_)
 | (intro hx;constructor <;> intro hs)
 | (constructor <;> intro hs)
 | (refine ⟨?_,fun hs=>?_⟩;refine zA ?_)
 | (refine ⟨fun hs=>?_,?_⟩;rotate_left;refine zA ?_;rotate_left)))
  all_goals (first
 | (refine zahw _ _ _ ((.mk 0 0 [],false)) ?_ ?_ ?_;(first | exact Or.inl rfl | exact Or.inr rfl);(focus (simp [-zg,-zd,↓Qb,↓Qa,go_sem,Try.results214,dat,li,Xs];done));(focus ((simp [Wp,Tree.k]);done)))
 | (refine zahw _ _ _ ((z3,true)) ?_ ?_ ?_;(first | exact Or.inl rfl | exact Or.inr rfl);(focus (simp [-zg,-zd,↓Qb,↓Qa,go_sem,Try.results214,dat,Xm,li];done));(focus (((have h13:ForOk z3:=(by assumption);exact ⟨fun _=>h13,.inr h13.well⟩));done)))
 | skip)
@[go_sem] def zajk:Con:=.rel fun args H=>match args with
  | [.st [.int .i64 k,.int .i64 v,.list n_ks c_ks]]=>((Is cX n_ks c_ks),fun c=>(Wq (zace k v (de cX c_ks) c),H))
  | _=>(False,fun _=>(.any,H))
theorem NormalFormC_ok:ConOk Try.prog 214 zajk:=by
  refine ⟨Qp Try.func214 (by decide) rfl,fun args H h=>?_⟩
  revert h
  dsimp only
  split
  · intro h
    obtain ⟨ks,rfl,rfl⟩:=h
    try simp only [Qm] at *
    exact SpecR.enc ((SpecR.frame0 (zaox _ _ ks ) (H:=H)).shut) fun c=>Prod.ext (zahx _ _ _  c).2.symm rfl
  · intro h
    exact h.elim
@[go_sem] def Γy14:FuncId → Con:=ext Γy13 214 zajk
theorem Γy14_ok:∀ g,ConOk Try.prog g (Γy14 g):=Qo Wz NormalFormC_ok

def AllW (xs:List Tree):Prop:=∀ t,t ∈ xs → WellF t
theorem AllW.snoc {xs:List Tree} (h:AllW xs) {t:Tree} (ht:WellF t):AllW (xs ++ [t]):=fun u hu=>by
  rcases List.mem_append.1 hu with q | q
  · exact h u q
  · have:u = t:=by simpa using q
    rw [this];exact ht
theorem AllW.nil:AllW []:=fun t h=>nomatch h
theorem AllW.at {xs:List Tree} (h:AllW xs) {i:Nat} (hi:i < xs.length):WellF (nth xs i):=h _ (Xe hi)
def IsO (E:D):Prop:=E = .nil ∨ ∃ xs,E = .fr 3 (List.length xs) (cat cX xs)
def xsO (E:D):List Tree:=match E with | .fr _ _ cs=>de cX cs | _=>[]
@[go_sem] theorem isO_nil:IsO .nil = True:=eq_true (.inl rfl)
@[go_sem] theorem isO_fr (xs:List Tree):IsO (.fr 3 xs.length (cat cX xs)) = True:=eq_true (.inr ⟨xs,rfl⟩)
@[go_sem] theorem xsO_nil:xsO .nil = []:=rfl
@[go_sem] theorem xsO_fr (n:Nat) (xs:List Tree):xsO (.fr 3 n (cat cX xs)) = xs:=Qm xs
theorem tszs_take {ks:List Tree} {i:Nat} (h:i < ks.length):tszs (ks.take (i + 1)) = tszs (ks.take i) + tsz (nth ks i):=by
  have key:∀ (xs ys:List Tree),tszs (xs ++ ys) = tszs xs + tszs ys:=fun xs ys=>by
    induction xs with
    | nil=>simp [tszs]
    | cons x xs ih=>rw [List.cons_append,tszs,tszs,ih];omega
  rw [List.take_succ_eq_append_getElem h,key,← Ql h];simp [tszs]
theorem tszs_le {ks:List Tree} {i:Nat} (h:i ≤ ks.length):tszs (ks.take i) ≤ tszs ks:=by
  have key:∀ (xs ys:List Tree),tszs (xs ++ ys) = tszs xs + tszs ys:=fun xs ys=>by
    induction xs with
    | nil=>simp [tszs]
    | cons x xs ih=>rw [List.cons_append,tszs,tszs,ih];omega
  have:=key (ks.take i) (ks.drop i)
  rw [List.take_append_drop] at this
  omega
theorem zako:∀ (d:Nat) (t:Tree),ShapeF d t → tsz t + 1 ≤ 2 ^ (d + 1)
  | 0,_,h=>h.elim
  | d + 1,.mk k v ks,h=>by
    have h2:=h.two
    have h5:=h.2.2.2.2
    simp only [Tree.ks] at h2 h5
    have hp:2 ^ (d + 1 + 1) = 2 * 2 ^ (d + 1):=by rw [Nat.pow_succ,Nat.mul_comm]
    have p1:2 ≤ 2 ^ (d + 1):=by rw [Nat.pow_succ];have:=Nat.one_le_two_pow (n:=d);omega
    rw [tsz,hp]
    match ks,h2,h5 with
    | [],_,_=>simp only [tszs];omega
    | [a],_,h5 =>
      have:=zako d a (h5 0 (by simp))
      simp only [tszs];omega
    | [a,b],_,h5 =>
      have:=zako d a (h5 0 (by simp))
      have:=zako d b (h5 1 (by simp))
      simp only [tszs];omega
    | a :: b :: c :: l,h2,_=>simp at h2
theorem ForOk.tsz {t:Tree} (h:ForOk t):Vm.tsz t ≤ 127:=by have:=zako 6 t h.1;omega

@[go_sem] def Uu:List Tree → D:=fun x=>.fr 3 x.length (cat cX x)
def zack (E:D) (k:Int) (v:Int) (ks:List Tree):List Tree → Prop:=fun x=>x.length ≤ (xsO E).length + tsz (.mk k v ks) ∧ AllW x
def Uw (E:D) (k:Int) (v:Int) (ks:List Tree) (c:Any):List Tree:=sel (zack E k v ks) (xsO E) c
theorem l5Subs_ok (E:D) (k:Int) (v:Int) (ks:List Tree) (hE:IsO E) (hA:AllW (xsO E)) (hw:WellF (.mk k v ks)) (hn:(xsO E).length + tsz (.mk k v ks) ≤ 1000000) (c:Any):zack E k v ks (Uw E k v ks c):=Ji (p:=zack E k v ks) (x0:=xsO E) (⟨Nat.le_add_right _ _,hA⟩) c
theorem l5Subs_ret (E:D) (k:Int) (v:Int) (ks:List Tree) {e_:Exit} {S_:St} (x:List Tree) (he_:e_ = .ret ∨ e_ = .normal)
    (h1:(Qk Try.prog S_ Try.f240.results.toList).1 ∧ resD (Qk Try.prog S_ Try.f240.results.toList).2.1 = Uu x) (hg:zack E k v ks x) :
    retR Try.prog Try.f240 (fun c=>(Uu (Uw E k v ks c),fun _=>none)) e_ S_:=Jd (enc:=Uu) x he_ h1 hg
@[go_sem] def l5SubsCn (n_:Nat):Con:=.rel fun args H=>match args with
  | [E,.st [.int .i64 k,.int .i64 v,.list n_ks c_ks]]=>((Is cX n_ks c_ks) ∧ (IsO E) ∧ (AllW (xsO E)) ∧ (WellF (.mk k v (de cX c_ks))) ∧ ((xsO E).length + tsz (.mk k v (de cX c_ks)) ≤ 1000000) ∧ (tsz (.mk k v (de cX c_ks)) < n_),fun c=>(Uu (Uw E k v (de cX c_ks) c),H))
  | _=>(False,fun _=>(.any,H))
theorem l5SubsCn_ok {n_:Nat} (ih:∀ (E:D) (k:Int) (v:Int) (ks:List Tree) (hE:IsO E) (hA:AllW (xsO E)) (hw:WellF (.mk k v ks)) (hn:(xsO E).length + tsz (.mk k v ks) ≤ 1000000) (hm_:tsz (.mk k v ks) < n_),SpecR Try.prog 240 [E,.st [.int .i64 k,.int .i64 v,li cX ks]] (fun _=>none) (fun c=>(Uu (Uw E k v ks c),fun _=>none))):ConOk Try.prog 240 (l5SubsCn n_):=by
  refine ⟨Qp Try.func240 (by decide) rfl,fun args H h=>?_⟩
  revert h
  dsimp only
  split
  · intro h
    obtain ⟨⟨ks,rfl,rfl⟩,hE,hA,hw,hn,hm_⟩:=h
    try simp only [Qm] at *
    exact (SpecR.frame0 (ih _ _ _ ks hE hA hw hn hm_) (H:=H))
  · intro h
    exact h.elim
set_option maxHeartbeats 8000000 in
theorem l5Subs_rec:∀ (n_:Nat),∀ (E:D) (k:Int) (v:Int) (ks:List Tree) (hE:IsO E) (hA:AllW (xsO E)) (hw:WellF (.mk k v ks)) (hn:(xsO E).length + tsz (.mk k v ks) ≤ 1000000) (hm_:tsz (.mk k v ks) < n_),SpecR Try.prog 240 [E,.st [.int .i64 k,.int .i64 v,li cX ks]] (fun _=>none) (fun c=>(Uu (Uw E k v ks c),fun _=>none)):=by
  intro n_
  induction n_ with
  | zero=>intros;omega
  | succ n_ ih =>
  intro E k v ks hE hA hw hn hm_
  have Γr_ok:=Qo Γy14_ok (l5SubsCn_ok ih)
  refine SpecR.of_walk Try.func240 rfl (by simp [Try.f240]) fun B=>?_
  obtain ⟨w1,w2,w3,w4⟩:=hw.at;have w5:=arF_le k;have hts:tsz (.mk k v ks) = 1 + tszs ks:=(by rw [tsz]);obtain ⟨xs,hxs⟩:∃ xs,xsO E = xs:=⟨_,rfl⟩;have hE2:E = .nil ∧ xs = [] ∨ E = .fr 3 xs.length (cat cX xs) ∧ True:=(by rcases hE with h | ⟨ys,h⟩;(left;subst h;exact ⟨rfl,by rw [← hxs];rfl⟩);(right;have e:ys = xs:=(by rw [← hxs,h];exact (Qm ys).symm);exact ⟨by rw [h,e],trivial⟩));rw [hxs] at hA hn;rcases hE2 with ⟨he,hx⟩ | ⟨he,hx⟩ <;> subst he
  all_goals (repeat' (first
 | refine Qt ?_
 | ((try (refine Ye 0 3 rfl ?_));simp only [go_sem]);refine Qc (id:=0) Γr_ok [] (by kernel_rfl) ?_;simp [-zg,-zd,↓Qb,↓Qa,go_sem];try (refine Zr 3 ?_;simp [go_sem])
 | (refine Yl 3 2 ⟨rfl,rfl⟩ fun hm=>?_);refine Qc (id:=1) Γr_ok [] (by kernel_rfl) ?_;simp [-zg,-zd,↓Qb,↓Qa,go_sem]
 | refine Qc (id:=2) Γr_ok [] (by kernel_rfl) ?_;simp [-zg,-zd,↓Qb,↓Qa,go_sem]
 | ((have qt:=Zc (k:=k) (v:=v) c10);(have qw:=w4 q.1 c10);(have qs:=tszs_take c10);(have ql:=tszs_le (ks:=ks) (i:=q.1 + 1) (by omega)));refine Qc (id:=4) Γr_ok [] (by kernel_rfl) ?_;simp [-zg,-zd,↓Qb,↓Qa,go_sem,c10,Qj c10,zsP c10,qw,g3,Tree.eta,(show tsz (nth ks q.1) < n_ by omega),(show q.2.length + tsz (nth ks q.1) ≤ 1000000 by omega)];try ((intro c4);(have z0:=l5Subs_ok (.fr 3 q.2.length (cat cX q.2)) (nth ks q.1).k (nth ks q.1).v (nth ks q.1).ks (.inr ⟨q.2,rfl⟩) (by rw [xsO_fr];exact g3) (by rw [Tree.eta];exact qw) (by rw [xsO_fr,Tree.eta];omega) c4);(simp only [zack,xsO_fr,Tree.eta] at z0);(generalize Uw (.fr 3 q.2.length (cat cX q.2)) (nth ks q.1).k (nth ks q.1).v (nth ks q.1).ks c4 = z at *);(obtain ⟨z1,z2⟩:=z0))
 | refine Qc (id:=3) Γr_ok [] (by kernel_rfl) ?_;simp [-zg,-zd,↓Qb,↓Qa,go_sem,wrapS (k:=q.1) (by omega)]
 | ((obtain ⟨i,o⟩:=q);(dsimp only at *);(have hlk:=tszs_le (ks:=ks) (Nat.le_refl ks.length));(obtain rfl:i = ks.length:=by omega);(rw [List.take_length] at g2 hlk);(refine Xk 0 rfl fun nb cp j hnb hcp hcj=>?_);(simp only [go_sem] at hnb ⊢));refine Qc (id:=5) Γr_ok [] (by kernel_rfl) ?_;simp [-zg,-zd,↓Qb,↓Qa,go_sem,Tree.eta]
 | refine Qc (id:=6) Γr_ok [] (by kernel_rfl) ?_;simp [-zg,-zd,↓Qb,↓Qa,go_sem,hw,(show o.length ≤ 9223372036854775806 by omega),(show 2 * (o.length + 1) * 40 ≤ 281474976710656 by omega),hcj,(show o.length * 3 ≤ o.length * 3 + j by omega)];try ((intro c6);(have z0:=l5Copy_ok k v ks hw c6);(simp only [zacn] at z0);(rw [z0]))
 | ((try (refine Je 0 (b:=nb) (all:=cat cX o ++ List.replicate j D.any) rfl (by simp [upd]) (by omega) (by simp [Qz]) (by simp [Qz];omega) ?_)));refine Qc (id:=7) Γr_ok [] (by kernel_rfl) ?_;simp [-zg,-zd,↓Qb,↓Qa,go_sem]
 | refine Qd (c:=.tmp 10) ?_;simp [-zg,-zd,↓Qb,↓Qa,go_sem];try first | (refine ⟨?_,?_⟩ <;> refine zA ?_) | (refine ⟨fun c10=>?_,fun c10=>?_⟩ <;> (try simp [B_iff,B_not] at c10))
 | refine Qd (c:=.tmp 23) ?_;simp [-zg,-zd,↓Qb,↓Qa,go_sem];try first | (refine ⟨?_,?_⟩ <;> refine zA ?_) | (refine ⟨fun c23=>?_,fun c23=>?_⟩ <;> (try simp [B_iff,B_not] at c23))
 | (refine Qe (id:=0) (Qy (ι:=Nat × List Tree) (fun q:Nat × List Tree=>⟨(upd (upd (upd (fun _=>.any) 0 (.fr 3 q.2.length (cat cX q.2))) 3 (.pd [.int .i64 k,.int .i64 v,li cX ks])) 5 (.int .i64 q.1)),fun _=>none⟩) (fun q=>q.1 ≤ ks.length ∧ q.2.length ≤ xs.length + tszs (ks.take q.1) ∧ AllW q.2) (fun q=>ks.length - q.1) ((0,xs)) ?_ ?_ ?_);exact ⟨Nat.zero_le _,Nat.le_add_right _ _,hA⟩;((repeat' (first | exact Qg (by assumption) | exact Qi | refine Qf ?_ ?_ | refine Qh ?_)) <;> simp [-zg,-zd,↓Qb,↓Qa,go_sem,hx,List.length_nil,Xs]);rintro q ⟨g1,g2,g3⟩)
 | (refine ⟨(q.1 + 1,z),⟨by dsimp only;omega,by dsimp only;omega,z2⟩,by first | omega | (simp;done) | (simp;omega),?_⟩;((repeat' (first | exact Qg (by assumption) | exact Qi | refine Qf ?_ ?_ | refine Qh ?_)) <;> simp [-zg,-zd,↓Qb,↓Qa,go_sem,hx,List.length_nil,Xs]))
 | (refine Qe ?_)
 | (refine Qs ?_;simp [-zg,-zd,↓Qb,↓Qa,go_sem])
 | (refine Qr ?_;simp [-zg,-zd,↓Qb,↓Qa,go_sem])
 | (refine Qu ?_;try simp [-zg,-zd,↓Qb,↓Qa,go_sem,Try.results240])
 | (intro hx;refine zA ?_)
 | (intro hx;change retR _ _ _ _ _)
 | (refine ⟨?_,?_⟩ <;> refine zA ?_)
 | (intro hx;constructor <;> intro hs)
 | (constructor <;> intro hs)
 | (refine ⟨?_,fun hs=>?_⟩;refine zA ?_)
 | (refine ⟨fun hs=>?_,?_⟩;rotate_left;refine zA ?_;rotate_left)))
  all_goals (first
 | (refine l5Subs_ret _ _ _ _ (o) ?_ ?_ ?_;(first | exact Or.inl rfl | exact Or.inr rfl);(focus (simp [-zg,-zd,↓Qb,↓Qa,go_sem,Try.results240,take_cX];done));(focus (((show o.length ≤ (xsO _).length + tsz (.mk k v ks) ∧ AllW o);rw [hxs];exact ⟨by omega,g3⟩);done)))
 | (refine l5Subs_ret _ _ _ _ (o ++ [.mk k v ks]) ?_ ?_ ?_;(first | exact Or.inl rfl | exact Or.inr rfl);(focus (simp [-zg,-zd,↓Qb,↓Qa,go_sem,Try.results240,Jk,Zz,cX_mk,li];done));(focus (((show (o ++ [Tree.mk k v ks]).length ≤ (xsO _).length + tsz (.mk k v ks) ∧ AllW (o ++ [.mk k v ks]));rw [hxs];exact ⟨by simp;omega,g3.snoc hw⟩);done)))
 | skip)
theorem l5Subs_pure (E:D) (k:Int) (v:Int) (ks:List Tree) (hE:IsO E) (hA:AllW (xsO E)) (hw:WellF (.mk k v ks)) (hn:(xsO E).length + tsz (.mk k v ks) ≤ 1000000):SpecR Try.prog 240 [E,.st [.int .i64 k,.int .i64 v,li cX ks]] (fun _=>none) (fun c=>(Uu (Uw E k v ks c),fun _=>none)):=l5Subs_rec (tsz (.mk k v ks) + 1) E k v ks hE hA hw hn (by omega)
@[go_sem] def l5SubsC:Con:=.rel fun args H=>match args with
  | [E,.st [.int .i64 k,.int .i64 v,.list n_ks c_ks]]=>((Is cX n_ks c_ks) ∧ (IsO E) ∧ (AllW (xsO E)) ∧ (WellF (.mk k v (de cX c_ks))) ∧ ((xsO E).length + tsz (.mk k v (de cX c_ks)) ≤ 1000000),fun c=>(Uu (Uw E k v (de cX c_ks) c),H))
  | _=>(False,fun _=>(.any,H))
theorem l5SubsC_ok:ConOk Try.prog 240 l5SubsC:=by
  refine ⟨Qp Try.func240 (by decide) rfl,fun args H h=>?_⟩
  revert h
  dsimp only
  split
  · intro h
    obtain ⟨⟨ks,rfl,rfl⟩,hE,hA,hw,hn⟩:=h
    try simp only [Qm] at *
    exact (SpecR.frame0 (l5Subs_pure _ _ _ ks hE hA hw hn) (H:=H))
  · intro h
    exact h.elim
@[go_sem] def Γy15:FuncId → Con:=ext Γy14 240 l5SubsC
theorem Jo:∀ g,ConOk Try.prog g (Γy15 g):=Qo Γy14_ok l5SubsC_ok

@[go_sem] def Wn:List Tree × Bool → D:=fun x=>.tup [li cX x.1,.bool x.2]
theorem zajq (x:List Tree × Bool):dat (Wn x) = Wn x:=by simp [go_sem]
def zaah (k:Int) (v:Int) (ks:List Tree):List Tree × Bool → Prop:=fun x=>x.1.length ≤ 5 ∧ AllW x.1
def zabg (k:Int) (v:Int) (ks:List Tree) (x:(List Tree × Bool) × D):Prop:=zaah k v ks x.1 ∧ dat x.2 = Wn x.1
def zaar (k:Int) (v:Int) (ks:List Tree) (c:Any):(List Tree × Bool) × D:=sel (zabg k v ks) ((([],false):List Tree × Bool),Wn (([],false))) c
def zacc (k:Int) (v:Int) (ks:List Tree) (c:Any):List Tree × Bool:=(zaar k v ks c).1
theorem zaei (k:Int) (v:Int) (ks:List Tree)  (c:Any):zabg k v ks (zaar k v ks c):=by
  have hx:zaah k v ks (([],false)):=⟨by simp,AllW.nil⟩
  exact Ji (p:=zabg k v ks) (x0:=((([],false):List Tree × Bool),Wn (([],false)))) ⟨hx,zajq _⟩ c
theorem zaoa (k:Int) (v:Int) (ks:List Tree)  (c:Any):zaah k v ks (zacc k v ks c):=(zaei k v ks  c).1
theorem zaeh (k:Int) (v:Int) (ks:List Tree) {e_:Exit} {S_:St} (x:List Tree × Bool) (he_:e_ = .ret ∨ e_ = .normal)
    (h1:(Qk Try.prog S_ Try.f213.results.toList).1 ∧ dat (resD (Qk Try.prog S_ Try.f213.results.toList).2.1) = Wn x) (hg:zaah k v ks x) :
    retR Try.prog Try.f213 (fun c=>((zaar k v ks c).2,fun _=>none)) e_ S_ :=
  Jd (good:=zabg k v ks) (enc:=fun x:(List Tree × Bool) × D=>x.2) (x,resD (Qk Try.prog S_ Try.f213.results.toList).2.1) he_ ⟨h1.1,rfl⟩ ⟨hg,h1.2⟩
set_option maxHeartbeats 8000000 in
theorem zajp (k:Int) (v:Int) (ks:List Tree)  : SpecR Try.prog 213 [.st [.int .i64 k,.int .i64 v,li cX ks]] (fun _=>none) (fun c=>((zaar k v ks c).2,fun _=>none)):=by
  refine SpecR.of_walk Try.func213 rfl (by simp [Try.f213]) fun B=>?_
  (repeat' (first
 | refine Qt ?_
 | refine Qc (id:=0) Jo [] (by kernel_rfl) ?_;simp [-zg,-zd,↓Qb,↓Qa,go_sem];try (refine Zr 1 ?_;simp [go_sem])
 | refine Qc (id:=1) Jo [] (by kernel_rfl) ?_;simp [-zg,-zd,↓Qb,↓Qa,go_sem];try ((intro c1);(have z0:=zajx k v ks c1);(generalize zace k v ks c1 = z1 at *);(obtain ⟨⟨gk,gv,gs⟩,okb⟩:=z1);(simp only [Wp] at z0);(obtain ⟨z2,z3⟩:=z0);(refine Zr 4 ?_);(simp [go_sem]))
 | refine Qc (id:=2) Jo [] (by kernel_rfl) ?_;simp [-zg,-zd,↓Qb,↓Qa,go_sem]
 | refine Qc (id:=3) Jo [] (by kernel_rfl) ?_;simp [-zg,-zd,↓Qb,↓Qa,go_sem]
 | refine Qc (id:=4) Jo [] (by kernel_rfl) ?_;simp [-zg,-zd,↓Qb,↓Qa,go_sem]
 | ((have hF:ForOk (.mk gk gv gs):=z2 (by first | assumption | (simp_all;done)));(have hFw:=hF.well);(have hFt:=hF.tsz));refine Qc (id:=5) Jo [] (by kernel_rfl) ?_;simp [-zg,-zd,↓Qb,↓Qa,go_sem,hFw,AllW.nil,(show tsz (.mk gk gv gs) ≤ 1000000 by omega)];try ((intro c5);(have y0:=l5Subs_ok .nil gk gv gs (.inl rfl) AllW.nil hFw (by simp only [xsO_nil,List.length_nil];omega) c5);(simp only [zack,xsO_nil,List.length_nil] at y0);(generalize Uw .nil gk gv gs c5 = subs at *);(obtain ⟨y1,y2⟩:=y0);(refine Zr 7 ?_);(simp [go_sem,dat]))
 | refine Qc (id:=6) Jo [] (by kernel_rfl) ?_;simp [-zg,-zd,↓Qb,↓Qa,go_sem]
 | refine Qc (id:=7) Jo [] (by kernel_rfl) ?_;simp [-zg,-zd,↓Qb,↓Qa,go_sem]
 | refine Qc (id:=9) Jo [] (by kernel_rfl) ?_;simp [-zg,-zd,↓Qb,↓Qa,go_sem,c23,Qj c23,zsP c23]
 | refine Qc (id:=10) Jo [] (by kernel_rfl) ?_;simp [-zg,-zd,↓Qb,↓Qa,go_sem,c23,Qj c23,zsP c23,(show q.2.length ≤ 9223372036854775806 by omega),(show 2 * (q.2.length + 1) * 40 ≤ 281474976710656 by omega)];try ((have o4:=g3.snoc (y2.at c23));(have e4:=snoc_cX q.2 (nth subs q.1));(have o3:(q.2 ++ [nth subs q.1]).length = q.2.length + 1:=(by simp));(simp only [li] at e4);(rw [e4,← o3]);(generalize q.2 ++ [nth subs q.1] = o2 at *))
 | refine Qc (id:=8) Jo [] (by kernel_rfl) ?_;simp [-zg,-zd,↓Qb,↓Qa,go_sem,wrapS (k:=q.1) (by omega)]
 | ((refine Zr 6 ?_);(simp only [go_sem,dat,Xm,Jv]));refine Qc (id:=11) Jo [] (by kernel_rfl) ?_;simp [-zg,-zd,↓Qb,↓Qa,go_sem]
 | refine Qc (id:=12) Jo [] (by kernel_rfl) ?_;simp [-zg,-zd,↓Qb,↓Qa,go_sem]
 | refine Qc (id:=13) Jo [] (by kernel_rfl) ?_;simp [-zg,-zd,↓Qb,↓Qa,go_sem]
 | refine Qd (c:=.tmp 15) ?_;simp [-zg,-zd,↓Qb,↓Qa,go_sem];try first | (refine ⟨?_,?_⟩ <;> refine zA ?_) | (refine ⟨fun c15=>?_,fun c15=>?_⟩ <;> (try simp [B_iff,B_not] at c15))
 | refine Qd (c:=.tmp 23) ?_;simp [-zg,-zd,↓Qb,↓Qa,go_sem];try first | (refine ⟨?_,?_⟩ <;> refine zA ?_) | (refine ⟨fun c23=>?_,fun c23=>?_⟩ <;> (try simp [B_iff,B_not] at c23))
 | refine Qd (c:=.tmp 30) ?_;simp [-zg,-zd,↓Qb,↓Qa,go_sem];try first | (refine ⟨?_,?_⟩ <;> refine zA ?_) | (refine ⟨fun c30=>?_,fun c30=>?_⟩ <;> (try simp [B_iff,B_not] at c30))
 | refine Qd (c:=.tmp 40) ?_;simp [-zg,-zd,↓Qb,↓Qa,go_sem];try first | (refine ⟨?_,?_⟩ <;> refine zA ?_) | (refine ⟨fun c40=>?_,fun c40=>?_⟩ <;> (try simp [B_iff,B_not] at c40))
 | (refine Qe (id:=0) (Qy (ι:=Nat × List Tree) (fun q:Nat × List Tree=>⟨(upd (upd (upd (fun _=>.any) 6 (.fr 3 q.2.length (cat cX q.2))) 7 (.list subs.length (cat cX subs))) 8 (.int .i64 q.1)),fun _=>none⟩) (fun q=>q.1 ≤ subs.length ∧ q.2.length ≤ q.1 ∧ AllW q.2) (fun q=>subs.length - q.1) ((0,[])) ?_ ?_ ?_);exact ⟨Nat.zero_le _,Nat.le_refl _,AllW.nil⟩;((repeat' (first | exact Qg (by assumption) | exact Qi | refine Qf ?_ ?_ | refine Qh ?_)) <;> simp [-zg,-zd,↓Qb,↓Qa,go_sem,List.length_nil,Xs]);rintro q ⟨g1,g2,g3⟩)
 | (refine ⟨(q.1 + 1,o2),⟨by dsimp only;omega,by dsimp only;omega,o4⟩,by first | omega | (simp;done) | (simp;omega),?_⟩;((repeat' (first | exact Qg (by assumption) | exact Qi | refine Qf ?_ ?_ | refine Qh ?_)) <;> simp [-zg,-zd,↓Qb,↓Qa,go_sem,List.length_nil,Xs]))
 | (refine Qe ?_)
 | (refine Qs ?_;simp [-zg,-zd,↓Qb,↓Qa,go_sem])
 | (refine Qr ?_;simp [-zg,-zd,↓Qb,↓Qa,go_sem])
 | (refine Qu ?_;try simp [-zg,-zd,↓Qb,↓Qa,go_sem,Try.results213])
 | (intro hx;refine zA ?_)
 | (intro hx;change retR _ _ _ _ _)
 | (refine ⟨?_,?_⟩ <;> refine zA ?_)
 | (intro hx;constructor <;> intro hs)
 | (constructor <;> intro hs)
 | (refine ⟨?_,fun hs=>?_⟩;refine zA ?_)
 | (refine ⟨fun hs=>?_,?_⟩;rotate_left;refine zA ?_;rotate_left)
 | ((fail_if_success change retR _ _ _ _ _);(refine ⟨(q.1 + 1,q.2),⟨by dsimp only;omega,by dsimp only;omega,g3⟩,by dsimp only;omega,?_⟩;((repeat' (first | exact Qg (by assumption) | exact Qi | refine Qf ?_ ?_ | refine Qh ?_)) <;> simp [-zg,-zd,go_sem])))))
  all_goals (first
 | (refine zaeh _ _ _ (([],false)) ?_ ?_ ?_;(first | exact Or.inl rfl | exact Or.inr rfl);(focus (simp [-zg,-zd,↓Qb,↓Qa,go_sem,Try.results213,dat,Xm,li,Xs];done));(focus ((exact ⟨by simp,AllW.nil⟩);done)))
 | (refine zaeh _ _ _ ((q.2,true)) ?_ ?_ ?_;(first | exact Or.inl rfl | exact Or.inr rfl);(focus (simp [-zg,-zd,↓Qb,↓Qa,go_sem,Try.results213,dat,Xm,li,Jv];done));(focus ((exact ⟨by dsimp only;omega,g3⟩);done)))
 | skip)
@[go_sem] def zaeg:Con:=.rel fun args H=>match args with
  | [.st [.int .i64 k,.int .i64 v,.list n_ks c_ks]]=>((Is cX n_ks c_ks),fun c=>(Wn (zacc k v (de cX c_ks) c),H))
  | _=>(False,fun _=>(.any,H))
theorem zakl:ConOk Try.prog 213 zaeg:=by
  refine ⟨Qp Try.func213 (by decide) rfl,fun args H h=>?_⟩
  revert h
  dsimp only
  split
  · intro h
    obtain ⟨ks,rfl,rfl⟩:=h
    try simp only [Qm] at *
    exact SpecR.enc ((SpecR.frame0 (zajp _ _ ks ) (H:=H)).shut) fun c=>Prod.ext (zaei _ _ _  c).2.symm rfl
  · intro h
    exact h.elim
@[go_sem] def Γy16:FuncId → Con:=ext Γy15 213 zaeg
theorem Γy16_ok:∀ g,ConOk Try.prog g (Γy16 g):=Qo Jo zakl

def valN (bs:List Tree) (s:Int):Nat → Tree → Bool
  | 0,_=>false
  | n + 1,t=>if t.k = 1 then true else if t.k = 3 then !valN bs s n (nth t.ks 0) else if t.k = 4 then valN bs s n (nth t.ks 0) && valN bs s n (nth t.ks 1) else if t.k = 5 then valN bs s n (nth t.ks 0) || valN bs s n (nth t.ks 1) else hasF s (findI (fun z=>B (TEq z t)) bs)
def VOk:Nat → Tree → Prop
  | 0,_=>False
  | n + 1,t=>(t.k = 3 → 0 < t.ks.length ∧ VOk n (nth t.ks 0)) ∧ (t.k = 4 ∨ t.k = 5 → 1 < t.ks.length ∧ VOk n (nth t.ks 0) ∧ VOk n (nth t.ks 1))
theorem VOk.ofShape:∀ (d:Nat) (t:Tree),ShapeF d t → VOk d t
  | 0,_,h=>h.elim
  | d + 1,t,h=>by
    obtain ⟨h1,h2,h3,h4,h5⟩:=h
    refine ⟨fun e=>?_,fun e=>?_⟩
    · have:t.ks.length = 1:=by unfold arF at h1;rw [if_neg (by omega),if_pos (by omega)] at h1;omega
      exact ⟨by omega,VOk.ofShape d _ (h5 0 (by omega))⟩
    · have:t.ks.length = 2:=by unfold arF at h1;rw [if_neg (by omega),if_neg (by omega),if_pos (by omega)] at h1;omega
      exact ⟨by omega,VOk.ofShape d _ (h5 0 (by omega)),VOk.ofShape d _ (h5 1 (by omega))⟩

theorem zale {bs:List Tree} {s:Int} {n:Nat} (h:0 < n) {k v:Int} {ks:List Tree}:valN bs s n (.mk k v ks) = if k = 1 then true else if k = 3 then !valN bs s (n - 1) (nth ks 0) else if k = 4 then valN bs s (n - 1) (nth ks 0) && valN bs s (n - 1) (nth ks 1) else if k = 5 then valN bs s (n - 1) (nth ks 0) || valN bs s (n - 1) (nth ks 1) else hasF s (findI (fun z=>B (TEq z (.mk k v ks))) bs):=by
  obtain ⟨m,rfl⟩:∃ m,n = m + 1:=⟨n - 1,by omega⟩
  rfl
theorem VOk.at {n:Nat} {k v:Int} {ks:List Tree} (h:VOk n (.mk k v ks)):0 < n ∧ (k = 3 → 0 < ks.length ∧ VOk (n - 1) (nth ks 0)) ∧ (k = 4 ∨ k = 5 → 1 < ks.length ∧ VOk (n - 1) (nth ks 0) ∧ VOk (n - 1) (nth ks 1)):=by
  cases n with
  | zero=>exact h.elim
  | succ n=>exact ⟨by omega,h.1,h.2⟩
theorem WellF.vok {t:Tree} (h:WellF t):∃ n,VOk n t:=by obtain ⟨d,h⟩:=h;exact ⟨d,VOk.ofShape d t h⟩
theorem VOk.zero {t:Tree} (h:t.k = 0):VOk 1 t:=⟨fun e=>by omega,fun e=>by omega⟩
def Valu (t:Tree):Prop:=∃ n,VOk n t
theorem WellF.valu {t:Tree} (h:WellF t):Valu t:=h.vok
theorem Valu.zero {t:Tree} (h:t.k = 0):Valu t:=⟨1,VOk.zero h⟩
theorem Valu.at {k v:Int} {ks:List Tree} (h:Valu (.mk k v ks)):(k = 3 → 0 < ks.length ∧ Valu (nth ks 0)) ∧ (k = 4 ∨ k = 5 → 1 < ks.length ∧ Valu (nth ks 0) ∧ Valu (nth ks 1)):=by
  obtain ⟨n,h⟩:=h
  obtain ⟨h0,h1,h2⟩:=h.at
  exact ⟨fun e=>⟨(h1 e).1,_,(h1 e).2⟩,fun e=>⟨(h2 e).1,⟨_,(h2 e).2.1⟩,_,(h2 e).2.2⟩⟩
def valF (bs:List Tree) (s:Int) (t:Tree):Bool:=valN bs s (tsz t) t
theorem zapc (t:Tree):0 < tsz t:=by cases t;rw [tsz];omega
theorem zahd (bs:List Tree) (s:Int):∀ (n:Nat) (t:Tree),VOk n t → ∀ m,tsz t ≤ m → valN bs s m t = valF bs s t:=by
  have key:∀ (n:Nat) (t:Tree),VOk n t → ∀ m l,tsz t ≤ m → tsz t ≤ l → valN bs s m t = valN bs s l t:=by
    intro n
    induction n with
    | zero=>intro t h;exact h.elim
    | succ n ih =>
      intro t h m l hm hl
      obtain ⟨k,v,ks⟩:=t
      obtain ⟨h0,h1,h2⟩:=h.at
      have hp:=zapc (.mk k v ks)
      rw [zale (by omega),zale (by omega)]
      by_cases e1:k = 1
      · rw [if_pos e1,if_pos e1]
      rw [if_neg e1,if_neg e1]
      by_cases e3:k = 3
      · rw [if_pos e3,if_pos e3]
        obtain ⟨q1,q2⟩:=h1 e3
        have:=Zc (k:=k) (v:=v) q1
        rw [ih _ q2 (m - 1) (l - 1) (by omega) (by omega)]
      rw [if_neg e3,if_neg e3]
      by_cases e4:k = 4
      · rw [if_pos e4,if_pos e4]
        obtain ⟨q1,q2,q3⟩:=h2 (.inl e4)
        have:=Zc (k:=k) (v:=v) (show 0 < ks.length by omega)
        have:=Zc (k:=k) (v:=v) q1
        rw [ih _ q2 (m - 1) (l - 1) (by omega) (by omega),ih _ q3 (m - 1) (l - 1) (by omega) (by omega)]
      rw [if_neg e4,if_neg e4]
      by_cases e5:k = 5
      · rw [if_pos e5,if_pos e5]
        obtain ⟨q1,q2,q3⟩:=h2 (.inr e5)
        have:=Zc (k:=k) (v:=v) (show 0 < ks.length by omega)
        have:=Zc (k:=k) (v:=v) q1
        rw [ih _ q2 (m - 1) (l - 1) (by omega) (by omega),ih _ q3 (m - 1) (l - 1) (by omega) (by omega)]
      rw [if_neg e5,if_neg e5]
  intro n t h m hm
  exact key n t h m (tsz t) hm (Nat.le_refl _)
theorem valF_not {bs:List Tree} {s v:Int} {ks:List Tree} (h:Valu (.mk 3 v ks)):valF bs s (.mk 3 v ks) = !valF bs s (nth ks 0):=by
  obtain ⟨q1,n,q2⟩:=h.at.1 rfl
  have:=Zc (k:=3) (v:=v) q1
  show valN bs s (tsz (.mk 3 v ks)) (.mk 3 v ks) = _
  rw [zale (zapc _),if_neg (by omega),if_pos rfl,zahd bs s n _ q2 _ (by omega)]
theorem valF_and {bs:List Tree} {s v:Int} {ks:List Tree} (h:Valu (.mk 4 v ks)):valF bs s (.mk 4 v ks) = (valF bs s (nth ks 0) && valF bs s (nth ks 1)):=by
  obtain ⟨q1,⟨n,q2⟩,m,q3⟩:=h.at.2 (.inl rfl)
  have:=Zc (k:=4) (v:=v) (show 0 < ks.length by omega)
  have:=Zc (k:=4) (v:=v) q1
  show valN bs s (tsz (.mk 4 v ks)) (.mk 4 v ks) = _
  rw [zale (zapc _),if_neg (by omega),if_neg (by omega),if_pos rfl,zahd bs s n _ q2 _ (by omega),zahd bs s m _ q3 _ (by omega)]
theorem valF_or {bs:List Tree} {s v:Int} {ks:List Tree} (h:Valu (.mk 5 v ks)):valF bs s (.mk 5 v ks) = (valF bs s (nth ks 0) || valF bs s (nth ks 1)):=by
  obtain ⟨q1,⟨n,q2⟩,m,q3⟩:=h.at.2 (.inr rfl)
  have:=Zc (k:=5) (v:=v) (show 0 < ks.length by omega)
  have:=Zc (k:=5) (v:=v) q1
  show valN bs s (tsz (.mk 5 v ks)) (.mk 5 v ks) = _
  rw [zale (zapc _),if_neg (by omega),if_neg (by omega),if_neg (by omega),if_pos rfl,zahd bs s n _ q2 _ (by omega),zahd bs s m _ q3 _ (by omega)]
theorem valF_true {bs:List Tree} {s v:Int} {ks:List Tree}:valF bs s (.mk 1 v ks) = true:=by
  show valN bs s (tsz (.mk 1 v ks)) (.mk 1 v ks) = _
  rw [zale (zapc _),if_pos rfl]
theorem valF_has {bs:List Tree} {s k v:Int} {ks:List Tree} (h1:¬ k = 1) (h3:¬ k = 3) (h4:¬ k = 4) (h5:¬ k = 5):valF bs s (.mk k v ks) = hasF s (findI (fun z=>B (TEq z (.mk k v ks))) bs):=by
  show valN bs s (tsz (.mk k v ks)) (.mk k v ks) = _
  rw [zale (zapc _),if_neg h1,if_neg h3,if_neg h4,if_neg h5]

@[go_sem] def zahk (n_:Nat):Con:=.pure fun
  | [.list n_bs c_bs,.int .i64 s,.st [.int .i64 k,.int .i64 v,.list n_ks c_ks]]=>((Is cX n_bs c_bs) ∧ (Is cX n_ks c_ks) ∧ (Valu (.mk k v (de cX c_ks))) ∧ (tsz (.mk k v (de cX c_ks)) < n_),.bool (valF (de cX c_bs) s (.mk k v (de cX c_ks))))
  | _=>(False,.any)
theorem zajz {n_:Nat} (ih:∀ (bs:List Tree) (s:Int) (k:Int) (v:Int) (ks:List Tree) (hv:Valu (.mk k v ks)) (hm_:tsz (.mk k v ks) < n_),Pure Try.prog 216 [li cX bs,.int .i64 s,.st [.int .i64 k,.int .i64 v,li cX ks]] (.bool (valF bs s (.mk k v ks)))):ConOk Try.prog 216 (zahk n_):=by
  refine ⟨Qp Try.func216 (by decide) rfl,fun args h=>?_⟩
  revert h
  dsimp only
  split
  · intro h
    obtain ⟨⟨bs,rfl,rfl⟩,⟨ks,rfl,rfl⟩,hv,hm_⟩:=h
    try simp only [Qm] at *
    exact ⟨ih bs _ _ _ ks hv hm_,by simp [go_sem]⟩
  · intro h
    exact h.elim
set_option maxHeartbeats 8000000 in
theorem zamk:∀ (n_:Nat),∀ (bs:List Tree) (s:Int) (k:Int) (v:Int) (ks:List Tree) (hv:Valu (.mk k v ks)) (hm_:tsz (.mk k v ks) < n_),Pure Try.prog 216 [li cX bs,.int .i64 s,.st [.int .i64 k,.int .i64 v,li cX ks]] (.bool (valF bs s (.mk k v ks))):=by
  intro n_
  induction n_ with
  | zero=>intros;omega
  | succ n_ ih =>
  intro bs s k v ks hv hm_
  have Γr_ok:=Qo Γy16_ok (zajz ih)
  refine Pure.of_walk Try.func216 rfl (by simp [Try.f216]) (by simp [-zd,go_sem]) fun B hK=>?_
  obtain ⟨v1,v2⟩:=hv.at
  all_goals (repeat' (first
 | refine Qt ?_
 | refine Qc (id:=0) Γr_ok [] (by kernel_rfl) ?_;simp [-zg,-zd,↓Qb,↓Qa,go_sem];try (refine Xa hK 5 ?_;simp [go_sem])
 | refine Qc (id:=1) Γr_ok [] (by kernel_rfl) ?_;simp [-zg,-zd,↓Qb,↓Qa,go_sem]
 | refine Qc (id:=2) Γr_ok [] (by kernel_rfl) ?_;simp [-zg,-zd,↓Qb,↓Qa,go_sem]
 | refine Qc (id:=3) Γr_ok [] (by kernel_rfl) ?_;simp [-zg,-zd,↓Qb,↓Qa,go_sem]
 | refine Qc (id:=4) Γr_ok [] (by kernel_rfl) ?_;simp [-zg,-zd,↓Qb,↓Qa,go_sem]
 | ((obtain ⟨qk,qw⟩:=v1 (by omega));(have qt:=Zc (k:=k) (v:=v) qk));refine Qc (id:=5) Γr_ok [] (by kernel_rfl) ?_;simp [-zg,-zd,↓Qb,↓Qa,go_sem,qk,Qj qk,zsP qk,Vn (f:=cX) qk,(show 3 ≤ ks.length * 3 by omega),(show tsz (nth ks 0) < n_ by omega),Tree.eta,qw]
 | refine Qc (id:=6) Γr_ok [] (by kernel_rfl) ?_;simp [-zg,-zd,↓Qb,↓Qa,go_sem]
 | ((obtain ⟨qj,qw,qx⟩:=v2 (by omega));(have qk:0 < ks.length:=(by omega));(have qt:=Zc (k:=k) (v:=v) qk);(have qu:=Zc (k:=k) (v:=v) qj));refine Qc (id:=7) Γr_ok [30] (by kernel_rfl) ?_;simp [-zg,-zd,↓Qb,↓Qa,go_sem,qk,Qj qk,zsP qk,qj,Vn (f:=cX) qk,(show 3 ≤ ks.length * 3 by omega),(show (cat cX ks).drop 3 = cat cX (ks.drop 1) from Vh (f:=cX) (sz:=3) ks 1),(show 3 ≤ ks.length * 3 - 3 by omega),(show 3 ≤ (ks.length - 1) * 3 by omega),(show (1:Int) < (ks.length:Int) by omega),zsP qj,(show tsz (nth ks 0) < n_ by omega),(show tsz (nth ks 1) < n_ by omega),Tree.eta,qw,qx];try (refine ⟨fun s7a=>?_,fun s7a=>?_⟩ <;> (try simp [B_iff,B_not] at s7a) <;> try (refine ⟨fun s7b=>?_,fun s7b=>?_⟩ <;> (try simp [B_iff,B_not] at s7b)))
 | refine Qc (id:=8) Γr_ok [] (by kernel_rfl) ?_;simp [-zg,-zd,↓Qb,↓Qa,go_sem]
 | ((obtain ⟨qj,qw,qx⟩:=v2 (by omega));(have qk:0 < ks.length:=(by omega));(have qt:=Zc (k:=k) (v:=v) qk);(have qu:=Zc (k:=k) (v:=v) qj));refine Qc (id:=9) Γr_ok [48] (by kernel_rfl) ?_;simp [-zg,-zd,↓Qb,↓Qa,go_sem,qk,Qj qk,zsP qk,qj,Vn (f:=cX) qk,(show 3 ≤ ks.length * 3 by omega),(show (cat cX ks).drop 3 = cat cX (ks.drop 1) from Vh (f:=cX) (sz:=3) ks 1),(show 3 ≤ ks.length * 3 - 3 by omega),(show 3 ≤ (ks.length - 1) * 3 by omega),(show (1:Int) < (ks.length:Int) by omega),zsP qj,(show tsz (nth ks 0) < n_ by omega),(show tsz (nth ks 1) < n_ by omega),Tree.eta,qw,qx];try (refine ⟨fun s9a=>?_,fun s9a=>?_⟩ <;> (try simp [B_iff,B_not] at s9a) <;> try (refine ⟨fun s9b=>?_,fun s9b=>?_⟩ <;> (try simp [B_iff,B_not] at s9b)))
 | refine Qc (id:=10) Γr_ok [] (by kernel_rfl) ?_;simp [-zg,-zd,↓Qb,↓Qa,go_sem,Tree.eta]
 | refine Qd (c:=.tmp 9) ?_;simp [-zg,-zd,↓Qb,↓Qa,go_sem];try first | (refine ⟨?_,?_⟩ <;> refine zA ?_) | (refine ⟨fun c9=>?_,fun c9=>?_⟩ <;> (try simp [B_iff,B_not] at c9))
 | refine Qd (c:=.tmp 11) ?_;simp [-zg,-zd,↓Qb,↓Qa,go_sem];try first | (refine ⟨?_,?_⟩ <;> refine zA ?_) | (refine ⟨fun c11=>?_,fun c11=>?_⟩ <;> (try simp [B_iff,B_not] at c11))
 | refine Qd (c:=.tmp 21) ?_;simp [-zg,-zd,↓Qb,↓Qa,go_sem];try first | (refine ⟨?_,?_⟩ <;> refine zA ?_) | (refine ⟨fun c21=>?_,fun c21=>?_⟩ <;> (try simp [B_iff,B_not] at c21))
 | refine Qd (c:=.tmp 39) ?_;simp [-zg,-zd,↓Qb,↓Qa,go_sem];try first | (refine ⟨?_,?_⟩ <;> refine zA ?_) | (refine ⟨fun c39=>?_,fun c39=>?_⟩ <;> (try simp [B_iff,B_not] at c39))
 | (refine Qe ?_)
 | (refine Qs ?_;simp [-zg,-zd,↓Qb,↓Qa,go_sem])
 | (refine Qr ?_;simp [-zg,-zd,↓Qb,↓Qa,go_sem])
 | (refine Qu ?_;simp [-zg,-zd,↓Qb,↓Qa,go_sem,Try.results216])
 | (intro hx;refine zA ?_)
 | (refine ⟨?_,?_⟩ <;> refine zA ?_)
 | (intro hx;constructor <;> intro hs)
 | (constructor <;> intro hs)
 | (refine ⟨?_,fun hs=>?_⟩;refine zA ?_)
 | (refine ⟨fun hs=>?_,?_⟩;rotate_left;refine zA ?_;rotate_left)))
  all_goals (first
 | (have e:k = 1:=(by omega);subst e;rw [valF_true];done)
 | (have e:k = 3:=(by omega);subst e;rw [valF_not hv];(first | done | (simp_all;done)))
 | (have e:k = 4:=(by omega);subst e;rw [valF_and hv];(first | done | (simp_all;done)))
 | (have e:k = 5:=(by omega);subst e;rw [valF_or hv];(first | done | (simp_all;done)))
 | (rw [valF_has (by omega) (by omega) (by omega) (by omega)])
 | skip)
  all_goals trace_state
theorem l7Value_pure (bs:List Tree) (s:Int) (k:Int) (v:Int) (ks:List Tree) (hv:Valu (.mk k v ks)):Pure Try.prog 216 [li cX bs,.int .i64 s,.st [.int .i64 k,.int .i64 v,li cX ks]] (.bool (valF bs s (.mk k v ks))):=zamk (tsz (.mk k v ks) + 1) bs s k v ks hv (by omega)
@[go_sem] def zaeq:Con:=.pure fun
  | [.list n_bs c_bs,.int .i64 s,.st [.int .i64 k,.int .i64 v,.list n_ks c_ks]]=>((Is cX n_bs c_bs) ∧ (Is cX n_ks c_ks) ∧ (Valu (.mk k v (de cX c_ks))),.bool (valF (de cX c_bs) s (.mk k v (de cX c_ks))))
  | _=>(False,.any)
theorem zaml:ConOk Try.prog 216 zaeq:=by
  refine ⟨Qp Try.func216 (by decide) rfl,fun args h=>?_⟩
  revert h
  dsimp only
  split
  · intro h
    obtain ⟨⟨bs,rfl,rfl⟩,⟨ks,rfl,rfl⟩,hv⟩:=h
    try simp only [Qm] at *
    exact ⟨l7Value_pure bs _ _ _ ks hv,by simp [go_sem]⟩
  · intro h
    exact h.elim
@[go_sem] def Γy17:FuncId → Con:=ext Γy16 216 zaeq
theorem Zw:∀ g,ConOk Try.prog g (Γy17 g):=Qo Γy16_ok zaml


@[go_sem] def Ws:Bool → D:=fun x=>.bool x
def zabc (bs:List Tree) (s:Int) (t:Int):Bool → Prop:=fun _=>True
def zabv (bs:List Tree) (s:Int) (t:Int) (c:Any):Bool:=sel (zabc bs s t) (true) c
theorem l7Follows_ret (bs:List Tree) (s:Int) (t:Int) {e_:Exit} {S_:St} (x:Bool) (he_:e_ = .ret ∨ e_ = .normal)
    (h1:(Qk Try.prog S_ Try.f219.results.toList).1 ∧ resD (Qk Try.prog S_ Try.f219.results.toList).2.1 = Ws x) (hg:zabc bs s t x) :
    retR Try.prog Try.f219 (fun c=>(Ws (zabv bs s t c),fun _=>none)) e_ S_:=Jd (enc:=Ws) x he_ h1 hg
theorem zahm (bs:List Tree) (s:Int) (t:Int) {e_:Exit} {S_:St} (he_:e_ = .ret ∨ e_ = .normal)
    (h:∃ x,(Qk Try.prog S_ Try.f219.results.toList).1 ∧ resD (Qk Try.prog S_ Try.f219.results.toList).2.1 = Ws x ∧ zabc bs s t x) :
    retR Try.prog Try.f219 (fun c=>(Ws (zabv bs s t c),fun _=>none)) e_ S_:=by
  obtain ⟨x,h1,h2,h3⟩:=h
  exact l7Follows_ret _ _ _ x he_ ⟨h1,h2⟩ h3
set_option maxHeartbeats 8000000 in
theorem l7Follows_pure (bs:List Tree) (s:Int) (t:Int) (hA:AllW bs):PureR Try.prog 219 [li cX bs,.int .i64 s,.int .i64 t] (fun c=>Ws (zabv bs s t c)):=by
  refine PureR.of_walk Try.func219 rfl (by simp [Try.f219]) (fun c=>by simp [-zd,go_sem]) fun B hK=>?_
  (repeat' (first
 | refine Qt ?_
 | refine Qc (id:=0) Zw [] (by kernel_rfl) ?_;simp [-zg,-zd,↓Qb,↓Qa,go_sem]
 | (refine Vl 0 rfl fun hm=>?_);refine Qc (id:=1) Zw [] (by kernel_rfl) ?_;simp [-zg,-zd,↓Qb,↓Qa,go_sem]
 | refine Qc (id:=2) Zw [] (by kernel_rfl) ?_;simp [-zg,-zd,↓Qb,↓Qa,go_sem]
 | ((obtain ⟨⟨uk,uv,us⟩,hu⟩:∃ u,nth bs i = u:=⟨_,rfl⟩);(have hw:WellF (.mk uk uv us):=(by rw [← hu];exact hA.at c14));(have hk1:=hw.ks1);(have hk2:=hw.ks2);(have w4:=hw.at.2.2.2));refine Qc (id:=4) Zw [] (by kernel_rfl) ?_;simp [-zg,-zd,↓Qb,↓Qa,go_sem,c14,Qj c14,zsP c14,hu];try ((refine Xa hK 8 ?_);(simp [go_sem]))
 | refine Qc (id:=5) Zw [] (by kernel_rfl) ?_;simp [-zg,-zd,↓Qb,↓Qa,go_sem]
 | refine Qc (id:=6) Zw [] (by kernel_rfl) ?_;simp [-zg,-zd,↓Qb,↓Qa,go_sem]
 | refine Qc (id:=7) Zw [] (by kernel_rfl) ?_;simp [-zg,-zd,↓Qb,↓Qa,go_sem]
 | refine Qc (id:=8) Zw [] (by kernel_rfl) ?_;simp [-zg,-zd,↓Qb,↓Qa,go_sem]
 | ((have ql:=hk1 (by omega));(have qk:0 < us.length:=(by omega));(have qw:=(w4 0 qk).valu));refine Qc (id:=9) Zw [] (by kernel_rfl) ?_;simp [-zg,-zd,↓Qb,↓Qa,go_sem,qk,Qj qk,zsP qk,Vn (f:=cX) qk,(show 3 ≤ us.length * 3 by omega),Tree.eta,qw]
 | refine Qc (id:=10) Zw [] (by kernel_rfl) ?_;simp [-zg,-zd,↓Qb,↓Qa,go_sem]
 | ((have ql:=hk2 (by omega) (by omega) (by omega) (by omega) (by omega) (by omega));(have qk:0 < us.length:=(by omega));(have qj:1 < us.length:=(by omega));(have qw:=(w4 0 qk).valu);(have qx:=(w4 1 qj).valu));refine Qc (id:=11) Zw [45,53] (by kernel_rfl) ?_;simp [-zg,-zd,↓Qb,↓Qa,go_sem,qk,Qj qk,zsP qk,qj,Vn (f:=cX) qk,(show 3 ≤ us.length * 3 by omega),(show (cat cX us).drop 3 = cat cX (us.drop 1) from Vh (f:=cX) (sz:=3) us 1),(show 3 ≤ us.length * 3 - 3 by omega),(show 3 ≤ (us.length - 1) * 3 by omega),(show (1:Int) < (us.length:Int) by omega),zsP qj,Tree.eta,qw,qx];try (refine ⟨fun s11a=>?_,fun s11a=>?_⟩ <;> (try simp [B_iff,B_not] at s11a) <;> try (refine ⟨fun s11b=>?_,fun s11b=>?_⟩ <;> (try simp [B_iff,B_not] at s11b) <;> try (refine ⟨fun s11c=>?_,fun s11c=>?_⟩ <;> (try simp [B_iff,B_not] at s11c))))
 | refine Qc (id:=12) Zw [] (by kernel_rfl) ?_;simp [-zg,-zd,↓Qb,↓Qa,go_sem]
 | ((have ql:=hk2 (by omega) (by omega) (by omega) (by omega) (by omega) (by omega));(have qk:0 < us.length:=(by omega));(have qj:1 < us.length:=(by omega));(have qw:=(w4 0 qk).valu);(have qx:=(w4 1 qj).valu));refine Qc (id:=13) Zw [68,76] (by kernel_rfl) ?_;simp [-zg,-zd,↓Qb,↓Qa,go_sem,qk,Qj qk,zsP qk,qj,Vn (f:=cX) qk,(show 3 ≤ us.length * 3 by omega),(show (cat cX us).drop 3 = cat cX (us.drop 1) from Vh (f:=cX) (sz:=3) us 1),(show 3 ≤ us.length * 3 - 3 by omega),(show 3 ≤ (us.length - 1) * 3 by omega),(show (1:Int) < (us.length:Int) by omega),zsP qj,Tree.eta,qw,qx];try (refine ⟨fun s13a=>?_,fun s13a=>?_⟩ <;> (try simp [B_iff,B_not] at s13a) <;> try (refine ⟨fun s13b=>?_,fun s13b=>?_⟩ <;> (try simp [B_iff,B_not] at s13b) <;> try (refine ⟨fun s13c=>?_,fun s13c=>?_⟩ <;> (try simp [B_iff,B_not] at s13c))))
 | refine Qc (id:=14) Zw [] (by kernel_rfl) ?_;simp [-zg,-zd,↓Qb,↓Qa,go_sem]
 | refine Qc (id:=15) Zw [] (by kernel_rfl) ?_;simp [-zg,-zd,↓Qb,↓Qa,go_sem]
 | refine Qc (id:=3) Zw [] (by kernel_rfl) ?_;simp [-zg,-zd,↓Qb,↓Qa,go_sem,wrapS (k:=i) (by omega)]
 | refine Qc (id:=16) Zw [] (by kernel_rfl) ?_;simp [-zg,-zd,↓Qb,↓Qa,go_sem]
 | refine Qd (c:=.tmp 14) ?_;simp [-zg,-zd,↓Qb,↓Qa,go_sem];try first | (refine ⟨?_,?_⟩ <;> refine zA ?_) | (refine ⟨fun c14=>?_,fun c14=>?_⟩ <;> (try simp [B_iff,B_not] at c14))
 | refine Qd (c:=.tmp 27) ?_;simp [-zg,-zd,↓Qb,↓Qa,go_sem];try first | (refine ⟨?_,?_⟩ <;> refine zA ?_) | (refine ⟨fun c27=>?_,fun c27=>?_⟩ <;> (try simp [B_iff,B_not] at c27))
 | refine Qd (c:=.tmp 36) ?_;simp [-zg,-zd,↓Qb,↓Qa,go_sem];try first | (refine ⟨?_,?_⟩ <;> refine zA ?_) | (refine ⟨fun c36=>?_,fun c36=>?_⟩ <;> (try simp [B_iff,B_not] at c36))
 | refine Qd (c:=.tmp 59) ?_;simp [-zg,-zd,↓Qb,↓Qa,go_sem];try first | (refine ⟨?_,?_⟩ <;> refine zA ?_) | (refine ⟨fun c59=>?_,fun c59=>?_⟩ <;> (try simp [B_iff,B_not] at c59))
 | refine Qd (c:=.tmp 84) ?_;simp [-zg,-zd,↓Qb,↓Qa,go_sem];try first | (refine ⟨?_,?_⟩ <;> refine zA ?_) | (refine ⟨fun c84=>?_,fun c84=>?_⟩ <;> (try simp [B_iff,B_not] at c84))
 | (refine Qe (id:=0) (Qy (ι:=Nat) (fun i:Nat=>⟨(upd (upd (upd (upd (fun _=>.any) 0 (li cX bs)) 1 (.int .i64 s)) 2 (.int .i64 t)) 7 (.int .i64 i)),fun _=>none⟩) (fun i=>i ≤ bs.length) (fun i=>bs.length - i) (0) ?_ ?_ ?_);exact Nat.zero_le _;((repeat' (first | exact Qg (by assumption) | exact Qi | refine Qf ?_ ?_ | refine Qh ?_)) <;> simp [-zg,-zd,↓Qb,↓Qa,go_sem]);rintro i hi)
 | (refine ⟨i + 1,by omega,by first | omega | (simp;done) | (simp;omega),?_⟩;((repeat' (first | exact Qg (by assumption) | exact Qi | refine Qf ?_ ?_ | refine Qh ?_)) <;> simp [-zg,-zd,↓Qb,↓Qa,go_sem]))
 | (refine Qe ?_)
 | (refine Qs ?_;simp [-zg,-zd,↓Qb,↓Qa,go_sem])
 | (refine Qr ?_;simp [-zg,-zd,↓Qb,↓Qa,go_sem])
 | (refine Qu ?_;try simp [-zg,-zd,↓Qb,↓Qa,go_sem,Try.results219])
 | (intro hx;refine zA ?_)
 | (intro hx;change retR _ _ _ _ _)
 | (refine ⟨?_,?_⟩ <;> refine zA ?_)
 | (intro hx;constructor <;> intro hs)
 | (constructor <;> intro hs)
 | (refine ⟨?_,fun hs=>?_⟩;refine zA ?_)
 | (refine ⟨fun hs=>?_,?_⟩;rotate_left;refine zA ?_;rotate_left)))
  all_goals (first
 | (refine zahm _ _ _ ?_ ?_;(first | exact Or.inl rfl | exact Or.inr rfl);(simp [-zg,-zd,↓Qb,↓Qa,go_sem,Try.results219,zabc]);((trivial);done))
 | (refine zahm _ _ _ ?_ ?_;(first | exact Or.inl rfl | exact Or.inr rfl);(simp [-zg,-zd,↓Qb,↓Qa,go_sem,Try.results219,zabc];done))
 | skip)
@[go_sem] def zamp:Con:=.prel fun
  | [.list n_bs c_bs,.int .i64 s,.int .i64 t]=>((Is cX n_bs c_bs) ∧ (AllW (de cX c_bs)),fun c=>Ws (zabv (de cX c_bs) s t c))
  | _=>(False,fun _=>.any)
theorem l7FollowsC_ok:ConOk Try.prog 219 zamp:=by
  refine ⟨Qp Try.func219 (by decide) rfl,fun args h=>?_⟩
  revert h
  dsimp only
  split
  · intro h
    obtain ⟨⟨bs,rfl,rfl⟩,hA⟩:=h
    try simp only [Qm] at *
    exact ⟨l7Follows_pure bs _ _ hA,fun c=>by simp [go_sem]⟩
  · intro h
    exact h.elim
@[go_sem] def Γy18:FuncId → Con:=ext Γy17 219 zamp
theorem Γy18_ok:∀ g,ConOk Try.prog g (Γy18 g):=Qo Zw l7FollowsC_ok

@[go_sem] def Wr:Bool → D:=fun x=>.bool x
def zabb (bs:List Tree) (s:Int) (u:Int):Bool → Prop:=fun _=>True
def zabu (bs:List Tree) (s:Int) (u:Int) (c:Any):Bool:=sel (zabb bs s u) (true) c
theorem l7Fulfils_ret (bs:List Tree) (s:Int) (u:Int) {e_:Exit} {S_:St} (x:Bool) (he_:e_ = .ret ∨ e_ = .normal)
    (h1:(Qk Try.prog S_ Try.f245.results.toList).1 ∧ resD (Qk Try.prog S_ Try.f245.results.toList).2.1 = Wr x) (hg:zabb bs s u x) :
    retR Try.prog Try.f245 (fun c=>(Wr (zabu bs s u c),fun _=>none)) e_ S_:=Jd (enc:=Wr) x he_ h1 hg
theorem zahl (bs:List Tree) (s:Int) (u:Int) {e_:Exit} {S_:St} (he_:e_ = .ret ∨ e_ = .normal)
    (h:∃ x,(Qk Try.prog S_ Try.f245.results.toList).1 ∧ resD (Qk Try.prog S_ Try.f245.results.toList).2.1 = Wr x ∧ zabb bs s u x) :
    retR Try.prog Try.f245 (fun c=>(Wr (zabu bs s u c),fun _=>none)) e_ S_:=by
  obtain ⟨x,h1,h2,h3⟩:=h
  exact l7Fulfils_ret _ _ _ x he_ ⟨h1,h2⟩ h3
set_option maxHeartbeats 8000000 in
theorem l7Fulfils_pure (bs:List Tree) (s:Int) (u:Int) (hA:AllW bs) (h0:0 ≤ u) (h1:u < bs.length) (hk:(nth bs u.toNat).k = 7):PureR Try.prog 245 [li cX bs,.int .i64 s,.int .i64 u] (fun c=>Wr (zabu bs s u c)):=by
  refine PureR.of_walk Try.func245 rfl (by simp [Try.f245]) (fun c=>by simp [-zd,go_sem]) fun B hK=>?_
  have hul:u.toNat < bs.length:=(by omega);obtain ⟨⟨uk,uv,us⟩,hu⟩:∃ x,nth bs u.toNat = x:=⟨_,rfl⟩;have hw:WellF (.mk uk uv us):=(by rw [← hu];exact hA.at hul);have hk7:uk = 7:=(by rw [hu] at hk;exact hk);have ql:=hw.ks2 (by omega) (by omega) (by omega) (by omega) (by omega) (by omega);have qj:1 < us.length:=(by omega);have qk:0 < us.length:=(by omega);have qx:=(hw.at.2.2.2 1 qj).valu
  all_goals (repeat' (first
 | refine Qt ?_
 | refine Qc (id:=0) Γy18_ok [] (by kernel_rfl) ?_;simp [-zg,-zd,↓Qb,↓Qa,go_sem]
 | refine Qc (id:=1) Γy18_ok [11] (by kernel_rfl) ?_;simp [-zg,-zd,↓Qb,↓Qa,go_sem,hul,Qj hul,zsP hul,h0,h1,hu,qk,Qj qk,zsP qk,qj,(show 3 ≤ us.length * 3 by omega),(show (cat cX us).drop 3 = cat cX (us.drop 1) from Vh (f:=cX) (sz:=3) us 1),(show 3 ≤ us.length * 3 - 3 by omega),(show 3 ≤ (us.length - 1) * 3 by omega),(show (1:Int) < (us.length:Int) by omega),zsP qj,Tree.eta,qx];try (refine ⟨fun s1a=>?_,fun s1a=>?_⟩ <;> (try simp [B_iff,B_not] at s1a) <;> try (refine ⟨fun s1b=>?_,fun s1b=>?_⟩ <;> (try simp [B_iff,B_not] at s1b)))
 | (refine Qe ?_)
 | (refine Qs ?_;simp [-zg,-zd,↓Qb,↓Qa,go_sem])
 | (refine Qr ?_;simp [-zg,-zd,↓Qb,↓Qa,go_sem])
 | (refine Qu ?_;try simp [-zg,-zd,↓Qb,↓Qa,go_sem,Try.results245])
 | (intro hx;refine zA ?_)
 | (intro hx;change retR _ _ _ _ _)
 | (refine ⟨?_,?_⟩ <;> refine zA ?_)
 | (intro hx;constructor <;> intro hs)
 | (constructor <;> intro hs)
 | (refine ⟨?_,fun hs=>?_⟩;refine zA ?_)
 | (refine ⟨fun hs=>?_,?_⟩;rotate_left;refine zA ?_;rotate_left)))
  all_goals (first
 | (refine zahl _ _ _ ?_ ?_;(first | exact Or.inl rfl | exact Or.inr rfl);(simp [-zg,-zd,↓Qb,↓Qa,go_sem,Try.results245,zabb]);((trivial);done))
 | (refine zahl _ _ _ ?_ ?_;(first | exact Or.inl rfl | exact Or.inr rfl);(simp [-zg,-zd,↓Qb,↓Qa,go_sem,Try.results245,zabb];done))
 | skip)
@[go_sem] def zamo:Con:=.prel fun
  | [.list n_bs c_bs,.int .i64 s,.int .i64 u]=>((Is cX n_bs c_bs) ∧ (AllW (de cX c_bs)) ∧ (0 ≤ u) ∧ (u < (de cX c_bs).length) ∧ ((nth (de cX c_bs) u.toNat).k = 7),fun c=>Wr (zabu (de cX c_bs) s u c))
  | _=>(False,fun _=>.any)
theorem l7FulfilsC_ok:ConOk Try.prog 245 zamo:=by
  refine ⟨Qp Try.func245 (by decide) rfl,fun args h=>?_⟩
  revert h
  dsimp only
  split
  · intro h
    obtain ⟨⟨bs,rfl,rfl⟩,hA,h0,h1,hk⟩:=h
    try simp only [Qm] at *
    exact ⟨l7Fulfils_pure bs _ _ hA h0 h1 hk,fun c=>by simp [go_sem]⟩
  · intro h
    exact h.elim
@[go_sem] def Γy19:FuncId → Con:=ext Γy18 245 zamo
theorem Vo:∀ g,ConOk Try.prog g (Γy19 g):=Qo Γy18_ok l7FulfilsC_ok

theorem bitsD_le (x y:Int):bitsD .or .i64 x y ≤ 9223372036854775807:=by
  show IntKind.i64.wrap _ ≤ _
  unfold IntKind.wrap;simp [IntKind.bits,IntKind.signed];split <;> omega

@[go_sem] def zabl:Int × Int → D:=fun x=>.tup [.int .i64 x.1,.int .i64 x.2]
def zaaz (bs:List Tree) (s:Int):Int × Int → Prop:=fun x=>x.2 ≤ 9223372036854775807
def zacu (bs:List Tree) (s:Int) (c:Any):Int × Int:=sel (zaaz bs s) ((0,0)) c
theorem l7Letter_ok (bs:List Tree) (s:Int) (hA:AllW bs) (c:Any):zaaz bs s (zacu bs s c):=Ji (p:=zaaz bs s) (x0:=(0,0)) (by simp [zaaz]) c
theorem l7Letter_ret (bs:List Tree) (s:Int) {e_:Exit} {S_:St} (x:Int × Int) (he_:e_ = .ret ∨ e_ = .normal)
    (h1:(Qk Try.prog S_ Try.f218.results.toList).1 ∧ resD (Qk Try.prog S_ Try.f218.results.toList).2.1 = zabl x) (hg:zaaz bs s x) :
    retR Try.prog Try.f218 (fun c=>(zabl (zacu bs s c),fun _=>none)) e_ S_:=Jd (enc:=zabl) x he_ h1 hg
set_option maxHeartbeats 8000000 in
theorem l7Letter_pure (bs:List Tree) (s:Int) (hA:AllW bs):PureR Try.prog 218 [li cX bs,.int .i64 s] (fun c=>zabl (zacu bs s c)):=by
  refine PureR.of_walk Try.func218 rfl (by simp [Try.f218]) (fun c=>by simp [-zd,go_sem]) fun B hK=>?_
  (repeat' (first
 | refine Qt ?_
 | refine Qc (id:=0) Vo [] (by kernel_rfl) ?_;simp [-zg,-zd,↓Qb,↓Qa,go_sem]
 | refine Qc (id:=1) Vo [] (by kernel_rfl) ?_;simp [-zg,-zd,↓Qb,↓Qa,go_sem]
 | refine Qc (id:=2) Vo [] (by kernel_rfl) ?_;simp [-zg,-zd,↓Qb,↓Qa,go_sem]
 | (refine Vl 0 rfl fun hm=>?_);refine Qc (id:=3) Vo [] (by kernel_rfl) ?_;simp [-zg,-zd,↓Qb,↓Qa,go_sem]
 | refine Qc (id:=4) Vo [] (by kernel_rfl) ?_;simp [-zg,-zd,↓Qb,↓Qa,go_sem]
 | ((obtain ⟨⟨uk,uv,us⟩,hu⟩:∃ u,nth bs q.1 = u:=⟨_,rfl⟩);(have hw:WellF (.mk uk uv us):=(by rw [← hu];exact hA.at c12));(have hv:=hw.at);(obtain ⟨v1,v2,v3,v4⟩:=hv));refine Qc (id:=6) Vo [] (by kernel_rfl) ?_;simp [-zg,-zd,↓Qb,↓Qa,go_sem,c12,Qj c12,zsP c12,hu]
 | refine Qc (id:=7) Vo [] (by kernel_rfl) ?_;simp [-zg,-zd,↓Qb,↓Qa,go_sem,c12,Qj c12,zsP c12,hu,wrapu_nn uv];try ((generalize bitsD BinOp.or IntKind.i64 q.2.1 (IntKind.i64.wrap (2 ^ min (IntKind.u64.wrap uv).toNat 64)) = cr at *))
 | refine Qc (id:=8) Vo [] (by kernel_rfl) ?_;simp [-zg,-zd,↓Qb,↓Qa,go_sem]
 | refine Qc (id:=9) Vo [] (by kernel_rfl) ?_;simp [-zg,-zd,↓Qb,↓Qa,go_sem,c12,Qj c12,zsP c12,hu,wrapu_nn uv];try ((have h9:=bitsD_le q.2.2 (IntKind.i64.wrap (2 ^ min (IntKind.u64.wrap uv).toNat 64)));(generalize bitsD BinOp.or IntKind.i64 q.2.2 (IntKind.i64.wrap (2 ^ min (IntKind.u64.wrap uv).toNat 64)) = vr at *))
 | refine Qc (id:=5) Vo [] (by kernel_rfl) ?_;simp [-zg,-zd,↓Qb,↓Qa,go_sem,wrapS (k:=q.1) (by omega)]
 | refine Qc (id:=10) Vo [] (by kernel_rfl) ?_;simp [-zg,-zd,↓Qb,↓Qa,go_sem]
 | refine Qd (c:=.tmp 12) ?_;simp [-zg,-zd,↓Qb,↓Qa,go_sem];try first | (refine ⟨?_,?_⟩ <;> refine zA ?_) | (refine ⟨fun c12=>?_,fun c12=>?_⟩ <;> (try simp [B_iff,B_not] at c12))
 | refine Qd (c:=.tmp 20) ?_;simp [-zg,-zd,↓Qb,↓Qa,go_sem];try first | (refine ⟨?_,?_⟩ <;> refine zA ?_) | (refine ⟨fun c20=>?_,fun c20=>?_⟩ <;> (try simp [B_iff,B_not] at c20))
 | refine Qd (c:=.tmp 32) ?_;simp [-zg,-zd,↓Qb,↓Qa,go_sem];try first | (refine ⟨?_,?_⟩ <;> refine zA ?_) | (refine ⟨fun c32=>?_,fun c32=>?_⟩ <;> (try simp [B_iff,B_not] at c32))
 | (refine Qe (id:=0) (Qy (ι:=Nat × Int × Int) (fun q:Nat × Int × Int=>⟨(upd (upd (upd (upd (upd (fun _=>.any) 0 (li cX bs)) 1 (.int .i64 s)) 6 (.int .i64 q.2.1)) 7 (.int .i64 q.2.2)) 8 (.int .i64 q.1)),fun _=>none⟩) (fun q=>q.1 ≤ bs.length ∧ q.2.2 ≤ 9223372036854775807) (fun q=>bs.length - q.1) ((0,0,0)) ?_ ?_ ?_);exact ⟨Nat.zero_le _,by dsimp only;omega⟩;((repeat' (first | exact Qg (by assumption) | exact Qi | refine Qf ?_ ?_ | refine Qh ?_)) <;> simp [-zg,-zd,↓Qb,↓Qa,go_sem]);rintro q ⟨g1,g2⟩)
 | (refine ⟨(q.1 + 1,cr,vr),⟨by dsimp only;omega,h9⟩,by first | omega | (simp;done) | (simp;omega),?_⟩;((repeat' (first | exact Qg (by assumption) | exact Qi | refine Qf ?_ ?_ | refine Qh ?_)) <;> simp [-zg,-zd,↓Qb,↓Qa,go_sem]))
 | (refine Qe ?_)
 | (refine Qs ?_;simp [-zg,-zd,↓Qb,↓Qa,go_sem])
 | (refine Qr ?_;simp [-zg,-zd,↓Qb,↓Qa,go_sem])
 | (refine Qu ?_;try simp [-zg,-zd,↓Qb,↓Qa,go_sem,Try.results218])
 | (intro hx;refine zA ?_)
 | (intro hx;change retR _ _ _ _ _)
 | (refine ⟨?_,?_⟩ <;> refine zA ?_)
 | (intro hx;constructor <;> intro hs)
 | (constructor <;> intro hs)
 | (refine ⟨?_,fun hs=>?_⟩;refine zA ?_)
 | (refine ⟨fun hs=>?_,?_⟩;rotate_left;refine zA ?_;rotate_left)
 | ((fail_if_success change retR _ _ _ _ _);(refine ⟨(q.1 + 1,cr,q.2.2),⟨by dsimp only;omega,g2⟩,by dsimp only;omega,?_⟩;((repeat' (first | exact Qg (by assumption) | exact Qi | refine Qf ?_ ?_ | refine Qh ?_)) <;> simp [-zg,-zd,go_sem]);done))
 | ((fail_if_success change retR _ _ _ _ _);(refine ⟨(q.1 + 1,q.2.1,q.2.2),⟨by dsimp only;omega,g2⟩,by dsimp only;omega,?_⟩;((repeat' (first | exact Qg (by assumption) | exact Qi | refine Qf ?_ ?_ | refine Qh ?_)) <;> simp [-zg,-zd,go_sem]);done))))
  all_goals (first
 | (refine l7Letter_ret _ _ ((q.2.1,q.2.2)) ?_ ?_ ?_;(first | exact Or.inl rfl | exact Or.inr rfl);(focus (simp [-zg,-zd,↓Qb,↓Qa,go_sem,Try.results218];done));(focus ((exact g2);done)))
 | skip)
@[go_sem] def l7LetterC:Con:=.prel fun
  | [.list n_bs c_bs,.int .i64 s]=>((Is cX n_bs c_bs) ∧ (AllW (de cX c_bs)),fun c=>zabl (zacu (de cX c_bs) s c))
  | _=>(False,fun _=>.any)
theorem l7LetterC_ok:ConOk Try.prog 218 l7LetterC:=by
  refine ⟨Qp Try.func218 (by decide) rfl,fun args h=>?_⟩
  revert h
  dsimp only
  split
  · intro h
    obtain ⟨⟨bs,rfl,rfl⟩,hA⟩:=h
    try simp only [Qm] at *
    exact ⟨l7Letter_pure bs _ hA,fun c=>by simp [go_sem]⟩
  · intro h
    exact h.elim
@[go_sem] def Γy20:FuncId → Con:=ext Γy19 218 l7LetterC
theorem Uz:∀ g,ConOk Try.prog g (Γy20 g):=Qo Vo l7LetterC_ok

def UntOk (bs:List Tree) (us:List Int):Prop:=us.length ≤ bs.length ∧ ∀ u,u ∈ us → 0 ≤ u ∧ u < bs.length ∧ (nth bs u.toNat).k = 7
theorem UntOk.nil (bs:List Tree):UntOk bs []:=⟨by simp,fun u h=>nomatch h⟩
def UntK (bs:List Tree) (us:List Int) (k:Nat):Prop:=us.length ≤ k ∧ ∀ u,u ∈ us → 0 ≤ u ∧ u < bs.length ∧ (nth bs u.toNat).k = 7
theorem UntK.snoc {bs:List Tree} {us:List Int} {k:Nat} (h:UntK bs us k) (hk:k < bs.length) (e:(nth bs k).k = 7):UntK bs (us ++ [(k:Int)]) (k + 1):=by
  refine ⟨by have:=h.1;simp;omega,fun u hu=>?_⟩
  rcases List.mem_append.1 hu with q | q
  · exact h.2 u q
  · have:u = (k:Int):=by simpa using q
    subst this
    exact ⟨by omega,by omega,by rw [Int.toNat_natCast];exact e⟩
theorem UntK.skip {bs:List Tree} {us:List Int} {k:Nat} (h:UntK bs us k):UntK bs us (k + 1):=⟨by have:=h.1;omega,h.2⟩

@[go_sem] def zabk:List Int → D:=fun x=>fr 1 cI x
def zabs (bs:List Tree):List Int → Prop:=fun x=>UntOk bs x
def zacs (bs:List Tree) (c:Any):List Int:=sel (zabs bs) ([]) c
theorem l7Untils_ok (bs:List Tree) (hl:bs.length ≤ 1000) (c:Any):zabs bs (zacs bs c):=Ji (p:=zabs bs) (x0:=[]) (UntOk.nil bs) c
theorem l7Untils_ret (bs:List Tree) {e_:Exit} {S_:St} (x:List Int) (he_:e_ = .ret ∨ e_ = .normal)
    (h1:(Qk Try.prog S_ Try.f215.results.toList).1 ∧ resD (Qk Try.prog S_ Try.f215.results.toList).2.1 = zabk x) (hg:zabs bs x) :
    retR Try.prog Try.f215 (fun c=>(zabk (zacs bs c),fun _=>none)) e_ S_:=Jd (enc:=zabk) x he_ h1 hg
set_option maxHeartbeats 8000000 in
theorem l7Untils_pure (bs:List Tree) (hl:bs.length ≤ 1000):PureR Try.prog 215 [li cX bs] (fun c=>zabk (zacs bs c)):=by
  refine PureR.of_walk Try.func215 rfl (by simp [Try.f215]) (fun c=>by simp [-zd,go_sem]) fun B hK=>?_
  (repeat' (first
 | refine Qt ?_
 | refine Qc (id:=0) Uz [] (by kernel_rfl) ?_;simp [-zg,-zd,↓Qb,↓Qa,go_sem]
 | refine Qc (id:=1) Uz [] (by kernel_rfl) ?_;simp [-zg,-zd,↓Qb,↓Qa,go_sem]
 | refine Qc (id:=2) Uz [] (by kernel_rfl) ?_;simp [-zg,-zd,↓Qb,↓Qa,go_sem]
 | refine Qc (id:=3) Uz [] (by kernel_rfl) ?_;simp [-zg,-zd,↓Qb,↓Qa,go_sem]
 | ((have g3:=g2.1);(obtain ⟨⟨uk,uv,us⟩,hu⟩:∃ u,nth bs q.1 = u:=⟨_,rfl⟩));refine Qc (id:=5) Uz [] (by kernel_rfl) ?_;simp [-zg,-zd,↓Qb,↓Qa,go_sem,c9,Qj c9,zsP c9,hu]
 | refine Qc (id:=6) Uz [] (by kernel_rfl) ?_;simp [-zg,-zd,↓Qb,↓Qa,go_sem,(show q.2.length ≤ 9223372036854775806 by omega),(show 2 * (q.2.length + 1) * 8 ≤ 281474976710656 by omega),Xv];try ((have o4:=g2.snoc c9 (by rw [hu];simp only [Tree.k];omega));(have o3:(q.2 ++ [(q.1:Int)]).length = q.2.length + 1:=(by simp));(rw [← o3]);(generalize q.2 ++ [(q.1:Int)] = o2 at *))
 | refine Qc (id:=4) Uz [] (by kernel_rfl) ?_;simp [-zg,-zd,↓Qb,↓Qa,go_sem,wrapS (k:=q.1) (by omega)]
 | refine Qc (id:=7) Uz [] (by kernel_rfl) ?_;simp [-zg,-zd,↓Qb,↓Qa,go_sem]
 | refine Qd (c:=.tmp 9) ?_;simp [-zg,-zd,↓Qb,↓Qa,go_sem];try first | (refine ⟨?_,?_⟩ <;> refine zA ?_) | (refine ⟨fun c9=>?_,fun c9=>?_⟩ <;> (try simp [B_iff,B_not] at c9))
 | refine Qd (c:=.tmp 17) ?_;simp [-zg,-zd,↓Qb,↓Qa,go_sem];try first | (refine ⟨?_,?_⟩ <;> refine zA ?_) | (refine ⟨fun c17=>?_,fun c17=>?_⟩ <;> (try simp [B_iff,B_not] at c17))
 | (refine Qe (id:=0) (Qy (ι:=Nat × List Int) (fun q:Nat × List Int=>⟨(upd (upd (upd (fun _=>.any) 0 (li cX bs)) 3 (.fr 1 q.2.length (cat cI q.2))) 4 (.int .i64 q.1)),fun _=>none⟩) (fun q=>q.1 ≤ bs.length ∧ UntK bs q.2 q.1) (fun q=>bs.length - q.1) ((0,[])) ?_ ?_ ?_);exact ⟨Nat.zero_le _,Nat.le_refl _,fun u h=>nomatch h⟩;((repeat' (first | exact Qg (by assumption) | exact Qi | refine Qf ?_ ?_ | refine Qh ?_)) <;> simp [-zg,-zd,↓Qb,↓Qa,go_sem,List.length_nil,Xs]);rintro q ⟨g1,g2⟩)
 | (refine ⟨(q.1 + 1,o2),⟨by dsimp only;omega,o4⟩,by first | omega | (simp;done) | (simp;omega),?_⟩;((repeat' (first | exact Qg (by assumption) | exact Qi | refine Qf ?_ ?_ | refine Qh ?_)) <;> simp [-zg,-zd,↓Qb,↓Qa,go_sem,List.length_nil,Xs]))
 | (refine Qe ?_)
 | (refine Qs ?_;simp [-zg,-zd,↓Qb,↓Qa,go_sem])
 | (refine Qr ?_;simp [-zg,-zd,↓Qb,↓Qa,go_sem])
 | (refine Qu ?_;try simp [-zg,-zd,↓Qb,↓Qa,go_sem,Try.results215])
 | (intro hx;refine zA ?_)
 | (intro hx;change retR _ _ _ _ _)
 | (refine ⟨?_,?_⟩ <;> refine zA ?_)
 | (intro hx;constructor <;> intro hs)
 | (constructor <;> intro hs)
 | (refine ⟨?_,fun hs=>?_⟩;refine zA ?_)
 | (refine ⟨fun hs=>?_,?_⟩;rotate_left;refine zA ?_;rotate_left)
 | ((fail_if_success change retR _ _ _ _ _);(refine ⟨(q.1 + 1,q.2),⟨by dsimp only;omega,g2.skip⟩,by dsimp only;omega,?_⟩;((repeat' (first | exact Qg (by assumption) | exact Qi | refine Qf ?_ ?_ | refine Qh ?_)) <;> simp [-zg,-zd,go_sem]);done))))
  all_goals (first
 | (refine l7Untils_ret _ (q.2) ?_ ?_ ?_;(first | exact Or.inl rfl | exact Or.inr rfl);(focus (simp [-zg,-zd,↓Qb,↓Qa,go_sem,Try.results215,li,fr];done));(focus (((show UntOk bs q.2);exact ⟨by have:=g2.1;omega,g2.2⟩);done)))
 | skip)
@[go_sem] def l7UntilsC:Con:=.prel fun
  | [.list n_bs c_bs]=>((Is cX n_bs c_bs) ∧ ((de cX c_bs).length ≤ 1000),fun c=>zabk (zacs (de cX c_bs) c))
  | _=>(False,fun _=>.any)
theorem l7UntilsC_ok:ConOk Try.prog 215 l7UntilsC:=by
  refine ⟨Qp Try.func215 (by decide) rfl,fun args h=>?_⟩
  revert h
  dsimp only
  split
  · intro h
    obtain ⟨⟨bs,rfl,rfl⟩,hl⟩:=h
    try simp only [Qm] at *
    exact ⟨l7Untils_pure bs hl,fun c=>by simp [go_sem]⟩
  · intro h
    exact h.elim
@[go_sem] def Γy21:FuncId → Con:=ext Γy20 215 l7UntilsC
theorem zafz:∀ g,ConOk Try.prog g (Γy21 g):=Qo Uz l7UntilsC_ok

def PhOk (us:List Int) (ph:Int):Prop:=0 ≤ ph ∧ ph ≤ 1000 ∧ (us.length = 0 ∨ ph < us.length)
theorem PhOk.zero (us:List Int):PhOk us 0:=⟨by omega,by omega,by omega⟩
theorem PhOk.next {us:List Int} {ph:Int} (h:PhOk us ph) (hl:us.length ≤ 1000) (hn:¬ us.length = 0):PhOk us ((ph + 1).tmod us.length):=by
  obtain ⟨h1,h2,h3⟩:=h
  have a:=Int.tmod_nonneg (a:=ph + 1) (us.length:Int) (by omega)
  have b:=Int.tmod_lt_of_pos (ph + 1) (b:=(us.length:Int)) (by omega)
  exact ⟨a,by omega,.inr b⟩

@[go_sem] def zaci:Int × Bool → D:=fun x=>.tup [.int .i64 x.1,.bool x.2]
def zact (bs:List Tree) (us:List Int) (s:Int) (ph:Int):Int × Bool → Prop:=fun x=>PhOk us x.1
def zadn (bs:List Tree) (us:List Int) (s:Int) (ph:Int) (c:Any):Int × Bool:=sel (zact bs us s ph) ((0,true)) c
theorem l7Phase_ok (bs:List Tree) (us:List Int) (s:Int) (ph:Int) (hA:AllW bs) (hU:UntOk bs us) (hp:PhOk us ph) (hl:us.length ≤ 1000) (c:Any):zact bs us s ph (zadn bs us s ph c):=Ji (p:=zact bs us s ph) (x0:=(0,true)) (PhOk.zero us) c
theorem zair (bs:List Tree) (us:List Int) (s:Int) (ph:Int) {e_:Exit} {S_:St} (x:Int × Bool) (he_:e_ = .ret ∨ e_ = .normal)
    (h1:(Qk Try.prog S_ Try.f217.results.toList).1 ∧ resD (Qk Try.prog S_ Try.f217.results.toList).2.1 = zaci x) (hg:zact bs us s ph x) :
    retR Try.prog Try.f217 (fun c=>(zaci (zadn bs us s ph c),fun _=>none)) e_ S_:=Jd (enc:=zaci) x he_ h1 hg
set_option maxHeartbeats 8000000 in
theorem l7Phase_pure (bs:List Tree) (us:List Int) (s:Int) (ph:Int) (hA:AllW bs) (hU:UntOk bs us) (hp:PhOk us ph) (hl:us.length ≤ 1000):PureR Try.prog 217 [li cX bs,li cI us,.int .i64 s,.int .i64 ph] (fun c=>zaci (zadn bs us s ph c)):=by
  refine PureR.of_walk Try.func217 rfl (by simp [Try.f217]) (fun c=>by simp [-zd,go_sem]) fun B hK=>?_
  obtain ⟨p1,p2,p3⟩:=id hp
  all_goals (repeat' (first
 | refine Qt ?_
 | refine Qc (id:=0) zafz [] (by kernel_rfl) ?_;simp [-zg,-zd,↓Qb,↓Qa,go_sem]
 | refine Qc (id:=1) zafz [] (by kernel_rfl) ?_;simp [-zg,-zd,↓Qb,↓Qa,go_sem]
 | refine Qc (id:=2) zafz [] (by kernel_rfl) ?_;simp [-zg,-zd,↓Qb,↓Qa,go_sem]
 | ((have hn:¬ us.length = 0:=(fun h=>c12 (List.length_eq_zero_iff.1 h)));(have hpl:ph.toNat < us.length:=(by omega));(obtain ⟨u0,u1,u2⟩:=hU.2 (nth us ph.toNat) (Xe hpl)));refine Qc (id:=3) zafz [] (by kernel_rfl) ?_;simp [-zg,-zd,↓Qb,↓Qa,go_sem,hpl,Qj hpl,zsP hpl,p1,(show ph < (us.length:Int) by omega),hA,u0,u1,u2];try ((intro c3);(generalize zabu bs s (nth us ph.toNat) c3 = zf at *))
 | refine Qc (id:=4) zafz [] (by kernel_rfl) ?_;simp [-zg,-zd,↓Qb,↓Qa,go_sem,Qv (x:=ph + 1) (by omega) (by omega),hn,(show ¬ us = [] by rintro rfl;simp at hn)]
 | refine Qc (id:=5) zafz [] (by kernel_rfl) ?_;simp [-zg,-zd,↓Qb,↓Qa,go_sem]
 | refine Qd (c:=.tmp 12) ?_;simp [-zg,-zd,↓Qb,↓Qa,go_sem];try first | (refine ⟨?_,?_⟩ <;> refine zA ?_) | (refine ⟨fun c12=>?_,fun c12=>?_⟩ <;> (try simp [B_iff,B_not] at c12))
 | refine Qd (c:=.tmp 19) ?_;simp [-zg,-zd,↓Qb,↓Qa,go_sem];try first | (refine ⟨?_,?_⟩ <;> refine zA ?_) | (refine ⟨fun c19=>?_,fun c19=>?_⟩ <;> (try simp [B_iff,B_not] at c19))
 | (refine Qe ?_)
 | (refine Qs ?_;simp [-zg,-zd,↓Qb,↓Qa,go_sem])
 | (refine Qr ?_;simp [-zg,-zd,↓Qb,↓Qa,go_sem])
 | (refine Qu ?_;try simp [-zg,-zd,↓Qb,↓Qa,go_sem,Try.results217])
 | (intro hx;refine zA ?_)
 | (intro hx;change retR _ _ _ _ _)
 | (refine ⟨?_,?_⟩ <;> refine zA ?_)
 | (intro hx;constructor <;> intro hs)
 | (constructor <;> intro hs)
 | (refine ⟨?_,fun hs=>?_⟩;refine zA ?_)
 | (refine ⟨fun hs=>?_,?_⟩;rotate_left;refine zA ?_;rotate_left)))
  all_goals (first
 | (refine zair _ _ _ _ ((0,true)) ?_ ?_ ?_;(first | exact Or.inl rfl | exact Or.inr rfl);(focus (simp [-zg,-zd,↓Qb,↓Qa,go_sem,Try.results217];done));(focus ((exact PhOk.zero us);done)))
 | (refine zair _ _ _ _ (((ph + 1).tmod us.length,decide (ph = 0))) ?_ ?_ ?_;(first | exact Or.inl rfl | exact Or.inr rfl);(focus (simp [-zg,-zd,↓Qb,↓Qa,go_sem,Try.results217];done));(focus ((exact hp.next hl hn);done)))
 | (refine zair _ _ _ _ ((ph,false)) ?_ ?_ ?_;(first | exact Or.inl rfl | exact Or.inr rfl);(focus (simp [-zg,-zd,↓Qb,↓Qa,go_sem,Try.results217];done));(focus ((exact hp);done)))
 | skip)
@[go_sem] def l7PhaseC:Con:=.prel fun
  | [.list n_bs c_bs,.list n_us c_us,.int .i64 s,.int .i64 ph]=>((Is cX n_bs c_bs) ∧ (Is cI n_us c_us) ∧ (AllW (de cX c_bs)) ∧ (UntOk (de cX c_bs) (de cI c_us)) ∧ (PhOk (de cI c_us) ph) ∧ ((de cI c_us).length ≤ 1000),fun c=>zaci (zadn (de cX c_bs) (de cI c_us) s ph c))
  | _=>(False,fun _=>.any)
theorem l7PhaseC_ok:ConOk Try.prog 217 l7PhaseC:=by
  refine ⟨Qp Try.func217 (by decide) rfl,fun args h=>?_⟩
  revert h
  dsimp only
  split
  · intro h
    obtain ⟨⟨bs,rfl,rfl⟩,⟨us,rfl,rfl⟩,hA,hU,hp,hl⟩:=h
    try simp only [Qm] at *
    exact ⟨l7Phase_pure bs us _ _ hA hU hp hl,fun c=>by simp [go_sem]⟩
  · intro h
    exact h.elim
@[go_sem] def Γy22:FuncId → Con:=ext Γy21 217 l7PhaseC
theorem Γy22_ok:∀ g,ConOk Try.prog g (Γy22 g):=Qo zafz l7PhaseC_ok

@[go_sem] def Γy22x:FuncId → Con:=ext Γy22 115 zadz
theorem Wx:∀ g,ConOk Try.prog g (Γy22x g):=Qo Γy22_ok zafy

@[go_sem] def zacj:List (List Int) × Int → D:=fun x=>.tup [.fr 1 x.1.length (cat cL x.1),.int .i64 x.2]
def zado (xs:List (List Int)) (pr:List Int):List (List Int) × Int → Prop:=fun x=>(x.1 = xs ∨ x.1 = xs ++ [pr])
def zaes (xs:List (List Int)) (pr:List Int) (c:Any):List (List Int) × Int:=sel (zado xs pr) ((xs,0)) c
theorem l7Pair_ok (xs:List (List Int)) (pr:List Int) (hn:xs.length ≤ 100000) (c:Any):zado xs pr (zaes xs pr c):=Ji (p:=zado xs pr) (x0:=(xs,0)) (.inl rfl) c
theorem l7Pair_ret (xs:List (List Int)) (pr:List Int) {e_:Exit} {S_:St} (x:List (List Int) × Int) (he_:e_ = .ret ∨ e_ = .normal)
    (h1:(Qk Try.prog S_ Try.f86.results.toList).1 ∧ resD (Qk Try.prog S_ Try.f86.results.toList).2.1 = zacj x) (hg:zado xs pr x) :
    retR Try.prog Try.f86 (fun c=>(zacj (zaes xs pr c),fun _=>none)) e_ S_:=Jd (enc:=zacj) x he_ h1 hg
set_option maxHeartbeats 8000000 in
theorem l7Pair_pure (xs:List (List Int)) (pr:List Int) (hn:xs.length ≤ 100000):SpecR Try.prog 86 [fr 1 cL xs,fr 1 cI pr] (fun _=>none) (fun c=>(zacj (zaes xs pr c),fun _=>none)):=by
  refine SpecR.of_walk Try.func86 rfl (by simp [Try.f86]) fun B=>?_
  (repeat' (first
 | refine Qt ?_
 | ((refine Zr 1 ?_);(simp only [go_sem,dat,Xm,Jv]);(refine Xk 0 rfl fun nb cp j hnb hcp hcj=>?_);(simp only [go_sem] at hnb ⊢);(clear hnb);(have e0:=Xt (f:=cL) xs (List.replicate j D.any)));refine Qc (id:=0) Wx [] (by kernel_rfl) ?_;simp [-zg,-zd,↓Qb,↓Qa,go_sem]
 | refine Qc (id:=1) Wx [] (by kernel_rfl) ?_;simp [-zg,-zd,↓Qb,↓Qa,go_sem]
 | refine Qc (id:=2) Wx [] (by kernel_rfl) ?_;simp [-zg,-zd,↓Qb,↓Qa,go_sem]
 | refine Qc (id:=4) Wx [] (by kernel_rfl) ?_;simp [-zg,-zd,↓Qb,↓Qa,go_sem,c10,Qj c10,zsP c10,(show i < xs.length + j by omega)]
 | ((refine Je 0 (b:=nb) (all:=cat cL xs ++ List.replicate j D.any) rfl (by simp [upd]) (by omega) (by simp [Qz]) (by simp [Qz];omega) ?_));refine Qc (id:=5) Wx [] (by kernel_rfl) ?_;simp [-zg,-zd,↓Qb,↓Qa,go_sem]
 | refine Qc (id:=3) Wx [] (by kernel_rfl) ?_;simp [-zg,-zd,↓Qb,↓Qa,go_sem,wrapS (k:=i) (by omega)]
 | refine Qc (id:=6) Wx [] (by kernel_rfl) ?_;simp [-zg,-zd,↓Qb,↓Qa,go_sem,(show xs.length ≤ 9223372036854775806 by omega),(show 2 * (xs.length + 1) * 24 ≤ 281474976710656 by omega),(show cp ≤ xs.length + j by omega),hcj,(show xs.length ≤ xs.length + j by omega)]
 | refine Qd (c:=.tmp 10) ?_;simp [-zg,-zd,↓Qb,↓Qa,go_sem];try first | (refine ⟨?_,?_⟩ <;> refine zA ?_) | (refine ⟨fun c10=>?_,fun c10=>?_⟩ <;> (try simp [B_iff,B_not] at c10))
 | refine Qd (c:=.tmp 18) ?_;simp [-zg,-zd,↓Qb,↓Qa,go_sem];try first | (refine ⟨?_,?_⟩ <;> refine zA ?_) | (refine ⟨fun c18=>?_,fun c18=>?_⟩ <;> (try simp [B_iff,B_not] at c18))
 | (refine Qe (id:=0) (Qy (ι:=Nat) (fun i:Nat=>⟨(upd (upd (upd (fun _=>.any) 0 (.sl nb 1 0 xs.length cp)) 1 (.list pr.length (cat cI pr))) 6 (.int .i64 i)),upd (fun _=>none) nb (some (cat cL xs ++ List.replicate j D.any))⟩) (fun i=>i ≤ xs.length) (fun i=>xs.length - i) (0) ?_ ?_ ?_);exact Nat.zero_le _;((repeat' (first | exact Qg (by assumption) | exact Qi | refine Qf ?_ ?_ | refine Qh ?_)) <;> simp [-zg,-zd,↓Qb,↓Qa,go_sem]);rintro i hi)
 | (refine ⟨i + 1,by omega,by first | omega | (simp;done) | (simp;omega),?_⟩;((repeat' (first | exact Qg (by assumption) | exact Qi | refine Qf ?_ ?_ | refine Qh ?_)) <;> simp [-zg,-zd,↓Qb,↓Qa,go_sem]))
 | (refine Qe ?_)
 | (refine Qs ?_;simp [-zg,-zd,↓Qb,↓Qa,go_sem])
 | (refine Qr ?_;simp [-zg,-zd,↓Qb,↓Qa,go_sem])
 | (refine Qu ?_;try simp [-zg,-zd,↓Qb,↓Qa,go_sem,Try.results86])
 | (intro hx;refine zA ?_)
 | (intro hx;change retR _ _ _ _ _)
 | (refine ⟨?_,?_⟩ <;> refine zA ?_)
 | (intro hx;constructor <;> intro hs)
 | (constructor <;> intro hs)
 | (refine ⟨?_,fun hs=>?_⟩;refine zA ?_)
 | (refine ⟨fun hs=>?_,?_⟩;rotate_left;refine zA ?_;rotate_left)))
  all_goals (first
 | (refine l7Pair_ret _ _ ((xs,(i:Int))) ?_ ?_ ?_;(first | exact Or.inl rfl | exact Or.inr rfl);(focus (simp [-zg,-zd,↓Qb,↓Qa,go_sem,Try.results86,Xt];done));(focus ((exact .inl rfl);done)))
 | (refine l7Pair_ret _ _ ((xs ++ [pr],(xs.length:Int))) ?_ ?_ ?_;(first | exact Or.inl rfl | exact Or.inr rfl);(focus (simp [-zg,-zd,↓Qb,↓Qa,go_sem,Try.results86,Jk,Zz,li,cL];done));(focus ((exact .inr rfl);done)))
 | skip)
@[go_sem] def l7PairC:Con:=.rel fun args H=>match args with
  | [.fr 1 n_xs c_xs,.fr 1 n_pr c_pr]=>((Is cL n_xs c_xs) ∧ (Is cI n_pr c_pr) ∧ ((de cL c_xs).length ≤ 100000),fun c=>(zacj (zaes (de cL c_xs) (de cI c_pr) c),H))
  | _=>(False,fun _=>(.any,H))
theorem l7PairC_ok:ConOk Try.prog 86 l7PairC:=by
  refine ⟨Qp Try.func86 (by decide) rfl,fun args H h=>?_⟩
  revert h
  dsimp only
  split
  · intro h
    obtain ⟨⟨xs,rfl,rfl⟩,⟨pr,rfl,rfl⟩,hn⟩:=h
    try simp only [Qm] at *
    exact (SpecR.frame0 (l7Pair_pure xs pr hn) (H:=H))
  · intro h
    exact h.elim
@[go_sem] def Γy23:FuncId → Con:=ext Γy22x 86 l7PairC
theorem Xh:∀ g,ConOk Try.prog g (Γy23 g):=Qo Wx l7PairC_ok

end
end Go.Proofs.Ytkjimmkemnmajaa.Vm

