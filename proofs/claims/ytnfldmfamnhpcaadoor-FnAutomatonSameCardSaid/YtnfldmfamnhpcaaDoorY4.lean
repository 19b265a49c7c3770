import Derived.Test.YtnfldmfamnhpcaaDoorY2
/-
  Formulas: normal forms, subformulas, basic formulas; their values. No conditions.
-/
namespace Go.Proofs.YtnfldmfamnhpcaaDoor.Vm
open Go
open Nat renaming sub_pos_of_lt → zsP
open List renaming getD_eq_getElem?_getD → zg,drop_one → zd
noncomputable section
set_option linter.unusedVariables false
set_option linter.unusedSimpArgs false
set_option maxRecDepth 200000

@[go_sem] def Vf:Tree × Bool → D:=fun x=>.tup [sX x.1,.bool x.2]
theorem zakd (x:Tree × Bool):dat (Vf x) = Vf x:=by simp [go_sem]
def Ve (k:Int) (v:Int) (ks:List Tree):Tree × Bool → Prop:=fun x=>(x.2 = true → ForOk x.1) ∧ (x.1.k = 0 ∨ WellF x.1)
def zact (k:Int) (v:Int) (ks:List Tree) (x:(Tree × Bool) × D):Prop:=Ve k v ks x.1 ∧ dat x.2 = Vf x.1
def zabn (k:Int) (v:Int) (ks:List Tree) (c:Any):(Tree × Bool) × D:=sel (zact k v ks) (((.mk 0 0 [],false):Tree × Bool),Vf ((.mk 0 0 [],false))) c
def zabx (k:Int) (v:Int) (ks:List Tree) (c:Any):Tree × Bool:=(zabn k v ks c).1
theorem zaga (k:Int) (v:Int) (ks:List Tree)  (c:Any):zact k v ks (zabn k v ks c):=by
  have hx:Ve k v ks ((.mk 0 0 [],false)):=by simp [Ve,Tree.k]
  exact Zd (p:=zact k v ks) (x0:=(((.mk 0 0 [],false):Tree × Bool),Vf ((.mk 0 0 [],false)))) ⟨hx,zakd _⟩ c
theorem zaha (k:Int) (v:Int) (ks:List Tree)  (c:Any):Ve k v ks (zabx k v ks c):=(zaga k v ks  c).1
theorem zafz (k:Int) (v:Int) (ks:List Tree) {e_:Exit} {S_:St} (x:Tree × Bool) (he_:e_ = .ret ∨ e_ = .normal)
    (h1:(Qe Tryd.prog S_ Tryd.f62.results.toList).1 ∧ dat (resD (Qe Tryd.prog S_ Tryd.f62.results.toList).2.1) = Vf x) (hg:Ve k v ks x) :
    retR Tryd.prog Tryd.f62 (fun c=>((zabn k v ks c).2,fun _=>none)) e_ S_ :=
  Xz (good:=zact k v ks) (enc:=fun x:(Tree × Bool) × D=>x.2) (x,resD (Qe Tryd.prog S_ Tryd.f62.results.toList).2.1) he_ ⟨h1.1,rfl⟩ ⟨hg,h1.2⟩
theorem zakc (k:Int) (v:Int) (ks:List Tree)  : SpecR Tryd.prog 62 [.st [.int .i64 k,.int .i64 v,li cX ks]] (fun _=>none) (fun c=>((zabn k v ks c).2,fun _=>none)):=by
  refine SpecR.of_walk Tryd.func62 rfl (by simp [Tryd.f62]) fun B=>?_
  cases hs:Vm.B (ForOk (.mk k v ks))
  all_goals (repeat' (first
 | refine Qu ?_
 | refine Qc (id:=0) Vr [] (by kernel_rfl) ?_;simp [-zg,-zd,↓Qb,↓Qa,go_sem];try (refine Xk 1 ?_;simp [go_sem])
 | refine Qc (id:=1) Vr [] (by kernel_rfl) ?_;simp [-zg,-zd,↓Qb,↓Qa,go_sem,hs]
 | refine Qc (id:=2) Vr [] (by kernel_rfl) ?_;simp [-zg,-zd,↓Qb,↓Qa,go_sem]
 | (have hS:ForOk (.mk k v ks):=(by rw [B_iff] at hs;exact hs);have hW:=hS.well);refine Qc (id:=3) Vr [] (by kernel_rfl) ?_;simp [-zg,-zd,↓Qb,↓Qa,go_sem,hW];try (intro c3;generalize Vl k v ks false c3 = z3 at *;refine Xk 4 ?_;simp [go_sem])
 | refine Qc (id:=4) Vr [] (by kernel_rfl) ?_;simp [-zg,-zd,↓Qb,↓Qa,go_sem,Tree.eta]
 | refine Qc (id:=5) Vr [] (by kernel_rfl) ?_;simp [-zg,-zd,↓Qb,↓Qa,go_sem]
 | refine Qc (id:=6) Vr [] (by kernel_rfl) ?_;simp [-zg,-zd,↓Qb,↓Qa,go_sem]
 | refine Qd (c:=.tmp 7) ?_;simp [-zg,-zd,↓Qb,↓Qa,go_sem];try first | (refine ⟨?_,?_⟩ <;> refine zA ?_) | (refine ⟨fun c7=>?_,fun c7=>?_⟩ <;> (try simp [B_iff,B_not] at c7))
 | refine Qd (c:=.tmp 13) ?_;simp [-zg,-zd,↓Qb,↓Qa,go_sem];try first | (refine ⟨?_,?_⟩ <;> refine zA ?_) | (refine ⟨fun c13=>?_,fun c13=>?_⟩ <;> (try simp [B_iff,B_not] at c13))
 | (refine Qh ?_)
 | (refine Qt ?_;simp [-zg,-zd,↓Qb,↓Qa,go_sem])
 | (refine Qs ?_;simp [-zg,-zd,↓Qb,↓Qa,go_sem])
 | (refine Qv ?_;try simp [-zg,-zd,↓Qb,↓Qa,go_sem,Tryd.results62])
 | (intro hx;refine zA ?_)
 | (intro hx;change retR _ _ _ _ _)
 | (refine ⟨?_,?_⟩ <;> refine zA ?_)
 | (intro hx;constructor <;> intro hs)
 | (constructor <;> intro hs)
 | (refine ⟨?_,fun hs=>?_⟩;refine zA ?_)
 | (refine ⟨fun hs=>?_,?_⟩;rotate_left;refine zA ?_;rotate_left)))
  all_goals (first
 | (refine zafz _ _ _ ((.mk 0 0 [],false)) ?_ ?_ ?_;(first | exact Or.inl rfl | exact Or.inr rfl);(focus (simp [-zg,-zd,↓Qb,↓Qa,go_sem,Tryd.results62,dat,li,Xe];done));(focus ((simp [Ve,Tree.k]);done)))
 | (refine zafz _ _ _ ((z3,true)) ?_ ?_ ?_;(first | exact Or.inl rfl | exact Or.inr rfl);(focus (simp [-zg,-zd,↓Qb,↓Qa,go_sem,Tryd.results62,dat,datL_map,li];done));(focus (((have h13:ForOk z3:=(by assumption);exact ⟨fun _=>h13,.inr h13.well⟩));done)))
 | skip)
@[go_sem] def zagr:Con:=.rel fun args H=>match args with
  | [.st [.int .i64 k,.int .i64 v,.list n_ks c_ks]]=>((Is cX n_ks c_ks),fun c=>(Vf (zabx k v (de cX c_ks) c),H))
  | _=>(False,fun _=>(.any,H))
theorem NormalFormC_ok:ConOk Tryd.prog 62 zagr:=by
  refine ⟨Qq Tryd.func62 (by decide) rfl,fun args H h=>?_⟩
  revert h
  dsimp only
  split
  · intro h
    obtain ⟨ks,rfl,rfl⟩:=h
    try simp only [Qj] at *
    exact SpecR.enc ((SpecR.frame0 (zakc _ _ ks ) (H:=H)).shut) fun c=>Prod.ext (zaga _ _ _  c).2.symm rfl
  · intro h
    exact h.elim
@[go_sem] def Γy14:FuncId → Con:=ext Γy13 62 zagr
theorem Γy14_ok:∀ g,ConOk Tryd.prog g (Γy14 g):=Qp Vr NormalFormC_ok

def AllW (xs:List Tree):Prop:=∀ t,t ∈ xs → WellF t
theorem AllW.snoc {xs:List Tree} (h:AllW xs) {t:Tree} (ht:WellF t):AllW (xs ++ [t]):=fun u hu=>by
  rcases List.mem_append.1 hu with q | q
  · exact h u q
  · have:u = t:=by simpa using q
    rw [this];exact ht
theorem AllW.nil:AllW []:=fun t h=>nomatch h
theorem AllW.at {xs:List Tree} (h:AllW xs) {i:Nat} (hi:i < xs.length):WellF (nth xs i):=h _ (Jm hi)
def IsO (E:D):Prop:=E = .nil ∨ ∃ xs,E = .fr 3 (List.length xs) (cat cX xs)
def xsO (E:D):List Tree:=match E with | .fr _ _ cs=>de cX cs | _=>[]
@[go_sem] theorem isO_nil:IsO .nil = True:=eq_true (.inl rfl)
@[go_sem] theorem isO_fr (xs:List Tree):IsO (.fr 3 xs.length (cat cX xs)) = True:=eq_true (.inr ⟨xs,rfl⟩)
@[go_sem] theorem xsO_nil:xsO .nil = []:=rfl
@[go_sem] theorem xsO_fr (n:Nat) (xs:List Tree):xsO (.fr 3 n (cat cX xs)) = xs:=Qj xs
theorem tszs_take {ks:List Tree} {i:Nat} (h:i < ks.length):tszs (ks.take (i + 1)) = tszs (ks.take i) + tsz (nth ks i):=by
  have key:∀ (xs ys:List Tree),tszs (xs ++ ys) = tszs xs + tszs ys:=fun xs ys=>by
    induction xs with
    | nil=>simp [tszs]
    | cons x xs ih=>rw [List.cons_append,tszs,tszs,ih];omega
  rw [List.take_succ_eq_append_getElem h,key,← nth_lt h];simp [tszs]
theorem tszs_le {ks:List Tree} {i:Nat} (h:i ≤ ks.length):tszs (ks.take i) ≤ tszs ks:=by
  have key:∀ (xs ys:List Tree),tszs (xs ++ ys) = tszs xs + tszs ys:=fun xs ys=>by
    induction xs with
    | nil=>simp [tszs]
    | cons x xs ih=>rw [List.cons_append,tszs,tszs,ih];omega
  have:=key (ks.take i) (ks.drop i)
  rw [List.take_append_drop] at this
  omega
theorem zahj:∀ (d:Nat) (t:Tree),ShapeF d t → tsz t + 1 ≤ 2 ^ (d + 1)
  | 0,_,h=>h.elim
  | d + 1,.mk k v ks,h=>by
    have h2:=h.two
    have h5:=h.2.2.2.2
    simp only [Tree.ks] at h2 h5
    have hp:2 ^ (d + 1 + 1) = 2 * 2 ^ (d + 1):=by rw [Nat.pow_succ,Nat.mul_comm]
    have p1:2 ≤ 2 ^ (d + 1):=by rw [Nat.pow_succ];have:=Nat.one_le_two_pow (n:=d);omega
    rw [tsz,hp]
    match ks,h2,h5 with
    | [],_,_=>simp only [tszs];omega
    | [a],_,h5 =>
      have:=zahj d a (h5 0 (by simp))
      simp only [tszs];omega
    | [a,b],_,h5 =>
      have:=zahj d a (h5 0 (by simp))
      have:=zahj d b (h5 1 (by simp))
      simp only [tszs];omega
    | a :: b :: c :: l,h2,_=>simp at h2
theorem ForOk.tsz {t:Tree} (h:ForOk t):Vm.tsz t ≤ 127:=by have:=zahj 6 t h.1;omega

@[go_sem] def Ju:List Tree → D:=fun x=>.fr 3 x.length (cat cX x)
def zacb (E:D) (k:Int) (v:Int) (ks:List Tree):List Tree → Prop:=fun x=>x.length ≤ (xsO E).length + tsz (.mk k v ks) ∧ AllW x
def Jw (E:D) (k:Int) (v:Int) (ks:List Tree) (c:Any):List Tree:=sel (zacb E k v ks) (xsO E) c
theorem l5Subs_ok (E:D) (k:Int) (v:Int) (ks:List Tree) (hE:IsO E) (hA:AllW (xsO E)) (hw:WellF (.mk k v ks)) (hn:(xsO E).length + tsz (.mk k v ks) ≤ 1000000) (c:Any):zacb E k v ks (Jw E k v ks c):=Zd (p:=zacb E k v ks) (x0:=xsO E) (⟨Nat.le_add_right _ _,hA⟩) c
theorem l5Subs_ret (E:D) (k:Int) (v:Int) (ks:List Tree) {e_:Exit} {S_:St} (x:List Tree) (he_:e_ = .ret ∨ e_ = .normal)
    (h1:(Qe Tryd.prog S_ Tryd.f76.results.toList).1 ∧ resD (Qe Tryd.prog S_ Tryd.f76.results.toList).2.1 = Ju x) (hg:zacb E k v ks x) :
    retR Tryd.prog Tryd.f76 (fun c=>(Ju (Jw E k v ks c),fun _=>none)) e_ S_:=Xz (enc:=Ju) x he_ h1 hg
@[go_sem] def l5SubsCn (n_:Nat):Con:=.rel fun args H=>match args with
  | [E,.st [.int .i64 k,.int .i64 v,.list n_ks c_ks]]=>((Is cX n_ks c_ks) ∧ (IsO E) ∧ (AllW (xsO E)) ∧ (WellF (.mk k v (de cX c_ks))) ∧ ((xsO E).length + tsz (.mk k v (de cX c_ks)) ≤ 1000000) ∧ (tsz (.mk k v (de cX c_ks)) < n_),fun c=>(Ju (Jw E k v (de cX c_ks) c),H))
  | _=>(False,fun _=>(.any,H))
theorem l5SubsCn_ok {n_:Nat} (ih:∀ (E:D) (k:Int) (v:Int) (ks:List Tree) (hE:IsO E) (hA:AllW (xsO E)) (hw:WellF (.mk k v ks)) (hn:(xsO E).length + tsz (.mk k v ks) ≤ 1000000) (hm_:tsz (.mk k v ks) < n_),SpecR Tryd.prog 76 [E,.st [.int .i64 k,.int .i64 v,li cX ks]] (fun _=>none) (fun c=>(Ju (Jw E k v ks c),fun _=>none))):ConOk Tryd.prog 76 (l5SubsCn n_):=by
  refine ⟨Qq Tryd.func76 (by decide) rfl,fun args H h=>?_⟩
  revert h
  dsimp only
  split
  · intro h
    obtain ⟨⟨ks,rfl,rfl⟩,hE,hA,hw,hn,hm_⟩:=h
    try simp only [Qj] at *
    exact (SpecR.frame0 (ih _ _ _ ks hE hA hw hn hm_) (H:=H))
  · intro h
    exact h.elim
set_option maxHeartbeats 8000000 in
theorem l5Subs_rec:∀ (n_:Nat),∀ (E:D) (k:Int) (v:Int) (ks:List Tree) (hE:IsO E) (hA:AllW (xsO E)) (hw:WellF (.mk k v ks)) (hn:(xsO E).length + tsz (.mk k v ks) ≤ 1000000) (hm_:tsz (.mk k v ks) < n_),SpecR Tryd.prog 76 [E,.st [.int .i64 k,.int .i64 v,li cX ks]] (fun _=>none) (fun c=>(Ju (Jw E k v ks c),fun _=>none)):=by
  intro n_
  induction n_ with
  | zero=>intros;omega
  | succ n_ ih =>
  intro E k v ks hE hA hw hn hm_
  have Γr_ok:=Qp Γy14_ok (l5SubsCn_ok ih)
  refine SpecR.of_walk Tryd.func76 rfl (by simp [Tryd.f76]) fun B=>?_
  obtain ⟨w1,w2,w3,w4⟩:=hw.at;have w5:=arF_le k;have hts:tsz (.mk k v ks) = 1 + tszs ks:=(by rw [tsz]);obtain ⟨xs,hxs⟩:∃ xs,xsO E = xs:=⟨_,rfl⟩;have hE2:E = .nil ∧ xs = [] ∨ E = .fr 3 xs.length (cat cX xs) ∧ True:=(by rcases hE with h | ⟨ys,h⟩;(left;subst h;exact ⟨rfl,by rw [← hxs];rfl⟩);(right;have e:ys = xs:=(by rw [← hxs,h];exact (Qj ys).symm);exact ⟨by rw [h,e],trivial⟩));rw [hxs] at hA hn;rcases hE2 with ⟨he,hx⟩ | ⟨he,hx⟩ <;> subst he
  all_goals (repeat' (first
 | refine Qu ?_
 | ((try (refine AW_nilfr 0 3 rfl ?_));simp only [go_sem]);refine Qc (id:=0) Γr_ok [] (by kernel_rfl) ?_;simp [-zg,-zd,↓Qb,↓Qa,go_sem];try (refine Xk 3 ?_;simp [go_sem])
 | (refine Vw 3 2 ⟨rfl,rfl⟩ fun hm=>?_);refine Qc (id:=1) Γr_ok [] (by kernel_rfl) ?_;simp [-zg,-zd,↓Qb,↓Qa,go_sem]
 | refine Qc (id:=2) Γr_ok [] (by kernel_rfl) ?_;simp [-zg,-zd,↓Qb,↓Qa,go_sem]
 | ((have qt:=Xh (k:=k) (v:=v) c10);(have qw:=w4 q.1 c10);(have qs:=tszs_take c10);(have ql:=tszs_le (ks:=ks) (i:=q.1 + 1) (by omega)));refine Qc (id:=4) Γr_ok [] (by kernel_rfl) ?_;simp [-zg,-zd,↓Qb,↓Qa,go_sem,c10,Qg c10,zsP c10,qw,g3,Tree.eta,(show tsz (nth ks q.1) < n_ by omega),(show q.2.length + tsz (nth ks q.1) ≤ 1000000 by omega)];try ((intro c4);(have z0:=l5Subs_ok (.fr 3 q.2.length (cat cX q.2)) (nth ks q.1).k (nth ks q.1).v (nth ks q.1).ks (.inr ⟨q.2,rfl⟩) (by rw [xsO_fr];exact g3) (by rw [Tree.eta];exact qw) (by rw [xsO_fr,Tree.eta];omega) c4);(simp only [zacb,xsO_fr,Tree.eta] at z0);(generalize Jw (.fr 3 q.2.length (cat cX q.2)) (nth ks q.1).k (nth ks q.1).v (nth ks q.1).ks c4 = z at *);(obtain ⟨z1,z2⟩:=z0))
 | refine Qc (id:=3) Γr_ok [] (by kernel_rfl) ?_;simp [-zg,-zd,↓Qb,↓Qa,go_sem,wrapS (k:=q.1) (by omega)]
 | ((obtain ⟨i,o⟩:=q);(dsimp only at *);(have hlk:=tszs_le (ks:=ks) (Nat.le_refl ks.length));(obtain rfl:i = ks.length:=by omega);(rw [List.take_length] at g2 hlk);(refine AW_mat 0 rfl fun nb cp j hnb hcp hcj=>?_);(simp only [go_sem] at hnb ⊢));refine Qc (id:=5) Γr_ok [] (by kernel_rfl) ?_;simp [-zg,-zd,↓Qb,↓Qa,go_sem,Tree.eta]
 | refine Qc (id:=6) Γr_ok [] (by kernel_rfl) ?_;simp [-zg,-zd,↓Qb,↓Qa,go_sem,hw,(show o.length ≤ 9223372036854775806 by omega),(show 2 * (o.length + 1) * 40 ≤ 281474976710656 by omega),hcj,(show o.length * 3 ≤ o.length * 3 + j by omega)];try ((intro c6);(have z0:=l5Copy_ok k v ks hw c6);(simp only [zace] at z0);(rw [z0]))
 | ((try (refine AW_unmat 0 (b:=nb) (all:=cat cX o ++ List.replicate j D.any) rfl (by simp [upd]) (by omega) (by simp [Qy]) (by simp [Qy];omega) ?_)));refine Qc (id:=7) Γr_ok [] (by kernel_rfl) ?_;simp [-zg,-zd,↓Qb,↓Qa,go_sem]
 | refine Qd (c:=.tmp 10) ?_;simp [-zg,-zd,↓Qb,↓Qa,go_sem];try first | (refine ⟨?_,?_⟩ <;> refine zA ?_) | (refine ⟨fun c10=>?_,fun c10=>?_⟩ <;> (try simp [B_iff,B_not] at c10))
 | refine Qd (c:=.tmp 23) ?_;simp [-zg,-zd,↓Qb,↓Qa,go_sem];try first | (refine ⟨?_,?_⟩ <;> refine zA ?_) | (refine ⟨fun c23=>?_,fun c23=>?_⟩ <;> (try simp [B_iff,B_not] at c23))
 | (refine Qh (id:=0) (Xd (ι:=Nat × List Tree) (fun q:Nat × List Tree=>⟨(upd (upd (upd (fun _=>.any) 0 (.fr 3 q.2.length (cat cX q.2))) 3 (.pd [.int .i64 k,.int .i64 v,li cX ks])) 5 (.int .i64 q.1)),fun _=>none⟩) (fun q=>q.1 ≤ ks.length ∧ q.2.length ≤ xs.length + tszs (ks.take q.1) ∧ AllW q.2) (fun q=>ks.length - q.1) ((0,xs)) ?_ ?_ ?_);exact ⟨Nat.zero_le _,Nat.le_add_right _ _,hA⟩;((repeat' (first | exact Ql (by assumption) | exact Qo | refine Qk ?_ ?_ | refine Qn ?_)) <;> simp [-zg,-zd,↓Qb,↓Qa,go_sem,hx,List.length_nil,Xe]);rintro q ⟨g1,g2,g3⟩)
 | (refine ⟨(q.1 + 1,z),⟨by dsimp only;omega,by dsimp only;omega,z2⟩,by first | omega | (simp;done) | (simp;omega),?_⟩;((repeat' (first | exact Ql (by assumption) | exact Qo | refine Qk ?_ ?_ | refine Qn ?_)) <;> simp [-zg,-zd,↓Qb,↓Qa,go_sem,hx,List.length_nil,Xe]))
 | (refine Qh ?_)
 | (refine Qt ?_;simp [-zg,-zd,↓Qb,↓Qa,go_sem])
 | (refine Qs ?_;simp [-zg,-zd,↓Qb,↓Qa,go_sem])
 | (refine Qv ?_;try simp [-zg,-zd,↓Qb,↓Qa,go_sem,Tryd.results76])
 | (intro hx;refine zA ?_)
 | (intro hx;change retR _ _ _ _ _)
 | (refine ⟨?_,?_⟩ <;> refine zA ?_)
 | (intro hx;constructor <;> intro hs)
 | (constructor <;> intro hs)
 | (refine ⟨?_,fun hs=>?_⟩;refine zA ?_)
 | (refine ⟨fun hs=>?_,?_⟩;rotate_left;refine zA ?_;rotate_left)))
  all_goals (first
 | (refine l5Subs_ret _ _ _ _ (o) ?_ ?_ ?_;(first | exact Or.inl rfl | exact Or.inr rfl);(focus (simp [-zg,-zd,↓Qb,↓Qa,go_sem,Tryd.results76,take_cX];done));(focus (((show o.length ≤ (xsO _).length + tsz (.mk k v ks) ∧ AllW o);rw [hxs];exact ⟨by omega,g3⟩);done)))
 | (refine l5Subs_ret _ _ _ _ (o ++ [.mk k v ks]) ?_ ?_ ?_;(first | exact Or.inl rfl | exact Or.inr rfl);(focus (simp [-zg,-zd,↓Qb,↓Qa,go_sem,Tryd.results76,Zr,Za,cX_mk,li];done));(focus (((show (o ++ [Tree.mk k v ks]).length ≤ (xsO _).length + tsz (.mk k v ks) ∧ AllW (o ++ [.mk k v ks]));rw [hxs];exact ⟨by simp;omega,g3.snoc hw⟩);done)))
 | skip)
theorem l5Subs_pure (E:D) (k:Int) (v:Int) (ks:List Tree) (hE:IsO E) (hA:AllW (xsO E)) (hw:WellF (.mk k v ks)) (hn:(xsO E).length + tsz (.mk k v ks) ≤ 1000000):SpecR Tryd.prog 76 [E,.st [.int .i64 k,.int .i64 v,li cX ks]] (fun _=>none) (fun c=>(Ju (Jw E k v ks c),fun _=>none)):=l5Subs_rec (tsz (.mk k v ks) + 1) E k v ks hE hA hw hn (by omega)
@[go_sem] def l5SubsC:Con:=.rel fun args H=>match args with
  | [E,.st [.int .i64 k,.int .i64 v,.list n_ks c_ks]]=>((Is cX n_ks c_ks) ∧ (IsO E) ∧ (AllW (xsO E)) ∧ (WellF (.mk k v (de cX c_ks))) ∧ ((xsO E).length + tsz (.mk k v (de cX c_ks)) ≤ 1000000),fun c=>(Ju (Jw E k v (de cX c_ks) c),H))
  | _=>(False,fun _=>(.any,H))
theorem l5SubsC_ok:ConOk Tryd.prog 76 l5SubsC:=by
  refine ⟨Qq Tryd.func76 (by decide) rfl,fun args H h=>?_⟩
  revert h
  dsimp only
  split
  · intro h
    obtain ⟨⟨ks,rfl,rfl⟩,hE,hA,hw,hn⟩:=h
    try simp only [Qj] at *
    exact (SpecR.frame0 (l5Subs_pure _ _ _ ks hE hA hw hn) (H:=H))
  · intro h
    exact h.elim
@[go_sem] def Γy15:FuncId → Con:=ext Γy14 76 l5SubsC
theorem Xx:∀ g,ConOk Tryd.prog g (Γy15 g):=Qp Γy14_ok l5SubsC_ok

@[go_sem] def Vd:List Tree × Bool → D:=fun x=>.tup [li cX x.1,.bool x.2]
theorem zagu (x:List Tree × Bool):dat (Vd x) = Vd x:=by simp [go_sem]
def zaag (k:Int) (v:Int) (ks:List Tree):List Tree × Bool → Prop:=fun x=>x.1.length ≤ 5 ∧ AllW x.1
def zabc (k:Int) (v:Int) (ks:List Tree) (x:(List Tree × Bool) × D):Prop:=zaag k v ks x.1 ∧ dat x.2 = Vd x.1
def zaaq (k:Int) (v:Int) (ks:List Tree) (c:Any):(List Tree × Bool) × D:=sel (zabc k v ks) ((([],false):List Tree × Bool),Vd (([],false))) c
def zabv (k:Int) (v:Int) (ks:List Tree) (c:Any):List Tree × Bool:=(zaaq k v ks c).1
theorem zadq (k:Int) (v:Int) (ks:List Tree)  (c:Any):zabc k v ks (zaaq k v ks c):=by
  have hx:zaag k v ks (([],false)):=⟨by simp,AllW.nil⟩
  exact Zd (p:=zabc k v ks) (x0:=((([],false):List Tree × Bool),Vd (([],false)))) ⟨hx,zagu _⟩ c
theorem zajs (k:Int) (v:Int) (ks:List Tree)  (c:Any):zaag k v ks (zabv k v ks c):=(zadq k v ks  c).1
theorem zadp (k:Int) (v:Int) (ks:List Tree) {e_:Exit} {S_:St} (x:List Tree × Bool) (he_:e_ = .ret ∨ e_ = .normal)
    (h1:(Qe Tryd.prog S_ Tryd.f61.results.toList).1 ∧ dat (resD (Qe Tryd.prog S_ Tryd.f61.results.toList).2.1) = Vd x) (hg:zaag k v ks x) :
    retR Tryd.prog Tryd.f61 (fun c=>((zaaq k v ks c).2,fun _=>none)) e_ S_ :=
  Xz (good:=zabc k v ks) (enc:=fun x:(List Tree × Bool) × D=>x.2) (x,resD (Qe Tryd.prog S_ Tryd.f61.results.toList).2.1) he_ ⟨h1.1,rfl⟩ ⟨hg,h1.2⟩
set_option maxHeartbeats 8000000 in
theorem zagt (k:Int) (v:Int) (ks:List Tree)  : SpecR Tryd.prog 61 [.st [.int .i64 k,.int .i64 v,li cX ks]] (fun _=>none) (fun c=>((zaaq k v ks c).2,fun _=>none)):=by
  refine SpecR.of_walk Tryd.func61 rfl (by simp [Tryd.f61]) fun B=>?_
  (repeat' (first
 | refine Qu ?_
 | refine Qc (id:=0) Xx [] (by kernel_rfl) ?_;simp [-zg,-zd,↓Qb,↓Qa,go_sem];try (refine Xk 1 ?_;simp [go_sem])
 | refine Qc (id:=1) Xx [] (by kernel_rfl) ?_;simp [-zg,-zd,↓Qb,↓Qa,go_sem];try ((intro c1);(have z0:=zaha k v ks c1);(generalize zabx k v ks c1 = z1 at *);(obtain ⟨⟨gk,gv,gs⟩,okb⟩:=z1);(simp only [Ve] at z0);(obtain ⟨z2,z3⟩:=z0);(refine Xk 4 ?_);(simp [go_sem]))
 | refine Qc (id:=2) Xx [] (by kernel_rfl) ?_;simp [-zg,-zd,↓Qb,↓Qa,go_sem]
 | refine Qc (id:=3) Xx [] (by kernel_rfl) ?_;simp [-zg,-zd,↓Qb,↓Qa,go_sem]
 | refine Qc (id:=4) Xx [] (by kernel_rfl) ?_;simp [-zg,-zd,↓Qb,↓Qa,go_sem]
 | ((have hF:ForOk (.mk gk gv gs):=z2 (by first | assumption | (simp_all;done)));(have hFw:=hF.well);(have hFt:=hF.tsz));refine Qc (id:=5) Xx [] (by kernel_rfl) ?_;simp [-zg,-zd,↓Qb,↓Qa,go_sem,hFw,AllW.nil,(show tsz (.mk gk gv gs) ≤ 1000000 by omega)];try ((intro c5);(have y0:=l5Subs_ok .nil gk gv gs (.inl rfl) AllW.nil hFw (by simp only [xsO_nil,List.length_nil];omega) c5);(simp only [zacb,xsO_nil,List.length_nil] at y0);(generalize Jw .nil gk gv gs c5 = subs at *);(obtain ⟨y1,y2⟩:=y0);(refine Xk 7 ?_);(simp [go_sem,dat]))
 | refine Qc (id:=6) Xx [] (by kernel_rfl) ?_;simp [-zg,-zd,↓Qb,↓Qa,go_sem]
 | refine Qc (id:=7) Xx [] (by kernel_rfl) ?_;simp [-zg,-zd,↓Qb,↓Qa,go_sem]
 | refine Qc (id:=9) Xx [] (by kernel_rfl) ?_;simp [-zg,-zd,↓Qb,↓Qa,go_sem,c23,Qg c23,zsP c23]
 | refine Qc (id:=10) Xx [] (by kernel_rfl) ?_;simp [-zg,-zd,↓Qb,↓Qa,go_sem,c23,Qg c23,zsP c23,(show q.2.length ≤ 9223372036854775806 by omega),(show 2 * (q.2.length + 1) * 40 ≤ 281474976710656 by omega)];try ((have o4:=g3.snoc (y2.at c23));(have e4:=snoc_cX q.2 (nth subs q.1));(have o3:(q.2 ++ [nth subs q.1]).length = q.2.length + 1:=(by simp));(simp only [li] at e4);(rw [e4,← o3]);(generalize q.2 ++ [nth subs q.1] = o2 at *))
 | refine Qc (id:=8) Xx [] (by kernel_rfl) ?_;simp [-zg,-zd,↓Qb,↓Qa,go_sem,wrapS (k:=q.1) (by omega)]
 | ((refine Xk 6 ?_);(simp only [go_sem,dat,datL_map,Zg]));refine Qc (id:=11) Xx [] (by kernel_rfl) ?_;simp [-zg,-zd,↓Qb,↓Qa,go_sem]
 | refine Qc (id:=12) Xx [] (by kernel_rfl) ?_;simp [-zg,-zd,↓Qb,↓Qa,go_sem]
 | refine Qc (id:=13) Xx [] (by kernel_rfl) ?_;simp [-zg,-zd,↓Qb,↓Qa,go_sem]
 | refine Qd (c:=.tmp 15) ?_;simp [-zg,-zd,↓Qb,↓Qa,go_sem];try first | (refine ⟨?_,?_⟩ <;> refine zA ?_) | (refine ⟨fun c15=>?_,fun c15=>?_⟩ <;> (try simp [B_iff,B_not] at c15))
 | refine Qd (c:=.tmp 23) ?_;simp [-zg,-zd,↓Qb,↓Qa,go_sem];try first | (refine ⟨?_,?_⟩ <;> refine zA ?_) | (refine ⟨fun c23=>?_,fun c23=>?_⟩ <;> (try simp [B_iff,B_not] at c23))
 | refine Qd (c:=.tmp 30) ?_;simp [-zg,-zd,↓Qb,↓Qa,go_sem];try first | (refine ⟨?_,?_⟩ <;> refine zA ?_) | (refine ⟨fun c30=>?_,fun c30=>?_⟩ <;> (try simp [B_iff,B_not] at c30))
 | refine Qd (c:=.tmp 40) ?_;simp [-zg,-zd,↓Qb,↓Qa,go_sem];try first | (refine ⟨?_,?_⟩ <;> refine zA ?_) | (refine ⟨fun c40=>?_,fun c40=>?_⟩ <;> (try simp [B_iff,B_not] at c40))
 | (refine Qh (id:=0) (Xd (ι:=Nat × List Tree) (fun q:Nat × List Tree=>⟨(upd (upd (upd (fun _=>.any) 6 (.fr 3 q.2.length (cat cX q.2))) 7 (.list subs.length (cat cX subs))) 8 (.int .i64 q.1)),fun _=>none⟩) (fun q=>q.1 ≤ subs.length ∧ q.2.length ≤ q.1 ∧ AllW q.2) (fun q=>subs.length - q.1) ((0,[])) ?_ ?_ ?_);exact ⟨Nat.zero_le _,Nat.le_refl _,AllW.nil⟩;((repeat' (first | exact Ql (by assumption) | exact Qo | refine Qk ?_ ?_ | refine Qn ?_)) <;> simp [-zg,-zd,↓Qb,↓Qa,go_sem,List.length_nil,Xe]);rintro q ⟨g1,g2,g3⟩)
 | (refine ⟨(q.1 + 1,o2),⟨by dsimp only;omega,by dsimp only;omega,o4⟩,by first | omega | (simp;done) | (simp;omega),?_⟩;((repeat' (first | exact Ql (by assumption) | exact Qo | refine Qk ?_ ?_ | refine Qn ?_)) <;> simp [-zg,-zd,↓Qb,↓Qa,go_sem,List.length_nil,Xe]))
 | (refine Qh ?_)
 | (refine Qt ?_;simp [-zg,-zd,↓Qb,↓Qa,go_sem])
 | (refine Qs ?_;simp [-zg,-zd,↓Qb,↓Qa,go_sem])
 | (refine Qv ?_;try simp [-zg,-zd,↓Qb,↓Qa,go_sem,Tryd.results61])
 | (intro hx;refine zA ?_)
 | (intro hx;change retR _ _ _ _ _)
 | (refine ⟨?_,?_⟩ <;> refine zA ?_)
 | (intro hx;constructor <;> intro hs)
 | (constructor <;> intro hs)
 | (refine ⟨?_,fun hs=>?_⟩;refine zA ?_)
 | (refine ⟨fun hs=>?_,?_⟩;rotate_left;refine zA ?_;rotate_left)
 | ((fail_if_success change retR _ _ _ _ _);(refine ⟨(q.1 + 1,q.2),⟨by dsimp only;omega,by dsimp only;omega,g3⟩,by dsimp only;omega,?_⟩;((repeat' (first | exact Ql (by assumption) | exact Qo | refine Qk ?_ ?_ | refine Qn ?_)) <;> simp [-zg,-zd,go_sem])))))
  all_goals (first
 | (refine zadp _ _ _ (([],false)) ?_ ?_ ?_;(first | exact Or.inl rfl | exact Or.inr rfl);(focus (simp [-zg,-zd,↓Qb,↓Qa,go_sem,Tryd.results61,dat,datL_map,li,Xe];done));(focus ((exact ⟨by simp,AllW.nil⟩);done)))
 | (refine zadp _ _ _ ((q.2,true)) ?_ ?_ ?_;(first | exact Or.inl rfl | exact Or.inr rfl);(focus (simp [-zg,-zd,↓Qb,↓Qa,go_sem,Tryd.results61,dat,datL_map,li,Zg];done));(focus ((exact ⟨by dsimp only;omega,g3⟩);done)))
 | skip)
@[go_sem] def zadn:Con:=.rel fun args H=>match args with
  | [.st [.int .i64 k,.int .i64 v,.list n_ks c_ks]]=>((Is cX n_ks c_ks),fun c=>(Vd (zabv k v (de cX c_ks) c),H))
  | _=>(False,fun _=>(.any,H))
theorem zahg:ConOk Tryd.prog 61 zadn:=by
  refine ⟨Qq Tryd.func61 (by decide) rfl,fun args H h=>?_⟩
  revert h
  dsimp only
  split
  · intro h
    obtain ⟨ks,rfl,rfl⟩:=h
    try simp only [Qj] at *
    exact SpecR.enc ((SpecR.frame0 (zagt _ _ ks ) (H:=H)).shut) fun c=>Prod.ext (zadq _ _ _  c).2.symm rfl
  · intro h
    exact h.elim
@[go_sem] def Γy16:FuncId → Con:=ext Γy15 61 zadn
theorem Γy16_ok:∀ g,ConOk Tryd.prog g (Γy16 g):=Qp Xx zahg

def valN (bs:List Tree) (s:Int):Nat → Tree → Bool
  | 0,_=>false
  | n + 1,t=>if t.k = 1 then true else if t.k = 3 then !valN bs s n (nth t.ks 0) else if t.k = 4 then valN bs s n (nth t.ks 0) && valN bs s n (nth t.ks 1) else if t.k = 5 then valN bs s n (nth t.ks 0) || valN bs s n (nth t.ks 1) else hasF s (findI (fun z=>B (TEq z t)) bs)
def VOk:Nat → Tree → Prop
  | 0,_=>False
  | n + 1,t=>(t.k = 3 → 0 < t.ks.length ∧ VOk n (nth t.ks 0)) ∧ (t.k = 4 ∨ t.k = 5 → 1 < t.ks.length ∧ VOk n (nth t.ks 0) ∧ VOk n (nth t.ks 1))
theorem VOk.ofShape:∀ (d:Nat) (t:Tree),ShapeF d t → VOk d t
  | 0,_,h=>h.elim
  | d + 1,t,h=>by
    obtain ⟨h1,h2,h3,h4,h5⟩:=h
    refine ⟨fun e=>?_,fun e=>?_⟩
    · have:t.ks.length = 1:=by unfold arF at h1;rw [if_neg (by omega),if_pos (by omega)] at h1;omega
      exact ⟨by omega,VOk.ofShape d _ (h5 0 (by omega))⟩
    · have:t.ks.length = 2:=by unfold arF at h1;rw [if_neg (by omega),if_neg (by omega),if_pos (by omega)] at h1;omega
      exact ⟨by omega,VOk.ofShape d _ (h5 0 (by omega)),VOk.ofShape d _ (h5 1 (by omega))⟩

theorem zahu {bs:List Tree} {s:Int} {n:Nat} (h:0 < n) {k v:Int} {ks:List Tree}:valN bs s n (.mk k v ks) = if k = 1 then true else if k = 3 then !valN bs s (n - 1) (nth ks 0) else if k = 4 then valN bs s (n - 1) (nth ks 0) && valN bs s (n - 1) (nth ks 1) else if k = 5 then valN bs s (n - 1) (nth ks 0) || valN bs s (n - 1) (nth ks 1) else hasF s (findI (fun z=>B (TEq z (.mk k v ks))) bs):=by
  obtain ⟨m,rfl⟩:∃ m,n = m + 1:=⟨n - 1,by omega⟩
  rfl
theorem VOk.at {n:Nat} {k v:Int} {ks:List Tree} (h:VOk n (.mk k v ks)):0 < n ∧ (k = 3 → 0 < ks.length ∧ VOk (n - 1) (nth ks 0)) ∧ (k = 4 ∨ k = 5 → 1 < ks.length ∧ VOk (n - 1) (nth ks 0) ∧ VOk (n - 1) (nth ks 1)):=by
  cases n with
  | zero=>exact h.elim
  | succ n=>exact ⟨by omega,h.1,h.2⟩
theorem WellF.vok {t:Tree} (h:WellF t):∃ n,VOk n t:=by obtain ⟨d,h⟩:=h;exact ⟨d,VOk.ofShape d t h⟩
theorem VOk.zero {t:Tree} (h:t.k = 0):VOk 1 t:=⟨fun e=>by omega,fun e=>by omega⟩
def Valu (t:Tree):Prop:=∃ n,VOk n t
theorem WellF.valu {t:Tree} (h:WellF t):Valu t:=h.vok
theorem Valu.zero {t:Tree} (h:t.k = 0):Valu t:=⟨1,VOk.zero h⟩
theorem Valu.at {k v:Int} {ks:List Tree} (h:Valu (.mk k v ks)):(k = 3 → 0 < ks.length ∧ Valu (nth ks 0)) ∧ (k = 4 ∨ k = 5 → 1 < ks.length ∧ Valu (nth ks 0) ∧ Valu (nth ks 1)):=by
  obtain ⟨n,h⟩:=h
  obtain ⟨h0,h1,h2⟩:=h.at
  exact ⟨fun e=>⟨(h1 e).1,_,(h1 e).2⟩,fun e=>⟨(h2 e).1,⟨_,(h2 e).2.1⟩,_,(h2 e).2.2⟩⟩
def valF (bs:List Tree) (s:Int) (t:Tree):Bool:=valN bs s (tsz t) t
theorem zakf (t:Tree):0 < tsz t:=by cases t;rw [tsz];omega
theorem zafj (bs:List Tree) (s:Int):∀ (n:Nat) (t:Tree),VOk n t → ∀ m,tsz t ≤ m → valN bs s m t = valF bs s t:=by
  have key:∀ (n:Nat) (t:Tree),VOk n t → ∀ m l,tsz t ≤ m → tsz t ≤ l → valN bs s m t = valN bs s l t:=by
    intro n
    induction n with
    | zero=>intro t h;exact h.elim
    | succ n ih =>
      intro t h m l hm hl
      obtain ⟨k,v,ks⟩:=t
      obtain ⟨h0,h1,h2⟩:=h.at
      have hp:=zakf (.mk k v ks)
      rw [zahu (by omega),zahu (by omega)]
      by_cases e1:k = 1
      · rw [if_pos e1,if_pos e1]
      rw [if_neg e1,if_neg e1]
      by_cases e3:k = 3
      · rw [if_pos e3,if_pos e3]
        obtain ⟨q1,q2⟩:=h1 e3
        have:=Xh (k:=k) (v:=v) q1
        rw [ih _ q2 (m - 1) (l - 1) (by omega) (by omega)]
      rw [if_neg e3,if_neg e3]
      by_cases e4:k = 4
      · rw [if_pos e4,if_pos e4]
        obtain ⟨q1,q2,q3⟩:=h2 (.inl e4)
        have:=Xh (k:=k) (v:=v) (show 0 < ks.length by omega)
        have:=Xh (k:=k) (v:=v) q1
        rw [ih _ q2 (m - 1) (l - 1) (by omega) (by omega),ih _ q3 (m - 1) (l - 1) (by omega) (by omega)]
      rw [if_neg e4,if_neg e4]
      by_cases e5:k = 5
      · rw [if_pos e5,if_pos e5]
        obtain ⟨q1,q2,q3⟩:=h2 (.inr e5)
        have:=Xh (k:=k) (v:=v) (show 0 < ks.length by omega)
        have:=Xh (k:=k) (v:=v) q1
        rw [ih _ q2 (m - 1) (l - 1) (by omega) (by omega),ih _ q3 (m - 1) (l - 1) (by omega) (by omega)]
      rw [if_neg e5,if_neg e5]
  intro n t h m hm
  exact key n t h m (tsz t) hm (Nat.le_refl _)
theorem valF_not {bs:List Tree} {s v:Int} {ks:List Tree} (h:Valu (.mk 3 v ks)):valF bs s (.mk 3 v ks) = !valF bs s (nth ks 0):=by
  obtain ⟨q1,n,q2⟩:=h.at.1 rfl
  have:=Xh (k:=3) (v:=v) q1
  show valN bs s (tsz (.mk 3 v ks)) (.mk 3 v ks) = _
  rw [zahu (zakf _),if_neg (by omega),if_pos rfl,zafj bs s n _ q2 _ (by omega)]
theorem valF_and {bs:List Tree} {s v:Int} {ks:List Tree} (h:Valu (.mk 4 v ks)):valF bs s (.mk 4 v ks) = (valF bs s (nth ks 0) && valF bs s (nth ks 1)):=by
  obtain ⟨q1,⟨n,q2⟩,m,q3⟩:=h.at.2 (.inl rfl)
  have:=Xh (k:=4) (v:=v) (show 0 < ks.length by omega)
  have:=Xh (k:=4) (v:=v) q1
  show valN bs s (tsz (.mk 4 v ks)) (.mk 4 v ks) = _
  rw [zahu (zakf _),if_neg (by omega),if_neg (by omega),if_pos rfl,zafj bs s n _ q2 _ (by omega),zafj bs s m _ q3 _ (by omega)]
theorem valF_or {bs:List Tree} {s v:Int} {ks:List Tree} (h:Valu (.mk 5 v ks)):valF bs s (.mk 5 v ks) = (valF bs s (nth ks 0) || valF bs s (nth ks 1)):=by
  obtain ⟨q1,⟨n,q2⟩,m,q3⟩:=h.at.2 (.inr rfl)
  have:=Xh (k:=5) (v:=v) (show 0 < ks.length by omega)
  have:=Xh (k:=5) (v:=v) q1
  show valN bs s (tsz (.mk 5 v ks)) (.mk 5 v ks) = _
  rw [zahu (zakf _),if_neg (by omega),if_neg (by omega),if_neg (by omega),if_pos rfl,zafj bs s n _ q2 _ (by omega),zafj bs s m _ q3 _ (by omega)]
theorem valF_true {bs:List Tree} {s v:Int} {ks:List Tree}:valF bs s (.mk 1 v ks) = true:=by
  show valN bs s (tsz (.mk 1 v ks)) (.mk 1 v ks) = _
  rw [zahu (zakf _),if_pos rfl]
theorem valF_has {bs:List Tree} {s k v:Int} {ks:List Tree} (h1:¬ k = 1) (h3:¬ k = 3) (h4:¬ k = 4) (h5:¬ k = 5):valF bs s (.mk k v ks) = hasF s (findI (fun z=>B (TEq z (.mk k v ks))) bs):=by
  show valN bs s (tsz (.mk k v ks)) (.mk k v ks) = _
  rw [zahu (zakf _),if_neg h1,if_neg h3,if_neg h4,if_neg h5]

@[go_sem] def zafo (n_:Nat):Con:=.pure fun
  | [.list n_bs c_bs,.int .i64 s,.st [.int .i64 k,.int .i64 v,.list n_ks c_ks]]=>((Is cX n_bs c_bs) ∧ (Is cX n_ks c_ks) ∧ (Valu (.mk k v (de cX c_ks))) ∧ (tsz (.mk k v (de cX c_ks)) < n_),.bool (valF (de cX c_bs) s (.mk k v (de cX c_ks))))
  | _=>(False,.any)
theorem zahb {n_:Nat} (ih:∀ (bs:List Tree) (s:Int) (k:Int) (v:Int) (ks:List Tree) (hv:Valu (.mk k v ks)) (hm_:tsz (.mk k v ks) < n_),Pure Tryd.prog 64 [li cX bs,.int .i64 s,.st [.int .i64 k,.int .i64 v,li cX ks]] (.bool (valF bs s (.mk k v ks)))):ConOk Tryd.prog 64 (zafo n_):=by
  refine ⟨Qq Tryd.func64 (by decide) rfl,fun args h=>?_⟩
  revert h
  dsimp only
  split
  · intro h
    obtain ⟨⟨bs,rfl,rfl⟩,⟨ks,rfl,rfl⟩,hv,hm_⟩:=h
    try simp only [Qj] at *
    exact ⟨ih bs _ _ _ ks hv hm_,by simp [go_sem]⟩
  · intro h
    exact h.elim
set_option maxHeartbeats 8000000 in
theorem zaip:∀ (n_:Nat),∀ (bs:List Tree) (s:Int) (k:Int) (v:Int) (ks:List Tree) (hv:Valu (.mk k v ks)) (hm_:tsz (.mk k v ks) < n_),Pure Tryd.prog 64 [li cX bs,.int .i64 s,.st [.int .i64 k,.int .i64 v,li cX ks]] (.bool (valF bs s (.mk k v ks))):=by
  intro n_
  induction n_ with
  | zero=>intros;omega
  | succ n_ ih =>
  intro bs s k v ks hv hm_
  have Γr_ok:=Qp Γy16_ok (zahb ih)
  refine Pure.of_walk Tryd.func64 rfl (by simp [Tryd.f64]) (by simp [-zd,go_sem]) fun B hK=>?_
  obtain ⟨v1,v2⟩:=hv.at
  all_goals (repeat' (first
 | refine Qu ?_
 | refine Qc (id:=0) Γr_ok [] (by kernel_rfl) ?_;simp [-zg,-zd,↓Qb,↓Qa,go_sem];try (refine Xn hK 5 ?_;simp [go_sem])
 | refine Qc (id:=1) Γr_ok [] (by kernel_rfl) ?_;simp [-zg,-zd,↓Qb,↓Qa,go_sem]
 | refine Qc (id:=2) Γr_ok [] (by kernel_rfl) ?_;simp [-zg,-zd,↓Qb,↓Qa,go_sem]
 | refine Qc (id:=3) Γr_ok [] (by kernel_rfl) ?_;simp [-zg,-zd,↓Qb,↓Qa,go_sem]
 | refine Qc (id:=4) Γr_ok [] (by kernel_rfl) ?_;simp [-zg,-zd,↓Qb,↓Qa,go_sem]
 | ((obtain ⟨qk,qw⟩:=v1 (by omega));(have qt:=Xh (k:=k) (v:=v) qk));refine Qc (id:=5) Γr_ok [] (by kernel_rfl) ?_;simp [-zg,-zd,↓Qb,↓Qa,go_sem,qk,Qg qk,zsP qk,Zi (f:=cX) qk,(show 3 ≤ ks.length * 3 by omega),(show tsz (nth ks 0) < n_ by omega),Tree.eta,qw]
 | refine Qc (id:=6) Γr_ok [] (by kernel_rfl) ?_;simp [-zg,-zd,↓Qb,↓Qa,go_sem]
 | ((obtain ⟨qj,qw,qx⟩:=v2 (by omega));(have qk:0 < ks.length:=(by omega));(have qt:=Xh (k:=k) (v:=v) qk);(have qu:=Xh (k:=k) (v:=v) qj));refine Qc (id:=7) Γr_ok [30] (by kernel_rfl) ?_;simp [-zg,-zd,↓Qb,↓Qa,go_sem,qk,Qg qk,zsP qk,qj,Zi (f:=cX) qk,(show 3 ≤ ks.length * 3 by omega),(show (cat cX ks).drop 3 = cat cX (ks.drop 1) from Zw (f:=cX) (sz:=3) ks 1),(show 3 ≤ ks.length * 3 - 3 by omega),(show 3 ≤ (ks.length - 1) * 3 by omega),(show (1:Int) < (ks.length:Int) by omega),zsP qj,(show tsz (nth ks 0) < n_ by omega),(show tsz (nth ks 1) < n_ by omega),Tree.eta,qw,qx];try (refine ⟨fun s7a=>?_,fun s7a=>?_⟩ <;> (try simp [B_iff,B_not] at s7a) <;> try (refine ⟨fun s7b=>?_,fun s7b=>?_⟩ <;> (try simp [B_iff,B_not] at s7b)))
 | refine Qc (id:=8) Γr_ok [] (by kernel_rfl) ?_;simp [-zg,-zd,↓Qb,↓Qa,go_sem]
 | ((obtain ⟨qj,qw,qx⟩:=v2 (by omega));(have qk:0 < ks.length:=(by omega));(have qt:=Xh (k:=k) (v:=v) qk);(have qu:=Xh (k:=k) (v:=v) qj));refine Qc (id:=9) Γr_ok [48] (by kernel_rfl) ?_;simp [-zg,-zd,↓Qb,↓Qa,go_sem,qk,Qg qk,zsP qk,qj,Zi (f:=cX) qk,(show 3 ≤ ks.length * 3 by omega),(show (cat cX ks).drop 3 = cat cX (ks.drop 1) from Zw (f:=cX) (sz:=3) ks 1),(show 3 ≤ ks.length * 3 - 3 by omega),(show 3 ≤ (ks.length - 1) * 3 by omega),(show (1:Int) < (ks.length:Int) by omega),zsP qj,(show tsz (nth ks 0) < n_ by omega),(show tsz (nth ks 1) < n_ by omega),Tree.eta,qw,qx];try (refine ⟨fun s9a=>?_,fun s9a=>?_⟩ <;> (try simp [B_iff,B_not] at s9a) <;> try (refine ⟨fun s9b=>?_,fun s9b=>?_⟩ <;> (try simp [B_iff,B_not] at s9b)))
 | refine Qc (id:=10) Γr_ok [] (by kernel_rfl) ?_;simp [-zg,-zd,↓Qb,↓Qa,go_sem,Tree.eta]
 | refine Qd (c:=.tmp 9) ?_;simp [-zg,-zd,↓Qb,↓Qa,go_sem];try first | (refine ⟨?_,?_⟩ <;> refine zA ?_) | (refine ⟨fun c9=>?_,fun c9=>?_⟩ <;> (try simp [B_iff,B_not] at c9))
 | refine Qd (c:=.tmp 11) ?_;simp [-zg,-zd,↓Qb,↓Qa,go_sem];try first | (refine ⟨?_,?_⟩ <;> refine zA ?_) | (refine ⟨fun c11=>?_,fun c11=>?_⟩ <;> (try simp [B_iff,B_not] at c11))
 | refine Qd (c:=.tmp 21) ?_;simp [-zg,-zd,↓Qb,↓Qa,go_sem];try first | (refine ⟨?_,?_⟩ <;> refine zA ?_) | (refine ⟨fun c21=>?_,fun c21=>?_⟩ <;> (try simp [B_iff,B_not] at c21))
 | refine Qd (c:=.tmp 39) ?_;simp [-zg,-zd,↓Qb,↓Qa,go_sem];try first | (refine ⟨?_,?_⟩ <;> refine zA ?_) | (refine ⟨fun c39=>?_,fun c39=>?_⟩ <;> (try simp [B_iff,B_not] at c39))
 | (refine Qh ?_)
 | (refine Qt ?_;simp [-zg,-zd,↓Qb,↓Qa,go_sem])
 | (refine Qs ?_;simp [-zg,-zd,↓Qb,↓Qa,go_sem])
 | (refine Qv ?_;simp [-zg,-zd,↓Qb,↓Qa,go_sem,Tryd.results64])
 | (intro hx;refine zA ?_)
 | (refine ⟨?_,?_⟩ <;> refine zA ?_)
 | (intro hx;constructor <;> intro hs)
 | (constructor <;> intro hs)
 | (refine ⟨?_,fun hs=>?_⟩;refine zA ?_)
 | (refine ⟨fun hs=>?_,?_⟩;rotate_left;refine zA ?_;rotate_left)))
  all_goals (first
 | (have e:k = 1:=(by omega);subst e;rw [valF_true];done)
 | (have e:k = 3:=(by omega);subst e;rw [valF_not hv];(first | done | (simp_all;done)))
 | (have e:k = 4:=(by omega);subst e;rw [valF_and hv];(first | done | (simp_all;done)))
 | (have e:k = 5:=(by omega);subst e;rw [valF_or hv];(first | done | (simp_all;done)))
 | (rw [valF_has (by omega) (by omega) (by omega) (by omega)])
 | skip)
  all_goals trace_state
theorem l7Value_pure (bs:List Tree) (s:Int) (k:Int) (v:Int) (ks:List Tree) (hv:Valu (.mk k v ks)):Pure Tryd.prog 64 [li cX bs,.int .i64 s,.st [.int .i64 k,.int .i64 v,li cX ks]] (.bool (valF bs s (.mk k v ks))):=zaip (tsz (.mk k v ks) + 1) bs s k v ks hv (by omega)
@[go_sem] def zadu:Con:=.pure fun
  | [.list n_bs c_bs,.int .i64 s,.st [.int .i64 k,.int .i64 v,.list n_ks c_ks]]=>((Is cX n_bs c_bs) ∧ (Is cX n_ks c_ks) ∧ (Valu (.mk k v (de cX c_ks))),.bool (valF (de cX c_bs) s (.mk k v (de cX c_ks))))
  | _=>(False,.any)
theorem zaiq:ConOk Tryd.prog 64 zadu:=by
  refine ⟨Qq Tryd.func64 (by decide) rfl,fun args h=>?_⟩
  revert h
  dsimp only
  split
  · intro h
    obtain ⟨⟨bs,rfl,rfl⟩,⟨ks,rfl,rfl⟩,hv⟩:=h
    try simp only [Qj] at *
    exact ⟨l7Value_pure bs _ _ _ ks hv,by simp [go_sem]⟩
  · intro h
    exact h.elim
@[go_sem] def Γy17:FuncId → Con:=ext Γy16 64 zadu
theorem Xq:∀ g,ConOk Tryd.prog g (Γy17 g):=Qp Γy16_ok zaiq

end
end Go.Proofs.YtnfldmfamnhpcaaDoor.Vm

