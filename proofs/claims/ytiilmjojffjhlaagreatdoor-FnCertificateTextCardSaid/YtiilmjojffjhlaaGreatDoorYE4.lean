import Derived.Test.YtiilmjojffjhlaaGreatDoorYE2
/-
  Formulas: normal forms, subformulas, basic formulas; their values. No conditions.
-/
namespace Go.Proofs.YtiilmjojffjhlaaGreatDoor.Vm
open Go
open Nat renaming sub_pos_of_lt → zsP
open List renaming getD_eq_getElem?_getD → zg,drop_one → zd
noncomputable section
set_option linter.unusedVariables false
set_option linter.unusedSimpArgs false
set_option maxRecDepth 200000

@[go_sem] def Wt:Tree × Bool → D:=fun x=>.tup [sX x.1,.bool x.2]
theorem zato (x:Tree × Bool):dat (Wt x) = Wt x:=by simp [go_sem]
def Wq (k:Int) (v:Int) (ks:List Tree):Tree × Bool → Prop:=fun x=>(x.2 = true → ForOk x.1) ∧ (x.1.k = 0 ∨ WellF x.1)
def zafo (k:Int) (v:Int) (ks:List Tree) (x:(Tree × Bool) × D):Prop:=Wq k v ks x.1 ∧ dat x.2 = Wt x.1
def zadx (k:Int) (v:Int) (ks:List Tree) (c:Any):(Tree × Bool) × D:=sel (zafo k v ks) (((.mk 0 0 [],false):Tree × Bool),Wt ((.mk 0 0 [],false))) c
def zael (k:Int) (v:Int) (ks:List Tree) (c:Any):Tree × Bool:=(zadx k v ks c).1
theorem zalt (k:Int) (v:Int) (ks:List Tree)  (c:Any):zafo k v ks (zadx k v ks c):=by
  have hx:Wq k v ks ((.mk 0 0 [],false)):=by simp [Wq,Tree.k]
  exact Xl (p:=zafo k v ks) (x0:=(((.mk 0 0 [],false):Tree × Bool),Wt ((.mk 0 0 [],false)))) ⟨hx,zato _⟩ c
theorem zanx (k:Int) (v:Int) (ks:List Tree)  (c:Any):Wq k v ks (zael k v ks c):=(zalt k v ks  c).1
theorem zals (k:Int) (v:Int) (ks:List Tree) {e_:Exit} {S_:St} (x:Tree × Bool) (he_:e_ = .ret ∨ e_ = .normal)
    (h1:(Qd Tryz.prog S_ Tryz.f104.results.toList).1 ∧ dat (resD (Qd Tryz.prog S_ Tryz.f104.results.toList).2.1) = Wt x) (hg:Wq k v ks x) :
    retR Tryz.prog Tryz.f104 (fun c=>((zadx k v ks c).2,fun _=>none)) e_ S_ :=
  Xi (good:=zafo k v ks) (enc:=fun x:(Tree × Bool) × D=>x.2) (x,resD (Qd Tryz.prog S_ Tryz.f104.results.toList).2.1) he_ ⟨h1.1,rfl⟩ ⟨hg,h1.2⟩
theorem zatn (k:Int) (v:Int) (ks:List Tree)  : SpecR Tryz.prog 104 [.st [.int .i64 k,.int .i64 v,li cX ks]] (fun _=>none) (fun c=>((zadx k v ks c).2,fun _=>none)):=by
  refine SpecR.of_walk Tryz.func104 rfl (by simp [Tryz.f104]) fun B=>?_
  cases hs:Vm.B (ForOk (.mk k v ks))
  all_goals (repeat' (first
 | refine Qt ?_
 | refine Qc (id:=0) zalz [] (by kernel_rfl) ?_;simp [-zg,-zd,↓Qb,↓Qa,go_sem];try (refine Qy 1 ?_;simp [go_sem])
 | refine Qc (id:=1) zalz [] (by kernel_rfl) ?_;simp [-zg,-zd,↓Qb,↓Qa,go_sem,hs]
 | (have hS:ForOk (.mk k v ks):=(by rw [B_iff] at hs;exact hs);have hW:=hS.well);refine Qc (id:=3) zalz [] (by kernel_rfl) ?_;simp [-zg,-zd,↓Qb,↓Qa,go_sem,hW];try (intro c3;generalize Yg k v ks false c3 = z3 at *;refine Qy 4 ?_;simp [go_sem])
 | refine Qc (id:=4) zalz [] (by kernel_rfl) ?_;simp [-zg,-zd,↓Qb,↓Qa,go_sem,Tree.eta]
 | (refine Qe ?_)
 | (refine Qs ?_;simp [-zg,-zd,↓Qb,↓Qa,go_sem])
 | (refine Qr ?_;simp [-zg,-zd,↓Qb,↓Qa,go_sem])
 | (refine Qq ?_;try simp [-zg,-zd,↓Qb,↓Qa,go_sem,Tryz.results104])
 | (intro hx;refine zA ?_)
 | (intro hx;change retR _ _ _ _ _)
 | (refine ⟨?_,?_⟩ <;> refine zA ?_)
 | (intro hx;constructor <;> intro hs)
 | (constructor <;> intro hs)
 | (refine ⟨?_,fun hs=>?_⟩;refine zA ?_)
 | (refine ⟨fun hs=>?_,?_⟩;rotate_left;refine zA ?_;rotate_left)
 | (refine Qj ?_;simp [-zg,-zd,↓Qb,↓Qa,go_sem];try first | (refine ⟨?_,?_⟩ <;> refine zA ?_) | (refine ⟨fun cz=>?_,fun cz=>?_⟩ <;> (try simp [B_iff,B_not] at cz)))
 | (refine Qc zalz [] (by kernel_rfl) ?_;simp [-zg,-zd,↓Qb,↓Qa,go_sem])
 | fail))
  all_goals (first
 | (refine zals _ _ _ ((.mk 0 0 [],false)) ?_ ?_ ?_;(first | exact Or.inl rfl | exact Or.inr rfl);(focus (simp [-zg,-zd,↓Qb,↓Qa,go_sem,Tryz.results104,dat,li,Xb];done));(focus ((simp [Wq,Tree.k]);done)))
 | (refine zals _ _ _ ((z3,true)) ?_ ?_ ?_;(first | exact Or.inl rfl | exact Or.inr rfl);(focus (simp [-zg,-zd,↓Qb,↓Qa,go_sem,Tryz.results104,dat,Qz,li];done));(focus (((have h13:ForOk z3:=(by assumption);exact ⟨fun _=>h13,.inr h13.well⟩));done)))
 | skip)
@[go_sem] def zanl:Con:=.rel fun args H=>match args with
  | [.st [.int .i64 k,.int .i64 v,.list n_ks c_ks]]=>((Is cX n_ks c_ks),fun c=>(Wt (zael k v (de cX c_ks) c),H))
  | _=>(False,fun _=>(.any,H))
theorem NormalFormC_ok:ConOk Tryz.prog 104 zanl:=by
  refine ⟨Qo Tryz.func104 (by decide) rfl,fun args H h=>?_⟩
  revert h
  dsimp only
  split
  · intro h
    obtain ⟨ks,rfl,rfl⟩:=h
    try simp only [Qm] at *
    exact SpecR.enc ((SpecR.frame0 (zatn _ _ ks ) (H:=H)).shut) fun c=>Prod.ext (zalt _ _ _  c).2.symm rfl
  · intro h
    exact h.elim
@[go_sem] def Γy14:FuncId → Con:=ext Γy13 104 zanl
theorem Γy14_ok:∀ g,ConOk Tryz.prog g (Γy14 g):=Qn zalz NormalFormC_ok

def AllW (xs:List Tree):Prop:=∀ t,t ∈ xs → WellF t
theorem AllW.snoc {xs:List Tree} (h:AllW xs) {t:Tree} (ht:WellF t):AllW (xs ++ [t]):=fun u hu=>by
  rcases List.mem_append.1 hu with q | q
  · exact h u q
  · have:u = t:=by simpa using q
    rw [this];exact ht
theorem AllW.nil:AllW []:=fun t h=>nomatch h
theorem AllW.at {xs:List Tree} (h:AllW xs) {i:Nat} (hi:i < xs.length):WellF (nth xs i):=h _ (Xz hi)
def IsO (E:D):Prop:=E = .nil ∨ ∃ xs,E = .fr 3 (List.length xs) (cat cX xs)
def xsO (E:D):List Tree:=match E with | .fr _ _ cs=>de cX cs | _=>[]
@[go_sem] theorem isO_nil:IsO .nil = True:=eq_true (.inl rfl)
@[go_sem] theorem isO_fr (xs:List Tree):IsO (.fr 3 xs.length (cat cX xs)) = True:=eq_true (.inr ⟨xs,rfl⟩)
@[go_sem] theorem xsO_nil:xsO .nil = []:=rfl
@[go_sem] theorem xsO_fr (n:Nat) (xs:List Tree):xsO (.fr 3 n (cat cX xs)) = xs:=Qm xs
theorem tszs_take {ks:List Tree} {i:Nat} (h:i < ks.length):tszs (ks.take (i + 1)) = tszs (ks.take i) + tsz (nth ks i):=by
  have key:∀ (xs ys:List Tree),tszs (xs ++ ys) = tszs xs + tszs ys:=fun xs ys=>by
    induction xs with
    | nil=>simp [tszs]
    | cons x xs ih=>rw [List.cons_append,tszs,tszs,ih];omega
  rw [List.take_succ_eq_append_getElem h,key,← Xc h];simp [tszs]
theorem tszs_le {ks:List Tree} {i:Nat} (h:i ≤ ks.length):tszs (ks.take i) ≤ tszs ks:=by
  have key:∀ (xs ys:List Tree),tszs (xs ++ ys) = tszs xs + tszs ys:=fun xs ys=>by
    induction xs with
    | nil=>simp [tszs]
    | cons x xs ih=>rw [List.cons_append,tszs,tszs,ih];omega
  have:=key (ks.take i) (ks.drop i)
  rw [List.take_append_drop] at this
  omega
theorem zaok:∀ (d:Nat) (t:Tree),ShapeF d t → tsz t + 1 ≤ 2 ^ (d + 1)
  | 0,_,h=>h.elim
  | d + 1,.mk k v ks,h=>by
    have h2:=h.two
    have h5:=h.2.2.2.2
    simp only [Tree.ks] at h2 h5
    have hp:2 ^ (d + 1 + 1) = 2 * 2 ^ (d + 1):=by rw [Nat.pow_succ,Nat.mul_comm]
    have p1:2 ≤ 2 ^ (d + 1):=by rw [Nat.pow_succ];have:=Nat.one_le_two_pow (n:=d);omega
    rw [tsz,hp]
    match ks,h2,h5 with
    | [],_,_=>simp only [tszs];omega
    | [a],_,h5 =>
      have:=zaok d a (h5 0 (by simp))
      simp only [tszs];omega
    | [a,b],_,h5 =>
      have:=zaok d a (h5 0 (by simp))
      have:=zaok d b (h5 1 (by simp))
      simp only [tszs];omega
    | a :: b :: c :: l,h2,_=>simp at h2
theorem ForOk.tsz {t:Tree} (h:ForOk t):Vm.tsz t ≤ 127:=by have:=zaok 6 t h.1;omega

@[go_sem] def Ur:List Tree → D:=fun x=>.fr 3 x.length (cat cX x)
def zaeq (E:D) (k:Int) (v:Int) (ks:List Tree):List Tree → Prop:=fun x=>x.length ≤ (xsO E).length + tsz (.mk k v ks) ∧ AllW x
def Ux (E:D) (k:Int) (v:Int) (ks:List Tree) (c:Any):List Tree:=sel (zaeq E k v ks) (xsO E) c
theorem l5Subs_ok (E:D) (k:Int) (v:Int) (ks:List Tree) (hE:IsO E) (hA:AllW (xsO E)) (hw:WellF (.mk k v ks)) (hn:(xsO E).length + tsz (.mk k v ks) ≤ 1000000) (c:Any):zaeq E k v ks (Ux E k v ks c):=Xl (p:=zaeq E k v ks) (x0:=xsO E) (⟨Nat.le_add_right _ _,hA⟩) c
theorem l5Subs_ret (E:D) (k:Int) (v:Int) (ks:List Tree) {e_:Exit} {S_:St} (x:List Tree) (he_:e_ = .ret ∨ e_ = .normal)
    (h1:(Qd Tryz.prog S_ Tryz.f142.results.toList).1 ∧ resD (Qd Tryz.prog S_ Tryz.f142.results.toList).2.1 = Ur x) (hg:zaeq E k v ks x) :
    retR Tryz.prog Tryz.f142 (fun c=>(Ur (Ux E k v ks c),fun _=>none)) e_ S_:=Xi (enc:=Ur) x he_ h1 hg
@[go_sem] def l5SubsCn (n_:Nat):Con:=.rel fun args H=>match args with
  | [E,.st [.int .i64 k,.int .i64 v,.list n_ks c_ks]]=>((Is cX n_ks c_ks) ∧ (IsO E) ∧ (AllW (xsO E)) ∧ (WellF (.mk k v (de cX c_ks))) ∧ ((xsO E).length + tsz (.mk k v (de cX c_ks)) ≤ 1000000) ∧ (tsz (.mk k v (de cX c_ks)) < n_),fun c=>(Ur (Ux E k v (de cX c_ks) c),H))
  | _=>(False,fun _=>(.any,H))
theorem l5SubsCn_ok {n_:Nat} (ih:∀ (E:D) (k:Int) (v:Int) (ks:List Tree) (hE:IsO E) (hA:AllW (xsO E)) (hw:WellF (.mk k v ks)) (hn:(xsO E).length + tsz (.mk k v ks) ≤ 1000000) (hm_:tsz (.mk k v ks) < n_),SpecR Tryz.prog 142 [E,.st [.int .i64 k,.int .i64 v,li cX ks]] (fun _=>none) (fun c=>(Ur (Ux E k v ks c),fun _=>none))):ConOk Tryz.prog 142 (l5SubsCn n_):=by
  refine ⟨Qo Tryz.func142 (by decide) rfl,fun args H h=>?_⟩
  revert h
  dsimp only
  split
  · intro h
    obtain ⟨⟨ks,rfl,rfl⟩,hE,hA,hw,hn,hm_⟩:=h
    try simp only [Qm] at *
    exact (SpecR.frame0 (ih _ _ _ ks hE hA hw hn hm_) (H:=H))
  · intro h
    exact h.elim
set_option maxHeartbeats 8000000 in
theorem l5Subs_rec:∀ (n_:Nat),∀ (E:D) (k:Int) (v:Int) (ks:List Tree) (hE:IsO E) (hA:AllW (xsO E)) (hw:WellF (.mk k v ks)) (hn:(xsO E).length + tsz (.mk k v ks) ≤ 1000000) (hm_:tsz (.mk k v ks) < n_),SpecR Tryz.prog 142 [E,.st [.int .i64 k,.int .i64 v,li cX ks]] (fun _=>none) (fun c=>(Ur (Ux E k v ks c),fun _=>none)):=by
  intro n_
  induction n_ with
  | zero=>intros;omega
  | succ n_ ih =>
  intro E k v ks hE hA hw hn hm_
  have Γr_ok:=Qn Γy14_ok (l5SubsCn_ok ih)
  refine SpecR.of_walk Tryz.func142 rfl (by simp [Tryz.f142]) fun B=>?_
  obtain ⟨w1,w2,w3,w4⟩:=hw.at;have w5:=arF_le k;have hts:tsz (.mk k v ks) = 1 + tszs ks:=(by rw [tsz]);obtain ⟨xs,hxs⟩:∃ xs,xsO E = xs:=⟨_,rfl⟩;have hE2:E = .nil ∧ xs = [] ∨ E = .fr 3 xs.length (cat cX xs) ∧ True:=(by rcases hE with h | ⟨ys,h⟩;(left;subst h;exact ⟨rfl,by rw [← hxs];rfl⟩);(right;have e:ys = xs:=(by rw [← hxs,h];exact (Qm ys).symm);exact ⟨by rw [h,e],trivial⟩));rw [hxs] at hA hn;rcases hE2 with ⟨he,hx⟩ | ⟨he,hx⟩ <;> subst he
  all_goals (repeat' (first
 | refine Qt ?_
 | ((try (refine AW_nilfr 0 3 rfl ?_));simp only [go_sem]);refine Qc (id:=0) Γr_ok [] (by kernel_rfl) ?_;simp [-zg,-zd,↓Qb,↓Qa,go_sem];try (refine Qy 3 ?_;simp [go_sem])
 | (refine Wk 3 2 ⟨rfl,rfl⟩ fun hm=>?_);refine Qc (id:=1) Γr_ok [] (by kernel_rfl) ?_;simp [-zg,-zd,↓Qb,↓Qa,go_sem]
 | ((have qt:=Xt (k:=k) (v:=v) c10);(have qw:=w4 q.1 c10);(have qs:=tszs_take c10);(have ql:=tszs_le (ks:=ks) (i:=q.1 + 1) (by omega)));refine Qc (id:=4) Γr_ok [] (by kernel_rfl) ?_;simp [-zg,-zd,↓Qb,↓Qa,go_sem,c10,Qk c10,zsP c10,qw,g3,Tree.eta,(show tsz (nth ks q.1) < n_ by omega),(show q.2.length + tsz (nth ks q.1) ≤ 1000000 by omega)];try ((intro c4);(have z0:=l5Subs_ok (.fr 3 q.2.length (cat cX q.2)) (nth ks q.1).k (nth ks q.1).v (nth ks q.1).ks (.inr ⟨q.2,rfl⟩) (by rw [xsO_fr];exact g3) (by rw [Tree.eta];exact qw) (by rw [xsO_fr,Tree.eta];omega) c4);(simp only [zaeq,xsO_fr,Tree.eta] at z0);(generalize Ux (.fr 3 q.2.length (cat cX q.2)) (nth ks q.1).k (nth ks q.1).v (nth ks q.1).ks c4 = z at *);(obtain ⟨z1,z2⟩:=z0))
 | refine Qc (id:=3) Γr_ok [] (by kernel_rfl) ?_;simp [-zg,-zd,↓Qb,↓Qa,go_sem,wrapS (k:=q.1) (by omega)]
 | ((obtain ⟨i,o⟩:=q);(dsimp only at *);(have hlk:=tszs_le (ks:=ks) (Nat.le_refl ks.length));(obtain rfl:i = ks.length:=by omega);(rw [List.take_length] at g2 hlk);(refine Zb 0 rfl fun nb cp j hnb hcp hcj=>?_);(simp only [go_sem] at hnb ⊢));refine Qc (id:=5) Γr_ok [] (by kernel_rfl) ?_;simp [-zg,-zd,↓Qb,↓Qa,go_sem,Tree.eta]
 | refine Qc (id:=6) Γr_ok [] (by kernel_rfl) ?_;simp [-zg,-zd,↓Qb,↓Qa,go_sem,hw,(show o.length ≤ 9223372036854775806 by omega),(show 2 * (o.length + 1) * 40 ≤ 281474976710656 by omega),hcj,(show o.length * 3 ≤ o.length * 3 + j by omega)];try ((intro c6);(have z0:=l5Copy_ok k v ks hw c6);(simp only [zaet] at z0);(rw [z0]))
 | ((try (refine Zz 0 (b:=nb) (all:=cat cX o ++ List.replicate j D.any) rfl (by simp [upd]) (by omega) (by simp [Qv]) (by simp [Qv];omega) ?_)));refine Qc (id:=7) Γr_ok [] (by kernel_rfl) ?_;simp [-zg,-zd,↓Qb,↓Qa,go_sem]
 | refine Qj (c:=.tmp 10) ?_;simp [-zg,-zd,↓Qb,↓Qa,go_sem];try first | (refine ⟨?_,?_⟩ <;> refine zA ?_) | (refine ⟨fun c10=>?_,fun c10=>?_⟩ <;> (try simp [B_iff,B_not] at c10))
 | (refine Qe (id:=0) (Qw (ι:=Nat × List Tree) (fun q:Nat × List Tree=>⟨(upd (upd (upd (fun _=>.any) 0 (.fr 3 q.2.length (cat cX q.2))) 3 (.pd [.int .i64 k,.int .i64 v,li cX ks])) 5 (.int .i64 q.1)),fun _=>none⟩) (fun q=>q.1 ≤ ks.length ∧ q.2.length ≤ xs.length + tszs (ks.take q.1) ∧ AllW q.2) (fun q=>ks.length - q.1) ((0,xs)) ?_ ?_ ?_);exact ⟨Nat.zero_le _,Nat.le_add_right _ _,hA⟩;((repeat' (first | exact Qg (by assumption) | exact Qi | refine Qf ?_ ?_ | refine Qh ?_)) <;> simp [-zg,-zd,↓Qb,↓Qa,go_sem,hx,List.length_nil,Xb]);rintro q ⟨g1,g2,g3⟩)
 | (refine ⟨(q.1 + 1,z),⟨by dsimp only;omega,by dsimp only;omega,z2⟩,by first | omega | (simp;done) | (simp;omega),?_⟩;((repeat' (first | exact Qg (by assumption) | exact Qi | refine Qf ?_ ?_ | refine Qh ?_)) <;> simp [-zg,-zd,↓Qb,↓Qa,go_sem,hx,List.length_nil,Xb]))
 | (refine Qe ?_)
 | (refine Qs ?_;simp [-zg,-zd,↓Qb,↓Qa,go_sem])
 | (refine Qr ?_;simp [-zg,-zd,↓Qb,↓Qa,go_sem])
 | (refine Qq ?_;try simp [-zg,-zd,↓Qb,↓Qa,go_sem,Tryz.results142])
 | (intro hx;refine zA ?_)
 | (intro hx;change retR _ _ _ _ _)
 | (refine ⟨?_,?_⟩ <;> refine zA ?_)
 | (intro hx;constructor <;> intro hs)
 | (constructor <;> intro hs)
 | (refine ⟨?_,fun hs=>?_⟩;refine zA ?_)
 | (refine ⟨fun hs=>?_,?_⟩;rotate_left;refine zA ?_;rotate_left)
 | (refine Qj ?_;simp [-zg,-zd,↓Qb,↓Qa,go_sem];try first | (refine ⟨?_,?_⟩ <;> refine zA ?_) | (refine ⟨fun cz=>?_,fun cz=>?_⟩ <;> (try simp [B_iff,B_not] at cz)))
 | (refine Qc Γr_ok [] (by kernel_rfl) ?_;simp [-zg,-zd,↓Qb,↓Qa,go_sem])
 | fail))
  all_goals (first
 | (refine l5Subs_ret _ _ _ _ (o) ?_ ?_ ?_;(first | exact Or.inl rfl | exact Or.inr rfl);(focus (simp [-zg,-zd,↓Qb,↓Qa,go_sem,Tryz.results142,take_cX];done));(focus (((show o.length ≤ (xsO _).length + tsz (.mk k v ks) ∧ AllW o);rw [hxs];exact ⟨by omega,g3⟩);done)))
 | (refine l5Subs_ret _ _ _ _ (o ++ [.mk k v ks]) ?_ ?_ ?_;(first | exact Or.inl rfl | exact Or.inr rfl);(focus (simp [-zg,-zd,↓Qb,↓Qa,go_sem,Tryz.results142,Xk,Xg,cX_mk,li];done));(focus (((show (o ++ [Tree.mk k v ks]).length ≤ (xsO _).length + tsz (.mk k v ks) ∧ AllW (o ++ [.mk k v ks]));rw [hxs];exact ⟨by simp;omega,g3.snoc hw⟩);done)))
 | skip)
theorem l5Subs_pure (E:D) (k:Int) (v:Int) (ks:List Tree) (hE:IsO E) (hA:AllW (xsO E)) (hw:WellF (.mk k v ks)) (hn:(xsO E).length + tsz (.mk k v ks) ≤ 1000000):SpecR Tryz.prog 142 [E,.st [.int .i64 k,.int .i64 v,li cX ks]] (fun _=>none) (fun c=>(Ur (Ux E k v ks c),fun _=>none)):=l5Subs_rec (tsz (.mk k v ks) + 1) E k v ks hE hA hw hn (by omega)
@[go_sem] def l5SubsC:Con:=.rel fun args H=>match args with
  | [E,.st [.int .i64 k,.int .i64 v,.list n_ks c_ks]]=>((Is cX n_ks c_ks) ∧ (IsO E) ∧ (AllW (xsO E)) ∧ (WellF (.mk k v (de cX c_ks))) ∧ ((xsO E).length + tsz (.mk k v (de cX c_ks)) ≤ 1000000),fun c=>(Ur (Ux E k v (de cX c_ks) c),H))
  | _=>(False,fun _=>(.any,H))
theorem l5SubsC_ok:ConOk Tryz.prog 142 l5SubsC:=by
  refine ⟨Qo Tryz.func142 (by decide) rfl,fun args H h=>?_⟩
  revert h
  dsimp only
  split
  · intro h
    obtain ⟨⟨ks,rfl,rfl⟩,hE,hA,hw,hn⟩:=h
    try simp only [Qm] at *
    exact (SpecR.frame0 (l5Subs_pure _ _ _ ks hE hA hw hn) (H:=H))
  · intro h
    exact h.elim
@[go_sem] def Γy15:FuncId → Con:=ext Γy14 142 l5SubsC
theorem Wc:∀ g,ConOk Tryz.prog g (Γy15 g):=Qn Γy14_ok l5SubsC_ok

@[go_sem] def Wo:List Tree × Bool → D:=fun x=>.tup [li cX x.1,.bool x.2]
theorem zanq (x:List Tree × Bool):dat (Wo x) = Wo x:=by simp [go_sem]
def zaba (k:Int) (v:Int) (ks:List Tree):List Tree × Bool → Prop:=fun x=>x.1.length ≤ 5 ∧ AllW x.1
def zadc (k:Int) (v:Int) (ks:List Tree) (x:(List Tree × Bool) × D):Prop:=zaba k v ks x.1 ∧ dat x.2 = Wo x.1
def zabx (k:Int) (v:Int) (ks:List Tree) (c:Any):(List Tree × Bool) × D:=sel (zadc k v ks) ((([],false):List Tree × Bool),Wo (([],false))) c
def zaek (k:Int) (v:Int) (ks:List Tree) (c:Any):List Tree × Bool:=(zabx k v ks c).1
theorem zahr (k:Int) (v:Int) (ks:List Tree)  (c:Any):zadc k v ks (zabx k v ks c):=by
  have hx:zaba k v ks (([],false)):=⟨by simp,AllW.nil⟩
  exact Xl (p:=zadc k v ks) (x0:=((([],false):List Tree × Bool),Wo (([],false)))) ⟨hx,zanq _⟩ c
theorem zasp (k:Int) (v:Int) (ks:List Tree)  (c:Any):zaba k v ks (zaek k v ks c):=(zahr k v ks  c).1
theorem zahq (k:Int) (v:Int) (ks:List Tree) {e_:Exit} {S_:St} (x:List Tree × Bool) (he_:e_ = .ret ∨ e_ = .normal)
    (h1:(Qd Tryz.prog S_ Tryz.f103.results.toList).1 ∧ dat (resD (Qd Tryz.prog S_ Tryz.f103.results.toList).2.1) = Wo x) (hg:zaba k v ks x) :
    retR Tryz.prog Tryz.f103 (fun c=>((zabx k v ks c).2,fun _=>none)) e_ S_ :=
  Xi (good:=zadc k v ks) (enc:=fun x:(List Tree × Bool) × D=>x.2) (x,resD (Qd Tryz.prog S_ Tryz.f103.results.toList).2.1) he_ ⟨h1.1,rfl⟩ ⟨hg,h1.2⟩
set_option maxHeartbeats 8000000 in
theorem zanp (k:Int) (v:Int) (ks:List Tree)  : SpecR Tryz.prog 103 [.st [.int .i64 k,.int .i64 v,li cX ks]] (fun _=>none) (fun c=>((zabx k v ks c).2,fun _=>none)):=by
  refine SpecR.of_walk Tryz.func103 rfl (by simp [Tryz.f103]) fun B=>?_
  (repeat' (first
 | refine Qt ?_
 | refine Qc (id:=0) Wc [] (by kernel_rfl) ?_;simp [-zg,-zd,↓Qb,↓Qa,go_sem];try (refine Qy 1 ?_;simp [go_sem])
 | refine Qc (id:=1) Wc [] (by kernel_rfl) ?_;simp [-zg,-zd,↓Qb,↓Qa,go_sem];try ((intro c1);(have z0:=zanx k v ks c1);(generalize zael k v ks c1 = z1 at *);(obtain ⟨⟨gk,gv,gs⟩,okb⟩:=z1);(simp only [Wq] at z0);(obtain ⟨z2,z3⟩:=z0);(refine Qy 4 ?_);(simp [go_sem]))
 | ((have hF:ForOk (.mk gk gv gs):=z2 (by first | assumption | (simp_all;done)));(have hFw:=hF.well);(have hFt:=hF.tsz));refine Qc (id:=5) Wc [] (by kernel_rfl) ?_;simp [-zg,-zd,↓Qb,↓Qa,go_sem,hFw,AllW.nil,(show tsz (.mk gk gv gs) ≤ 1000000 by omega)];try ((intro c5);(have y0:=l5Subs_ok .nil gk gv gs (.inl rfl) AllW.nil hFw (by simp only [xsO_nil,List.length_nil];omega) c5);(simp only [zaeq,xsO_nil,List.length_nil] at y0);(generalize Ux .nil gk gv gs c5 = subs at *);(obtain ⟨y1,y2⟩:=y0);(refine Qy 7 ?_);(simp [go_sem,dat]))
 | refine Qc (id:=9) Wc [] (by kernel_rfl) ?_;simp [-zg,-zd,↓Qb,↓Qa,go_sem,c23,Qk c23,zsP c23]
 | refine Qc (id:=10) Wc [] (by kernel_rfl) ?_;simp [-zg,-zd,↓Qb,↓Qa,go_sem,c23,Qk c23,zsP c23,(show q.2.length ≤ 9223372036854775806 by omega),(show 2 * (q.2.length + 1) * 40 ≤ 281474976710656 by omega)];try ((have o4:=g3.snoc (y2.at c23));(have e4:=snoc_cX q.2 (nth subs q.1));(have o3:(q.2 ++ [nth subs q.1]).length = q.2.length + 1:=(by simp));(simp only [li] at e4);(rw [e4,← o3]);(generalize q.2 ++ [nth subs q.1] = o2 at *))
 | refine Qc (id:=8) Wc [] (by kernel_rfl) ?_;simp [-zg,-zd,↓Qb,↓Qa,go_sem,wrapS (k:=q.1) (by omega)]
 | ((refine Qy 6 ?_);(simp only [go_sem,dat,Qz,Xx]));refine Qc (id:=11) Wc [] (by kernel_rfl) ?_;simp [-zg,-zd,↓Qb,↓Qa,go_sem]
 | refine Qj (c:=.tmp 23) ?_;simp [-zg,-zd,↓Qb,↓Qa,go_sem];try first | (refine ⟨?_,?_⟩ <;> refine zA ?_) | (refine ⟨fun c23=>?_,fun c23=>?_⟩ <;> (try simp [B_iff,B_not] at c23))
 | (refine Qe (id:=0) (Qw (ι:=Nat × List Tree) (fun q:Nat × List Tree=>⟨(upd (upd (upd (fun _=>.any) 6 (.fr 3 q.2.length (cat cX q.2))) 7 (.list subs.length (cat cX subs))) 8 (.int .i64 q.1)),fun _=>none⟩) (fun q=>q.1 ≤ subs.length ∧ q.2.length ≤ q.1 ∧ AllW q.2) (fun q=>subs.length - q.1) ((0,[])) ?_ ?_ ?_);exact ⟨Nat.zero_le _,Nat.le_refl _,AllW.nil⟩;((repeat' (first | exact Qg (by assumption) | exact Qi | refine Qf ?_ ?_ | refine Qh ?_)) <;> simp [-zg,-zd,↓Qb,↓Qa,go_sem,List.length_nil,Xb]);rintro q ⟨g1,g2,g3⟩)
 | (refine ⟨(q.1 + 1,o2),⟨by dsimp only;omega,by dsimp only;omega,o4⟩,by first | omega | (simp;done) | (simp;omega),?_⟩;((repeat' (first | exact Qg (by assumption) | exact Qi | refine Qf ?_ ?_ | refine Qh ?_)) <;> simp [-zg,-zd,↓Qb,↓Qa,go_sem,List.length_nil,Xb]))
 | (refine Qe ?_)
 | (refine Qs ?_;simp [-zg,-zd,↓Qb,↓Qa,go_sem])
 | (refine Qr ?_;simp [-zg,-zd,↓Qb,↓Qa,go_sem])
 | (refine Qq ?_;try simp [-zg,-zd,↓Qb,↓Qa,go_sem,Tryz.results103])
 | (intro hx;refine zA ?_)
 | (intro hx;change retR _ _ _ _ _)
 | (refine ⟨?_,?_⟩ <;> refine zA ?_)
 | (intro hx;constructor <;> intro hs)
 | (constructor <;> intro hs)
 | (refine ⟨?_,fun hs=>?_⟩;refine zA ?_)
 | (refine ⟨fun hs=>?_,?_⟩;rotate_left;refine zA ?_;rotate_left)
 | ((fail_if_success change retR _ _ _ _ _);(refine ⟨(q.1 + 1,q.2),⟨by dsimp only;omega,by dsimp only;omega,g3⟩,by dsimp only;omega,?_⟩;((repeat' (first | exact Qg (by assumption) | exact Qi | refine Qf ?_ ?_ | refine Qh ?_)) <;> simp [-zg,-zd,go_sem])))
 | (refine Qj ?_;simp [-zg,-zd,↓Qb,↓Qa,go_sem];try first | (refine ⟨?_,?_⟩ <;> refine zA ?_) | (refine ⟨fun cz=>?_,fun cz=>?_⟩ <;> (try simp [B_iff,B_not] at cz)))
 | (refine Qc Wc [] (by kernel_rfl) ?_;simp [-zg,-zd,↓Qb,↓Qa,go_sem])
 | fail))
  all_goals (first
 | (refine zahq _ _ _ (([],false)) ?_ ?_ ?_;(first | exact Or.inl rfl | exact Or.inr rfl);(focus (simp [-zg,-zd,↓Qb,↓Qa,go_sem,Tryz.results103,dat,Qz,li,Xb];done));(focus ((exact ⟨by simp,AllW.nil⟩);done)))
 | (refine zahq _ _ _ ((q.2,true)) ?_ ?_ ?_;(first | exact Or.inl rfl | exact Or.inr rfl);(focus (simp [-zg,-zd,↓Qb,↓Qa,go_sem,Tryz.results103,dat,Qz,li,Xx];done));(focus ((exact ⟨by dsimp only;omega,g3⟩);done)))
 | skip)
@[go_sem] def zahp:Con:=.rel fun args H=>match args with
  | [.st [.int .i64 k,.int .i64 v,.list n_ks c_ks]]=>((Is cX n_ks c_ks),fun c=>(Wo (zaek k v (de cX c_ks) c),H))
  | _=>(False,fun _=>(.any,H))
theorem zaoh:ConOk Tryz.prog 103 zahp:=by
  refine ⟨Qo Tryz.func103 (by decide) rfl,fun args H h=>?_⟩
  revert h
  dsimp only
  split
  · intro h
    obtain ⟨ks,rfl,rfl⟩:=h
    try simp only [Qm] at *
    exact SpecR.enc ((SpecR.frame0 (zanp _ _ ks ) (H:=H)).shut) fun c=>Prod.ext (zahr _ _ _  c).2.symm rfl
  · intro h
    exact h.elim
@[go_sem] def Γy16:FuncId → Con:=ext Γy15 103 zahp
theorem Γy16_ok:∀ g,ConOk Tryz.prog g (Γy16 g):=Qn Wc zaoh

def valN (bs:List Tree) (s:Int):Nat → Tree → Bool
  | 0,_=>false
  | n + 1,t=>if t.k = 1 then true else if t.k = 3 then !valN bs s n (nth t.ks 0) else if t.k = 4 then valN bs s n (nth t.ks 0) && valN bs s n (nth t.ks 1) else if t.k = 5 then valN bs s n (nth t.ks 0) || valN bs s n (nth t.ks 1) else hasF s (findI (fun z=>B (TEq z t)) bs)
def VOk:Nat → Tree → Prop
  | 0,_=>False
  | n + 1,t=>(t.k = 3 → 0 < t.ks.length ∧ VOk n (nth t.ks 0)) ∧ (t.k = 4 ∨ t.k = 5 → 1 < t.ks.length ∧ VOk n (nth t.ks 0) ∧ VOk n (nth t.ks 1))
theorem VOk.ofShape:∀ (d:Nat) (t:Tree),ShapeF d t → VOk d t
  | 0,_,h=>h.elim
  | d + 1,t,h=>by
    obtain ⟨h1,h2,h3,h4,h5⟩:=h
    refine ⟨fun e=>?_,fun e=>?_⟩
    · have:t.ks.length = 1:=by unfold arF at h1;rw [if_neg (by omega),if_pos (by omega)] at h1;omega
      exact ⟨by omega,VOk.ofShape d _ (h5 0 (by omega))⟩
    · have:t.ks.length = 2:=by unfold arF at h1;rw [if_neg (by omega),if_neg (by omega),if_pos (by omega)] at h1;omega
      exact ⟨by omega,VOk.ofShape d _ (h5 0 (by omega)),VOk.ofShape d _ (h5 1 (by omega))⟩

theorem zapk {bs:List Tree} {s:Int} {n:Nat} (h:0 < n) {k v:Int} {ks:List Tree}:valN bs s n (.mk k v ks) = if k = 1 then true else if k = 3 then !valN bs s (n - 1) (nth ks 0) else if k = 4 then valN bs s (n - 1) (nth ks 0) && valN bs s (n - 1) (nth ks 1) else if k = 5 then valN bs s (n - 1) (nth ks 0) || valN bs s (n - 1) (nth ks 1) else hasF s (findI (fun z=>B (TEq z (.mk k v ks))) bs):=by
  obtain ⟨m,rfl⟩:∃ m,n = m + 1:=⟨n - 1,by omega⟩
  rfl
theorem VOk.at {n:Nat} {k v:Int} {ks:List Tree} (h:VOk n (.mk k v ks)):0 < n ∧ (k = 3 → 0 < ks.length ∧ VOk (n - 1) (nth ks 0)) ∧ (k = 4 ∨ k = 5 → 1 < ks.length ∧ VOk (n - 1) (nth ks 0) ∧ VOk (n - 1) (nth ks 1)):=by
  cases n with
  | zero=>exact h.elim
  | succ n=>exact ⟨by omega,h.1,h.2⟩
theorem WellF.vok {t:Tree} (h:WellF t):∃ n,VOk n t:=by obtain ⟨d,h⟩:=h;exact ⟨d,VOk.ofShape d t h⟩
theorem VOk.zero {t:Tree} (h:t.k = 0):VOk 1 t:=⟨fun e=>by omega,fun e=>by omega⟩
def Valu (t:Tree):Prop:=∃ n,VOk n t
theorem WellF.valu {t:Tree} (h:WellF t):Valu t:=h.vok
theorem Valu.zero {t:Tree} (h:t.k = 0):Valu t:=⟨1,VOk.zero h⟩
theorem Valu.at {k v:Int} {ks:List Tree} (h:Valu (.mk k v ks)):(k = 3 → 0 < ks.length ∧ Valu (nth ks 0)) ∧ (k = 4 ∨ k = 5 → 1 < ks.length ∧ Valu (nth ks 0) ∧ Valu (nth ks 1)):=by
  obtain ⟨n,h⟩:=h
  obtain ⟨h0,h1,h2⟩:=h.at
  exact ⟨fun e=>⟨(h1 e).1,_,(h1 e).2⟩,fun e=>⟨(h2 e).1,⟨_,(h2 e).2.1⟩,_,(h2 e).2.2⟩⟩
def valF (bs:List Tree) (s:Int) (t:Tree):Bool:=valN bs s (tsz t) t
theorem zatw (t:Tree):0 < tsz t:=by cases t;rw [tsz];omega
theorem zaku (bs:List Tree) (s:Int):∀ (n:Nat) (t:Tree),VOk n t → ∀ m,tsz t ≤ m → valN bs s m t = valF bs s t:=by
  have key:∀ (n:Nat) (t:Tree),VOk n t → ∀ m l,tsz t ≤ m → tsz t ≤ l → valN bs s m t = valN bs s l t:=by
    intro n
    induction n with
    | zero=>intro t h;exact h.elim
    | succ n ih =>
      intro t h m l hm hl
      obtain ⟨k,v,ks⟩:=t
      obtain ⟨h0,h1,h2⟩:=h.at
      have hp:=zatw (.mk k v ks)
      rw [zapk (by omega),zapk (by omega)]
      by_cases e1:k = 1
      · rw [if_pos e1,if_pos e1]
      rw [if_neg e1,if_neg e1]
      by_cases e3:k = 3
      · rw [if_pos e3,if_pos e3]
        obtain ⟨q1,q2⟩:=h1 e3
        have:=Xt (k:=k) (v:=v) q1
        rw [ih _ q2 (m - 1) (l - 1) (by omega) (by omega)]
      rw [if_neg e3,if_neg e3]
      by_cases e4:k = 4
      · rw [if_pos e4,if_pos e4]
        obtain ⟨q1,q2,q3⟩:=h2 (.inl e4)
        have:=Xt (k:=k) (v:=v) (show 0 < ks.length by omega)
        have:=Xt (k:=k) (v:=v) q1
        rw [ih _ q2 (m - 1) (l - 1) (by omega) (by omega),ih _ q3 (m - 1) (l - 1) (by omega) (by omega)]
      rw [if_neg e4,if_neg e4]
      by_cases e5:k = 5
      · rw [if_pos e5,if_pos e5]
        obtain ⟨q1,q2,q3⟩:=h2 (.inr e5)
        have:=Xt (k:=k) (v:=v) (show 0 < ks.length by omega)
        have:=Xt (k:=k) (v:=v) q1
        rw [ih _ q2 (m - 1) (l - 1) (by omega) (by omega),ih _ q3 (m - 1) (l - 1) (by omega) (by omega)]
      rw [if_neg e5,if_neg e5]
  intro n t h m hm
  exact key n t h m (tsz t) hm (Nat.le_refl _)
theorem valF_not {bs:List Tree} {s v:Int} {ks:List Tree} (h:Valu (.mk 3 v ks)):valF bs s (.mk 3 v ks) = !valF bs s (nth ks 0):=by
  obtain ⟨q1,n,q2⟩:=h.at.1 rfl
  have:=Xt (k:=3) (v:=v) q1
  show valN bs s (tsz (.mk 3 v ks)) (.mk 3 v ks) = _
  rw [zapk (zatw _),if_neg (by omega),if_pos rfl,zaku bs s n _ q2 _ (by omega)]
theorem valF_and {bs:List Tree} {s v:Int} {ks:List Tree} (h:Valu (.mk 4 v ks)):valF bs s (.mk 4 v ks) = (valF bs s (nth ks 0) && valF bs s (nth ks 1)):=by
  obtain ⟨q1,⟨n,q2⟩,m,q3⟩:=h.at.2 (.inl rfl)
  have:=Xt (k:=4) (v:=v) (show 0 < ks.length by omega)
  have:=Xt (k:=4) (v:=v) q1
  show valN bs s (tsz (.mk 4 v ks)) (.mk 4 v ks) = _
  rw [zapk (zatw _),if_neg (by omega),if_neg (by omega),if_pos rfl,zaku bs s n _ q2 _ (by omega),zaku bs s m _ q3 _ (by omega)]
theorem valF_or {bs:List Tree} {s v:Int} {ks:List Tree} (h:Valu (.mk 5 v ks)):valF bs s (.mk 5 v ks) = (valF bs s (nth ks 0) || valF bs s (nth ks 1)):=by
  obtain ⟨q1,⟨n,q2⟩,m,q3⟩:=h.at.2 (.inr rfl)
  have:=Xt (k:=5) (v:=v) (show 0 < ks.length by omega)
  have:=Xt (k:=5) (v:=v) q1
  show valN bs s (tsz (.mk 5 v ks)) (.mk 5 v ks) = _
  rw [zapk (zatw _),if_neg (by omega),if_neg (by omega),if_neg (by omega),if_pos rfl,zaku bs s n _ q2 _ (by omega),zaku bs s m _ q3 _ (by omega)]
theorem valF_true {bs:List Tree} {s v:Int} {ks:List Tree}:valF bs s (.mk 1 v ks) = true:=by
  show valN bs s (tsz (.mk 1 v ks)) (.mk 1 v ks) = _
  rw [zapk (zatw _),if_pos rfl]
theorem valF_has {bs:List Tree} {s k v:Int} {ks:List Tree} (h1:¬ k = 1) (h3:¬ k = 3) (h4:¬ k = 4) (h5:¬ k = 5):valF bs s (.mk k v ks) = hasF s (findI (fun z=>B (TEq z (.mk k v ks))) bs):=by
  show valN bs s (tsz (.mk k v ks)) (.mk k v ks) = _
  rw [zapk (zatw _),if_neg h1,if_neg h3,if_neg h4,if_neg h5]

@[go_sem] def zalb (n_:Nat):Con:=.pure fun
  | [.list n_bs c_bs,.int .i64 s,.st [.int .i64 k,.int .i64 v,.list n_ks c_ks]]=>((Is cX n_bs c_bs) ∧ (Is cX n_ks c_ks) ∧ (Valu (.mk k v (de cX c_ks))) ∧ (tsz (.mk k v (de cX c_ks)) < n_),.bool (valF (de cX c_bs) s (.mk k v (de cX c_ks))))
  | _=>(False,.any)
theorem zany {n_:Nat} (ih:∀ (bs:List Tree) (s:Int) (k:Int) (v:Int) (ks:List Tree) (hv:Valu (.mk k v ks)) (hm_:tsz (.mk k v ks) < n_),Pure Tryz.prog 106 [li cX bs,.int .i64 s,.st [.int .i64 k,.int .i64 v,li cX ks]] (.bool (valF bs s (.mk k v ks)))):ConOk Tryz.prog 106 (zalb n_):=by
  refine ⟨Qo Tryz.func106 (by decide) rfl,fun args h=>?_⟩
  revert h
  dsimp only
  split
  · intro h
    obtain ⟨⟨bs,rfl,rfl⟩,⟨ks,rfl,rfl⟩,hv,hm_⟩:=h
    try simp only [Qm] at *
    exact ⟨ih bs _ _ _ ks hv hm_,by simp [go_sem]⟩
  · intro h
    exact h.elim
set_option maxHeartbeats 8000000 in
theorem zaqk:∀ (n_:Nat),∀ (bs:List Tree) (s:Int) (k:Int) (v:Int) (ks:List Tree) (hv:Valu (.mk k v ks)) (hm_:tsz (.mk k v ks) < n_),Pure Tryz.prog 106 [li cX bs,.int .i64 s,.st [.int .i64 k,.int .i64 v,li cX ks]] (.bool (valF bs s (.mk k v ks))):=by
  intro n_
  induction n_ with
  | zero=>intros;omega
  | succ n_ ih =>
  intro bs s k v ks hv hm_
  have Γr_ok:=Qn Γy16_ok (zany ih)
  refine Pure.of_walk Tryz.func106 rfl (by simp [Tryz.f106]) (by simp [-zd,go_sem]) fun B hK=>?_
  obtain ⟨v1,v2⟩:=hv.at
  all_goals (repeat' (first
 | refine Qt ?_
 | refine Qc (id:=0) Γr_ok [] (by kernel_rfl) ?_;simp [-zg,-zd,↓Qb,↓Qa,go_sem];try (refine Xh hK 5 ?_;simp [go_sem])
 | ((obtain ⟨qk,qw⟩:=v1 (by omega));(have qt:=Xt (k:=k) (v:=v) qk));refine Qc (id:=5) Γr_ok [] (by kernel_rfl) ?_;simp [-zg,-zd,↓Qb,↓Qa,go_sem,qk,Qk qk,zsP qk,Jq (f:=cX) qk,(show 3 ≤ ks.length * 3 by omega),(show tsz (nth ks 0) < n_ by omega),Tree.eta,qw]
 | ((obtain ⟨qj,qw,qx⟩:=v2 (by omega));(have qk:0 < ks.length:=(by omega));(have qt:=Xt (k:=k) (v:=v) qk);(have qu:=Xt (k:=k) (v:=v) qj));refine Qc (id:=7) Γr_ok [30] (by kernel_rfl) ?_;simp [-zg,-zd,↓Qb,↓Qa,go_sem,qk,Qk qk,zsP qk,qj,Jq (f:=cX) qk,(show 3 ≤ ks.length * 3 by omega),(show (cat cX ks).drop 3 = cat cX (ks.drop 1) from Vb (f:=cX) (sz:=3) ks 1),(show 3 ≤ ks.length * 3 - 3 by omega),(show 3 ≤ (ks.length - 1) * 3 by omega),(show (1:Int) < (ks.length:Int) by omega),zsP qj,(show tsz (nth ks 0) < n_ by omega),(show tsz (nth ks 1) < n_ by omega),Tree.eta,qw,qx];try (refine ⟨fun s7a=>?_,fun s7a=>?_⟩ <;> (try simp [B_iff,B_not] at s7a) <;> try (refine ⟨fun s7b=>?_,fun s7b=>?_⟩ <;> (try simp [B_iff,B_not] at s7b)))
 | ((obtain ⟨qj,qw,qx⟩:=v2 (by omega));(have qk:0 < ks.length:=(by omega));(have qt:=Xt (k:=k) (v:=v) qk);(have qu:=Xt (k:=k) (v:=v) qj));refine Qc (id:=9) Γr_ok [48] (by kernel_rfl) ?_;simp [-zg,-zd,↓Qb,↓Qa,go_sem,qk,Qk qk,zsP qk,qj,Jq (f:=cX) qk,(show 3 ≤ ks.length * 3 by omega),(show (cat cX ks).drop 3 = cat cX (ks.drop 1) from Vb (f:=cX) (sz:=3) ks 1),(show 3 ≤ ks.length * 3 - 3 by omega),(show 3 ≤ (ks.length - 1) * 3 by omega),(show (1:Int) < (ks.length:Int) by omega),zsP qj,(show tsz (nth ks 0) < n_ by omega),(show tsz (nth ks 1) < n_ by omega),Tree.eta,qw,qx];try (refine ⟨fun s9a=>?_,fun s9a=>?_⟩ <;> (try simp [B_iff,B_not] at s9a) <;> try (refine ⟨fun s9b=>?_,fun s9b=>?_⟩ <;> (try simp [B_iff,B_not] at s9b)))
 | refine Qc (id:=10) Γr_ok [] (by kernel_rfl) ?_;simp [-zg,-zd,↓Qb,↓Qa,go_sem,Tree.eta]
 | (refine Qe ?_)
 | (refine Qs ?_;simp [-zg,-zd,↓Qb,↓Qa,go_sem])
 | (refine Qr ?_;simp [-zg,-zd,↓Qb,↓Qa,go_sem])
 | (refine Qq ?_;simp [-zg,-zd,↓Qb,↓Qa,go_sem,Tryz.results106])
 | (intro hx;refine zA ?_)
 | (refine ⟨?_,?_⟩ <;> refine zA ?_)
 | (intro hx;constructor <;> intro hs)
 | (constructor <;> intro hs)
 | (refine ⟨?_,fun hs=>?_⟩;refine zA ?_)
 | (refine ⟨fun hs=>?_,?_⟩;rotate_left;refine zA ?_;rotate_left)
 | (refine Qj ?_;simp [-zg,-zd,↓Qb,↓Qa,go_sem];try first | (refine ⟨?_,?_⟩ <;> refine zA ?_) | (refine ⟨fun cz=>?_,fun cz=>?_⟩ <;> (try simp [B_iff,B_not] at cz)))
 | (refine Qc Γr_ok [] (by kernel_rfl) ?_;simp [-zg,-zd,↓Qb,↓Qa,go_sem])
 | fail))
  all_goals (first
 | (have e:k = 1:=(by omega);subst e;rw [valF_true];done)
 | (have e:k = 3:=(by omega);subst e;rw [valF_not hv];(first | done | (simp_all;done)))
 | (have e:k = 4:=(by omega);subst e;rw [valF_and hv];(first | done | (simp_all;done)))
 | (have e:k = 5:=(by omega);subst e;rw [valF_or hv];(first | done | (simp_all;done)))
 | (rw [valF_has (by omega) (by omega) (by omega) (by omega)])
 | skip)
  all_goals trace_state
theorem l7Value_pure (bs:List Tree) (s:Int) (k:Int) (v:Int) (ks:List Tree) (hv:Valu (.mk k v ks)):Pure Tryz.prog 106 [li cX bs,.int .i64 s,.st [.int .i64 k,.int .i64 v,li cX ks]] (.bool (valF bs s (.mk k v ks))):=zaqk (tsz (.mk k v ks) + 1) bs s k v ks hv (by omega)
@[go_sem] def zaia:Con:=.pure fun
  | [.list n_bs c_bs,.int .i64 s,.st [.int .i64 k,.int .i64 v,.list n_ks c_ks]]=>((Is cX n_bs c_bs) ∧ (Is cX n_ks c_ks) ∧ (Valu (.mk k v (de cX c_ks))),.bool (valF (de cX c_bs) s (.mk k v (de cX c_ks))))
  | _=>(False,.any)
theorem zaql:ConOk Tryz.prog 106 zaia:=by
  refine ⟨Qo Tryz.func106 (by decide) rfl,fun args h=>?_⟩
  revert h
  dsimp only
  split
  · intro h
    obtain ⟨⟨bs,rfl,rfl⟩,⟨ks,rfl,rfl⟩,hv⟩:=h
    try simp only [Qm] at *
    exact ⟨l7Value_pure bs _ _ _ ks hv,by simp [go_sem]⟩
  · intro h
    exact h.elim
@[go_sem] def Γy17:FuncId → Con:=ext Γy16 106 zaia
theorem Yj:∀ g,ConOk Tryz.prog g (Γy17 g):=Qn Γy16_ok zaql

end
end Go.Proofs.YtiilmjojffjhlaaGreatDoor.Vm

