import Derived.Test.YtiilmjojffjhlaaGreatDoorHB
/-
  spec.l8Back, spec.l8Cycle, spec.l8States. No conditions.
-/
namespace Go.Proofs.YtiilmjojffjhlaaGreatDoor.Vm
open Go
open Nat renaming sub_pos_of_lt → zsP
open List renaming getD_eq_getElem?_getD → zg,drop_one → zd,replicate → zrP
noncomputable section
set_option linter.unusedVariables false
set_option linter.unusedSimpArgs false
set_option maxRecDepth 200000

@[go_sem] theorem is_lit1H (x:Int):Is cI 1 [D.int .i64 x] = True:=eq_true ⟨[x],rfl,rfl⟩
@[go_sem] theorem de_lit1H (x:Int):de cI [D.int .i64 x] = [x]:=Qm (f:=cI) [x]
@[go_sem] def zagh:List Int → D:=fun x=>fr 1 cI x
def Yb (p:List Int) (to:Int):List Int → Prop:=fun x=>1 ≤ x.length ∧ x.length ≤ 2097153
def zagg (p:List Int) (to:Int) (c:Any):List Int:=sel (Yb p to) ([0]) c
theorem l8Back_ok (p:List Int) (to:Int) (hB:BackOk p.length p) (h0:0 ≤ to) (h1:to < p.length) (c:Any):Yb p to (zagg p to c):=Xl (p:=Yb p to) (x0:=[0]) (by simp [Yb]) c
theorem l8Back_ret (p:List Int) (to:Int) {e_:Exit} {S_:St} (x:List Int) (he_:e_ = .ret ∨ e_ = .normal)
    (h1:(Qd Tryz.prog S_ Tryz.f136.results.toList).1 ∧ resD (Qd Tryz.prog S_ Tryz.f136.results.toList).2.1 = zagh x) (hg:Yb p to x) :
    retR Tryz.prog Tryz.f136 (fun c=>(zagh (zagg p to c),fun _=>none)) e_ S_:=Xi (enc:=zagh) x he_ h1 hg
set_option maxHeartbeats 8000000 in
theorem l8Back_pure (p:List Int) (to:Int) (hB:BackOk p.length p) (h0:0 ≤ to) (h1:to < p.length):PureR Tryz.prog 136 [li cI p,.int .i64 to] (fun c=>zagh (zagg p to c)):=by
  refine PureR.of_walk Tryz.func136 rfl (by simp [Tryz.f136]) (fun c=>by simp [-zd,go_sem]) fun B hK=>?_
  obtain ⟨-,hpr,rk,hrk,hrb⟩:=hB
  all_goals (repeat' (first
 | refine Qt ?_
 | ((have hut:(nth o 0).toNat < p.length:=(by omega));(have hpv:=hpr _ hut);(refine Zb 5 rfl fun b5 c5 j5 q5 hc5 hj5=>?_);(clear q5);(refine Qp (fun H1=>H1 b5 = some (cat cI o ++ zrP j5 .any)) (by simp [upd]) fun H1 g5=>?_));refine Qc (id:=2) Γh3_ok [] (by kernel_rfl) ?_;simp [-zg,-zd,↓Qb,↓Qa,go_sem,g1,Qk g1,zsP g1,g2,g3,g5,hut,Qk hut,zsP hut,(show 0 < o.length by omega),(show 0 < o.length + j5 by omega),(show 1 ≤ o.length + j5 by omega)]
 | ((obtain ⟨v,hv⟩:∃ v,nth p (nth o 0).toNat = v:=⟨_,rfl⟩);(rw [hv] at hpv);(have hv0:0 ≤ v:=(by omega));(have hv1:v < p.length:=hpv.2);(have hdec:=hrk _ hut (by omega));(rw [hv] at hdec);(obtain ⟨w,hw⟩:∃ w,v :: o = w:=⟨_,rfl⟩);(have hw0:nth w 0 = v:=(by rw [← hw];rfl));(have hwl:w.length = o.length + 1:=(by rw [← hw];rfl));(have hwc:cat cI w = D.int .i64 v :: cat cI o:=(by rw [← hw,Xe];rfl));(have hwm:rk (nth w 0).toNat < rk (nth o 0).toNat:=(by rw [hw0];exact hdec)));refine Qc (id:=3) Γh3_ok [] (by kernel_rfl) ?_;simp [-zg,-zd,↓Qb,↓Qa,go_sem,hv,g1,Qk g1,zsP g1,g2,g3,g5,hut,Qk hut,zsP hut,(show 0 < o.length by omega),(show 0 < o.length + j5 by omega),(show 1 ≤ o.length + j5 by omega),(show o.length ≤ o.length + j5 by omega),(show 1 + o.length ≤ 9223372036854775807 by omega),(show 2 * (1 + o.length) * 8 ≤ 281474976710656 by omega),Zf]
 | ((refine Zz 5 (b:=b5) (all:=cat cI o ++ zrP j5 D.any) rfl g5 (by omega) (by simp [Qv]) (by simp [Qv];omega) ?_));refine Qc (id:=4) Γh3_ok [] (by kernel_rfl) ?_;simp [-zg,-zd,↓Qb,↓Qa,go_sem,Zf]
 | (refine Qe (id:=0) (Qw (ι:=List Int) (fun o:List Int=>⟨(upd (upd (fun _=>.any) 0 (li cI p)) 5 (.fr 1 o.length (cat cI o))),fun _=>none⟩) (fun o=>1 ≤ o.length ∧ (0 ≤ nth o 0 ∧ nth o 0 < p.length) ∧ o.length + rk (nth o 0).toNat ≤ 2097153) (fun o=>rk (nth o 0).toNat) ([to]) ?_ ?_ ?_);exact ⟨Nat.le_refl _,⟨h0,h1⟩,by have:=hrb (nth [to] 0).toNat;show 1 + rk (nth [to] 0).toNat ≤ 2097153;omega⟩;((repeat' (first | exact Qg (by assumption) | exact Qi | exact ⟨fun _=>Or.inl rfl,fun _ _ h=>nomatch h⟩ | refine Qf ?_ ?_ | refine Qh ?_)) <;> simp [-zg,-zd,↓Qb,↓Qa,go_sem,Xg,cI]);rintro o ⟨g1,⟨g2,g3⟩,g4⟩)
 | (refine ⟨w,⟨by omega,by rw [hw0];exact ⟨hv0,hv1⟩,by rw [hw0];omega⟩,by first | omega | (simp;done) | (simp;omega),?_⟩;((repeat' (first | exact Qg (by assumption) | exact Qi | exact ⟨fun _=>Or.inl rfl,fun _ _ h=>nomatch h⟩ | refine Qf ?_ ?_ | refine Qh ?_)) <;> simp [-zg,-zd,↓Qb,↓Qa,go_sem,hwl,hwc,Nat.add_comm]))
 | (refine Qe ?_)
 | (refine Qs ?_;simp [-zg,-zd,↓Qb,↓Qa,go_sem])
 | (refine Qr ?_;simp [-zg,-zd,↓Qb,↓Qa,go_sem])
 | (refine Qq ?_;try simp [-zg,-zd,↓Qb,↓Qa,go_sem,Tryz.results136])
 | (intro hx;refine zA ?_)
 | (intro hx;change retR _ _ _ _ _)
 | (refine ⟨?_,?_⟩ <;> refine zA ?_)
 | (intro hx;constructor <;> intro hs)
 | (constructor <;> intro hs)
 | (refine ⟨?_,fun hs=>?_⟩;refine zA ?_)
 | (refine ⟨fun hs=>?_,?_⟩;rotate_left;refine zA ?_;rotate_left)
 | (refine Qj ?_;simp [-zg,-zd,↓Qb,↓Qa,go_sem];try first | (refine ⟨?_,?_⟩ <;> refine zA ?_) | (refine ⟨fun cz=>?_,fun cz=>?_⟩ <;> (try simp [B_iff,B_not] at cz)))
 | (refine Qc Γh3_ok [] (by kernel_rfl) ?_;simp [-zg,-zd,↓Qb,↓Qa,go_sem])
 | fail))
  all_goals (first
 | (refine l8Back_ret _ _ (o) ?_ ?_ ?_;(first | exact Or.inl rfl | exact Or.inr rfl);(focus (simp [-zg,-zd,↓Qb,↓Qa,go_sem,Tryz.results136];done));(focus (((simp only [Yb];omega));done)))
 | skip)
@[go_sem] def l8BackC:Con:=.prel fun
  | [.list n_p c_p,.int .i64 to]=>((Is cI n_p c_p) ∧ (BackOk (de cI c_p).length (de cI c_p)) ∧ (0 ≤ to) ∧ (to < (de cI c_p).length),fun c=>zagh (zagg (de cI c_p) to c))
  | _=>(False,fun _=>.any)
theorem l8BackC_ok:ConOk Tryz.prog 136 l8BackC:=by
  refine ⟨Qo Tryz.func136 (by decide) rfl,fun args h=>?_⟩
  revert h
  dsimp only
  split
  · intro h
    obtain ⟨⟨p,rfl,rfl⟩,hB,h0,h1⟩:=h
    try simp only [Qm] at *
    exact ⟨l8Back_pure p _ hB h0 h1,fun c=>by simp [go_sem]⟩
  · intro h
    exact h.elim
@[go_sem] def Γh4:FuncId → Con:=ext Γh3 136 l8BackC
theorem zapd:∀ g,ConOk Tryz.prog g (Γh4 g):=Qn Γh3_ok l8BackC_ok

@[go_sem] def zaen:List Int → D:=fun x=>fr 1 cI x
def Ui (nx:List (List Int)) (v:Int):List Int → Prop:=fun x=>x.length ≤ 2097153
def zagf (nx:List (List Int)) (v:Int) (c:Any):List Int:=sel (Ui nx v) ([]) c
theorem l8Cycle_ok (nx:List (List Int)) (v:Int) (hx:Zr nx) (hS:NextS nx) (hn:nx.length ≤ 100000) (hv0:0 ≤ v) (hv1:v < nx.length) (c:Any):Ui nx v (zagf nx v c):=Xl (p:=Ui nx v) (x0:=[]) (by simp [Ui]) c
theorem zamp (nx:List (List Int)) (v:Int) {e_:Exit} {S_:St} (x:List Int) (he_:e_ = .ret ∨ e_ = .normal)
    (h1:(Qd Tryz.prog S_ Tryz.f135.results.toList).1 ∧ resD (Qd Tryz.prog S_ Tryz.f135.results.toList).2.1 = zaen x) (hg:Ui nx v x) :
    retR Tryz.prog Tryz.f135 (fun c=>(zaen (zagf nx v c),fun _=>none)) e_ S_:=Xi (enc:=zaen) x he_ h1 hg
set_option maxHeartbeats 4000000 in
theorem l8Cycle_pure (nx:List (List Int)) (v:Int) (hx:Zr nx) (hS:NextS nx) (hn:nx.length ≤ 100000) (hv0:0 ≤ v) (hv1:v < nx.length):PureR Tryz.prog 135 [li cL nx,.int .i64 v] (fun c=>zaen (zagf nx v c)):=by
  refine PureR.of_walk Tryz.func135 rfl (by simp [Tryz.f135]) (fun c=>by simp [-zd,go_sem]) fun B hK=>?_
  have hvl:v.toNat < nx.length:=(by omega)
  all_goals (repeat' (first
 | refine Qt ?_
 | refine Qc (id:=1) zapd [] (by kernel_rfl) ?_;simp [-zg,-zd,↓Qb,↓Qa,go_sem,hvl,Qk hvl,zsP hvl,hv0,hv1]
 | refine Qc (id:=3) zapd [] (by kernel_rfl) ?_;simp [-zg,-zd,↓Qb,↓Qa,go_sem,hx,hS,hn,(show InN nx.length [v] from fun i hi=>by simp at hi;subst hi;exact ⟨hv0,hv1⟩),(show [v].length ≤ 100000 by simp),is_lit1H,de_lit1H];try (intro c3;have z0:=zaue nx [v] hx hS hn (fun i hi=>by simp at hi;subst hi;exact ⟨hv0,hv1⟩) (by simp) c3;generalize zadm nx [v] c3 = z at *;obtain ⟨p,qu⟩:=z;simp only [zabk] at z0;obtain ⟨hB,hQ1,hQ2⟩:=z0;have hpl:=hB.1;refine Qy 5 ?_;simp [go_sem];refine Qy 6 ?_;simp [go_sem])
 | ((obtain ⟨hu0,hu1⟩:=hQ2 k c26);(have hul:(nth qu k).toNat < nx.length:=(by omega)));refine Qc (id:=7) zapd [] (by kernel_rfl) ?_;simp [-zg,-zd,↓Qb,↓Qa,go_sem,c26,Qk c26,zsP c26,hu0,hu1,hul,Qk hul,zsP hul]
 | refine Qc (id:=8) zapd [] (by kernel_rfl) ?_;simp [-zg,-zd,↓Qb,↓Qa,go_sem,c26,Qk c26,zsP c26,hu0,hu1,(show BackOk p.length p by rw [hpl];exact hB),(show nth qu k < (p.length:Int) by omega)];try (intro c8;have z0:=l8Back_ok p (nth qu k) (by rw [hpl];exact hB) hu0 (by omega) c8;generalize zagg p (nth qu k) c8 = z at *;simp only [Yb] at z0)
 | refine Qc (id:=6) zapd [] (by kernel_rfl) ?_;simp [-zg,-zd,↓Qb,↓Qa,go_sem,wrapS (k:=k) (by omega)]
 | refine Qj (c:=.tmp 26) ?_;simp [-zg,-zd,↓Qb,↓Qa,go_sem];try first | (refine ⟨?_,?_⟩ <;> refine zA ?_) | (refine ⟨fun c26=>?_,fun c26=>?_⟩ <;> (try simp [B_iff,B_not] at c26))
 | (refine Qe (id:=0) (Qw (ι:=Nat) (fun k:Nat=>⟨(upd (upd (upd (upd (upd (fun _=>.any) 0 (li cL nx)) 1 (.int .i64 v)) 5 (li cI p)) 6 (li cI qu)) 7 (.int .i64 k)),fun _=>none⟩) (fun k=>k ≤ qu.length) (fun k=>qu.length - k) (0) ?_ ?_ ?_);exact Nat.zero_le _;((repeat' (first | exact Qg (by assumption) | exact Qi | refine Qf ?_ ?_ | refine Qh ?_)) <;> simp [-zg,-zd,↓Qb,↓Qa,go_sem]);rintro k hk)
 | (refine ⟨k + 1,by omega,by first | omega | (simp;done) | (simp;omega),?_⟩;((repeat' (first | exact Qg (by assumption) | exact Qi | refine Qf ?_ ?_ | refine Qh ?_)) <;> simp [-zg,-zd,↓Qb,↓Qa,go_sem]))
 | (refine Qe ?_)
 | (refine Qs ?_;simp [-zg,-zd,↓Qb,↓Qa,go_sem])
 | (refine Qr ?_;simp [-zg,-zd,↓Qb,↓Qa,go_sem])
 | (refine Qq ?_;try simp [-zg,-zd,↓Qb,↓Qa,go_sem,Tryz.results135])
 | (intro hx;refine zA ?_)
 | (intro hx;change retR _ _ _ _ _)
 | (refine ⟨?_,?_⟩ <;> refine zA ?_)
 | (intro hx;constructor <;> intro hs)
 | (constructor <;> intro hs)
 | (refine ⟨?_,fun hs=>?_⟩;refine zA ?_)
 | (refine ⟨fun hs=>?_,?_⟩;rotate_left;refine zA ?_;rotate_left)
 | (refine Qj ?_;simp [-zg,-zd,↓Qb,↓Qa,go_sem];try first | (refine ⟨?_,?_⟩ <;> refine zA ?_) | (refine ⟨fun cz=>?_,fun cz=>?_⟩ <;> (try simp [B_iff,B_not] at cz)))
 | (refine Qc zapd [] (by kernel_rfl) ?_;simp [-zg,-zd,↓Qb,↓Qa,go_sem])
 | fail))
  all_goals (first
 | (refine zamp _ _ ([v]) ?_ ?_ ?_;(first | exact Or.inl rfl | exact Or.inr rfl);(focus (simp [-zg,-zd,↓Qb,↓Qa,go_sem,Tryz.results135,Xg,cI];done));(focus ((simp [Ui]);done)))
 | (refine zamp _ _ (z) ?_ ?_ ?_;(first | exact Or.inl rfl | exact Or.inr rfl);(focus (simp [-zg,-zd,↓Qb,↓Qa,go_sem,Tryz.results135];done));(focus (((simp only [Ui];omega));done)))
 | (refine zamp _ _ (([]:List Int)) ?_ ?_ ?_;(first | exact Or.inl rfl | exact Or.inr rfl);(focus (simp [-zg,-zd,↓Qb,↓Qa,go_sem,Tryz.results135];done));(focus ((simp [Ui]);done)))
 | skip)
@[go_sem] def l8CycleC:Con:=.prel fun
  | [.list n_nx c_nx,.int .i64 v]=>((Is cL n_nx c_nx) ∧ (Zr (de cL c_nx)) ∧ (NextS (de cL c_nx)) ∧ ((de cL c_nx).length ≤ 100000) ∧ (0 ≤ v) ∧ (v < (de cL c_nx).length),fun c=>zaen (zagf (de cL c_nx) v c))
  | _=>(False,fun _=>.any)
theorem l8CycleC_ok:ConOk Tryz.prog 135 l8CycleC:=by
  refine ⟨Qo Tryz.func135 (by decide) rfl,fun args h=>?_⟩
  revert h
  dsimp only
  split
  · intro h
    obtain ⟨⟨nx,rfl,rfl⟩,hx,hS,hn,hv0,hv1⟩:=h
    try simp only [Qm] at *
    exact ⟨l8Cycle_pure nx _ hx hS hn hv0 hv1,fun c=>by simp [go_sem]⟩
  · intro h
    exact h.elim
@[go_sem] def Γh5:FuncId → Con:=ext Γh4 135 l8CycleC
theorem Γh5_ok:∀ g,ConOk Tryz.prog g (Γh5 g):=Qn zapd l8CycleC_ok

@[go_sem] def zadl:List Int → D:=fun x=>fr 1 cI x
def zant (xs:List Int) (n:Int):List Int → Prop:=fun x=>True
def zaez (xs:List Int) (n:Int) (c:Any):List Int:=sel (zant xs n) ([]) c
theorem l8States_ret (xs:List Int) (n:Int) {e_:Exit} {S_:St} (x:List Int) (he_:e_ = .ret ∨ e_ = .normal)
    (h1:(Qd Tryz.prog S_ Tryz.f137.results.toList).1 ∧ resD (Qd Tryz.prog S_ Tryz.f137.results.toList).2.1 = zadl x) (hg:zant xs n x) :
    retR Tryz.prog Tryz.f137 (fun c=>(zadl (zaez xs n c),fun _=>none)) e_ S_:=Xi (enc:=zadl) x he_ h1 hg
set_option maxHeartbeats 4000000 in
theorem l8States_pure (xs:List Int) (n:Int) (hn:1 ≤ n) (hl:xs.length ≤ 4194304):PureR Tryz.prog 137 [li cI xs,.int .i64 n] (fun c=>zadl (zaez xs n c)):=by
  refine PureR.of_walk Tryz.func137 rfl (by simp [Tryz.f137]) (fun c=>by simp [-zd,go_sem]) fun B hK=>?_
  (repeat' (first
 | refine Qt ?_
 | refine Qc (id:=5) Γh5_ok [] (by kernel_rfl) ?_;simp [-zg,-zd,↓Qb,↓Qa,go_sem,c11,Qk c11,zsP c11,(show ¬ n = 0 by omega),(show q.1.length ≤ 9223372036854775806 by omega),(show 2 * (q.1.length + 1) * 8 ≤ 281474976710656 by omega),(show q.1.length + 1 ≤ 9223372036854775807 by omega),Vd]
 | refine Qc (id:=4) Γh5_ok [] (by kernel_rfl) ?_;simp [-zg,-zd,↓Qb,↓Qa,go_sem,wrapS (k:=q.2) (by omega)]
 | refine Qj (c:=.tmp 11) ?_;simp [-zg,-zd,↓Qb,↓Qa,go_sem];try first | (refine ⟨?_,?_⟩ <;> refine zA ?_) | (refine ⟨fun c11=>?_,fun c11=>?_⟩ <;> (try simp [B_iff,B_not] at c11))
 | (refine Qe (id:=0) (Qw (ι:=List Int × Nat) (fun q:List Int × Nat=>⟨(upd (upd (upd (upd (fun _=>.any) 0 (li cI xs)) 1 (.int .i64 n)) 5 (.fr 1 q.1.length (cat cI q.1))) 6 (.int .i64 q.2)),fun _=>none⟩) (fun q=>q.2 ≤ xs.length ∧ q.1.length = q.2) (fun q=>xs.length - q.2) (([],0)) ?_ ?_ ?_);exact ⟨Nat.zero_le _,rfl⟩;((repeat' (first | exact Qg (by assumption) | exact Qi | refine Qf ?_ ?_ | refine Qh ?_)) <;> simp [-zg,-zd,↓Qb,↓Qa,go_sem,Xb]);rintro q ⟨g1,g2⟩)
 | (refine ⟨(q.1 ++ [IntKind.i64.wrap ((nth xs q.2).tdiv n)],q.2 + 1),⟨by dsimp only;omega,by simp;omega⟩,by first | omega | (simp;done) | (simp;omega),?_⟩;((repeat' (first | exact Qg (by assumption) | exact Qi | refine Qf ?_ ?_ | refine Qh ?_)) <;> simp [-zg,-zd,↓Qb,↓Qa,go_sem,Xk,Xg]))
 | (refine Qe ?_)
 | (refine Qs ?_;simp [-zg,-zd,↓Qb,↓Qa,go_sem])
 | (refine Qr ?_;simp [-zg,-zd,↓Qb,↓Qa,go_sem])
 | (refine Qq ?_;try simp [-zg,-zd,↓Qb,↓Qa,go_sem,Tryz.results137])
 | (intro hx;refine zA ?_)
 | (intro hx;change retR _ _ _ _ _)
 | (refine ⟨?_,?_⟩ <;> refine zA ?_)
 | (intro hx;constructor <;> intro hs)
 | (constructor <;> intro hs)
 | (refine ⟨?_,fun hs=>?_⟩;refine zA ?_)
 | (refine ⟨fun hs=>?_,?_⟩;rotate_left;refine zA ?_;rotate_left)
 | (refine Qc Γh5_ok [] (by kernel_rfl) ?_;simp [-zg,-zd,↓Qb,↓Qa,go_sem])
 | fail))
  all_goals (first
 | (refine l8States_ret _ _ (q.1) ?_ ?_ ?_;(first | exact Or.inl rfl | exact Or.inr rfl);(focus (simp [-zg,-zd,↓Qb,↓Qa,go_sem,Tryz.results137];done));(focus ((trivial);done)))
 | skip)
@[go_sem] def l8StatesC:Con:=.prel fun
  | [.list n_xs c_xs,.int .i64 n]=>((Is cI n_xs c_xs) ∧ (1 ≤ n) ∧ ((de cI c_xs).length ≤ 4194304),fun c=>zadl (zaez (de cI c_xs) n c))
  | _=>(False,fun _=>.any)
theorem l8StatesC_ok:ConOk Tryz.prog 137 l8StatesC:=by
  refine ⟨Qo Tryz.func137 (by decide) rfl,fun args h=>?_⟩
  revert h
  dsimp only
  split
  · intro h
    obtain ⟨⟨xs,rfl,rfl⟩,hn,hl⟩:=h
    try simp only [Qm] at *
    exact ⟨l8States_pure xs _ hn hl,fun c=>by simp [go_sem]⟩
  · intro h
    exact h.elim
@[go_sem] def Γh6:FuncId → Con:=ext Γh5 137 l8StatesC
theorem Γh6_ok:∀ g,ConOk Tryz.prog g (Γh6 g):=Qn Γh5_ok l8StatesC_ok


theorem AutOk.startsH {a:List Int} {n:Nat} {c:List Tr4} (h:AutOk a n c) {N:Nat} (hN:n ≤ N):Starts N a:=by
  have h1:=h.2.2.1
  have hge:=zaoi (a:=a) (k:=a.length) (fun i hi=>(h1 i hi).1)
  have hlt:∀ i j,i < j → j < a.length → nth a i < nth a j:=by
    intro i j hij
    induction j with
    | zero=>omega
    | succ j ih =>
      intro hj
      have h2:=(h1 (j + 1) hj).1
      simp only [ahead] at h2
      by_cases e:i = j
      · subst e;exact h2
      · have:=ih (by omega) (by omega);omega
  refine ⟨fun x hx=>?_,?_⟩
  · obtain ⟨i,hi,rfl⟩:=mem_idx hx
    have:=hge i hi
    have:=(h1 i hi).2
    omega
  · rw [List.nodup_iff_pairwise_ne,List.pairwise_iff_getElem]
    intro i j hi hj hij e
    have:=hlt i j hij hj
    rw [Xc hi,Xc hj] at this
    omega
theorem tmodH {k n r:Nat} (h:k % n = r):((k:Int)).tmod (n:Int) = (r:Int):=by
  rw [Int.tmod_eq_emod_of_nonneg (by omega),← h];exact (Int.natCast_emod k n).symm
theorem takeH (w:List Int) {n:Nat} (h:n ≤ w.length):(cat cI w).take n = cat cI (w.take n):=by
  conv=>lhs;rw [← List.take_append_drop n w,Xk]
  exact Zt (f:=cI) (w.take n) (cat cI (w.drop n)) (by simp;omega)

@[go_sem] def zagd:Int → D:=fun x=>.int .i64 x
def zaud (xs:List Int) (rs:List Int) (acc:Bool):Int → Prop:=fun _=>True
def zala (xs:List Int) (rs:List Int) (acc:Bool) (c:Any):Int:=sel (zaud xs rs acc) (0) c
theorem l9Rank_ret (xs:List Int) (rs:List Int) (acc:Bool) {e_:Exit} {S_:St} (x:Int) (he_:e_ = .ret ∨ e_ = .normal)
    (h1:(Qd Tryz.prog S_ Tryz.f139.results.toList).1 ∧ resD (Qd Tryz.prog S_ Tryz.f139.results.toList).2.1 = zagd x) (hg:zaud xs rs acc x) :
    retR Tryz.prog Tryz.f139 (fun c=>(zagd (zala xs rs acc c),fun _=>none)) e_ S_:=Xi (enc:=zagd) x he_ h1 hg
set_option maxHeartbeats 4000000 in
theorem l9Rank_pure (xs:List Int) (rs:List Int) (acc:Bool) (hr:InN rs.length xs) (hl:xs.length ≤ 1048576):PureR Tryz.prog 139 [li cI xs,li cI rs,.bool acc] (fun c=>zagd (zala xs rs acc c)):=by
  refine PureR.of_walk Tryz.func139 rfl (by simp [Tryz.f139]) (fun c=>by simp [-zd,go_sem]) fun B hK=>?_
  (repeat' (first
 | refine Qt ?_
 | ((obtain ⟨p0,p1⟩:=hr q.1 c13);(have hlt:(nth xs q.1).toNat < rs.length:=(by omega)));refine Qc (id:=5) Γh6_ok [] (by kernel_rfl) ?_;simp [-zg,-zd,↓Qb,↓Qa,go_sem,c13,Qk c13,zsP c13,p0,p1,hlt,Qk hlt,zsP hlt]
 | (first | (have d28:q.2 < nth rs (nth xs q.1).toNat:=c28;obtain ⟨v2,hv2⟩:∃ v2,v2 = nth rs (nth xs q.1).toNat:=⟨_,rfl⟩) | (have d28:q.2 < IntKind.i64.wrap (nth rs (nth xs q.1).toNat + 1):=c28;obtain ⟨v2,hv2⟩:∃ v2,v2 = IntKind.i64.wrap (nth rs (nth xs q.1).toNat + 1):=⟨_,rfl⟩) | (obtain ⟨v2,hv2⟩:∃ v2,v2 = q.2:=⟨_,rfl⟩));refine Qc (id:=4) Γh6_ok [] (by kernel_rfl) ?_;simp [-zg,-zd,↓Qb,↓Qa,go_sem,wrapS (k:=q.1) (by omega)]
 | refine Qj (c:=.tmp 13) ?_;simp [-zg,-zd,↓Qb,↓Qa,go_sem];try first | (refine ⟨?_,?_⟩ <;> refine zA ?_) | (refine ⟨fun c13=>?_,fun c13=>?_⟩ <;> (try simp [B_iff,B_not] at c13))
 | refine Qj (c:=.tmp 28) ?_;simp [-zg,-zd,↓Qb,↓Qa,go_sem];try first | (refine ⟨?_,?_⟩ <;> refine zA ?_) | (refine ⟨fun c28=>?_,fun c28=>?_⟩ <;> (try simp [B_iff,B_not] at c28))
 | (refine Qe (id:=0) (Qw (ι:=Nat × Int) (fun q:Nat × Int=>⟨(upd (upd (upd (upd (upd (fun _=>.any) 0 (li cI xs)) 1 (li cI rs)) 2 (.bool acc)) 7 (.int .i64 q.2)) 8 (.int .i64 q.1)),fun _=>none⟩) (fun q=>q.1 ≤ xs.length) (fun q=>xs.length - q.1) ((0,0)) ?_ ?_ ?_);exact Nat.zero_le _;((repeat' (first | exact Qg (by assumption) | exact Qi | refine Qf ?_ ?_ | refine Qh ?_)) <;> simp [-zg,-zd,↓Qb,↓Qa,go_sem]);rintro q hi)
 | (refine ⟨(q.1 + 1,v2),by dsimp only;omega,by first | omega | (simp;done) | (simp;omega),?_⟩;((repeat' (first | exact Qg (by assumption) | exact Qi | refine Qf ?_ ?_ | refine Qh ?_)) <;> simp [-zg,-zd,↓Qb,↓Qa,go_sem,hv2]))
 | (refine Qe ?_)
 | (refine Qs ?_;simp [-zg,-zd,↓Qb,↓Qa,go_sem])
 | (refine Qr ?_;simp [-zg,-zd,↓Qb,↓Qa,go_sem])
 | (refine Qq ?_;try simp [-zg,-zd,↓Qb,↓Qa,go_sem,Tryz.results139])
 | (intro hx;refine zA ?_)
 | (intro hx;change retR _ _ _ _ _)
 | (refine ⟨?_,?_⟩ <;> refine zA ?_)
 | (intro hx;constructor <;> intro hs)
 | (constructor <;> intro hs)
 | (refine ⟨?_,fun hs=>?_⟩;refine zA ?_)
 | (refine ⟨fun hs=>?_,?_⟩;rotate_left;refine zA ?_;rotate_left)
 | (refine Qj ?_;simp [-zg,-zd,↓Qb,↓Qa,go_sem];try first | (refine ⟨?_,?_⟩ <;> refine zA ?_) | (refine ⟨fun cz=>?_,fun cz=>?_⟩ <;> (try simp [B_iff,B_not] at cz)))
 | (refine Qc Γh6_ok [] (by kernel_rfl) ?_;simp [-zg,-zd,↓Qb,↓Qa,go_sem])
 | fail))
  all_goals (first
 | (refine l9Rank_ret _ _ _ (q.2) ?_ ?_ ?_;(first | exact Or.inl rfl | exact Or.inr rfl);(focus (simp [-zg,-zd,↓Qb,↓Qa,go_sem,Tryz.results139];done));(focus ((trivial);done)))
 | skip)
@[go_sem] def l9RankC:Con:=.prel fun
  | [.list n_xs c_xs,.list n_rs c_rs,.bool acc]=>((Is cI n_xs c_xs) ∧ (Is cI n_rs c_rs) ∧ (InN (de cI c_rs).length (de cI c_xs)) ∧ ((de cI c_xs).length ≤ 1048576),fun c=>zagd (zala (de cI c_xs) (de cI c_rs) acc c))
  | _=>(False,fun _=>.any)
theorem l9RankC_ok:ConOk Tryz.prog 139 l9RankC:=by
  refine ⟨Qo Tryz.func139 (by decide) rfl,fun args h=>?_⟩
  revert h
  dsimp only
  split
  · intro h
    obtain ⟨⟨xs,rfl,rfl⟩,⟨rs,rfl,rfl⟩,hr,hl⟩:=h
    try simp only [Qm] at *
    exact ⟨l9Rank_pure xs rs _ hr hl,fun c=>by simp [go_sem]⟩
  · intro h
    exact h.elim
@[go_sem] def Γh7:FuncId → Con:=ext Γh6 139 l9RankC
theorem Zh:∀ g,ConOk Tryz.prog g (Γh7 g):=Qn Γh6_ok l9RankC_ok

@[go_sem] def zage:List Int → D:=fun x=>fr 1 cI x
def zadj (nx:List (List Int)) (a:List Int) (bb:List Bool) (ec:List Tr4):List Int → Prop:=fun x=>x.length = nx.length
def zahz (nx:List (List Int)) (a:List Int) (bb:List Bool) (ec:List Tr4) (c:Any):List Int:=sel (zadj nx a bb ec) (zrP nx.length 0) c
theorem l9Make_ok (nx:List (List Int)) (a:List Int) (bb:List Bool) (ec:List Tr4) (hx:Zr nx) (hS:NextS nx) (hn:nx.length ≤ 100000) (hb:1 ≤ bb.length) (hst:Starts nx.length a) (hal:a.length ≤ nx.length) (c:Any):zadj nx a bb ec (zahz nx a bb ec c):=Xl (p:=zadj nx a bb ec) (x0:=zrP nx.length 0) (by simp [zadj]) c
theorem l9Make_ret (nx:List (List Int)) (a:List Int) (bb:List Bool) (ec:List Tr4) {e_:Exit} {S_:St} (x:List Int) (he_:e_ = .ret ∨ e_ = .normal)
    (h1:(Qd Tryz.prog S_ Tryz.f100.results.toList).1 ∧ resD (Qd Tryz.prog S_ Tryz.f100.results.toList).2.1 = zage x) (hg:zadj nx a bb ec x) :
    retR Tryz.prog Tryz.f100 (fun c=>(zage (zahz nx a bb ec c),fun _=>none)) e_ S_:=Xi (enc:=zage) x he_ h1 hg
set_option maxHeartbeats 8000000 in
theorem l9Make_pure (nx:List (List Int)) (a:List Int) (bb:List Bool) (ec:List Tr4) (hx:Zr nx) (hS:NextS nx) (hn:nx.length ≤ 100000) (hb:1 ≤ bb.length) (hst:Starts nx.length a) (hal:a.length ≤ nx.length):PureR Tryz.prog 100 [li cL nx,.st [li cI a,li cB bb,li cT ec]] (fun c=>zage (zahz nx a bb ec c)):=by
  refine PureR.of_walk Tryz.func100 rfl (by simp [Tryz.f100]) (fun c=>by simp [-zd,go_sem]) fun B hK=>?_
  have hbf:=bfsE_ok hx hst
  all_goals (repeat' (first
 | refine Qt ?_
 | refine Qc (id:=0) Zh [] (by kernel_rfl) ?_;simp [-zg,-zd,↓Qb,↓Qa,go_sem];try ((refine Qy 3 ?_);simp [go_sem])
 | refine Qc (id:=2) Zh [] (by kernel_rfl) ?_;simp [-zg,-zd,↓Qb,↓Qa,go_sem,hx,hS,(show nx.length ≤ 1048576 by omega),hst,hal];try ((refine Qy 6 ?_);(simp [go_sem]);(have hnr:=hbf.rng);(have hnle:=hbf.le);(obtain ⟨ns,hns⟩:∃ ns,(bfsE nx a).2 = ns:=⟨_,rfl⟩);(rw [hns] at hnr hnle);(simp only [hns]))
 | refine Qc (id:=7) Zh [] (by kernel_rfl) ?_;simp [-zg,-zd,↓Qb,↓Qa,go_sem,rep_snocH,(show k ≤ 9223372036854775806 by omega),(show 2 * (k + 1) * 8 ≤ 281474976710656 by omega),(show k + 1 ≤ 9223372036854775807 by omega)]
 | refine Qc (id:=6) Zh [] (by kernel_rfl) ?_;simp [-zg,-zd,↓Qb,↓Qa,go_sem,wrapS (k:=k) (by omega)]
 | ((obtain rfl:k = nx.length:=by omega);(refine Zb 7 rfl fun b7 c7 j7 q7 hc7 hj7=>?_);(clear q7);(refine Qp (fun H1=>H1 b7 = some (cat cI (zrP nx.length (-1)) ++ zrP j7 .any)) (by simp [upd]) fun H1 w7=>?_));refine Qc (id:=8) Zh [] (by kernel_rfl) ?_;simp [-zg,-zd,↓Qb,↓Qa,go_sem]
 | ((obtain ⟨p0,p1⟩:=hnr q.1 c35);(have hun:(nth ns q.1).toNat < nx.length:=(by omega)));refine Qc (id:=11) Zh [] (by kernel_rfl) ?_;simp [-zg,-zd,↓Qb,↓Qa,go_sem,c35,Qk c35,zsP c35,g2,g3,p0,p1,hun,(show (nth ns q.1).toNat < nx.length + j7 by omega),(show (nth ns q.1).toNat + 1 ≤ nx.length + j7 by omega)];try ((obtain ⟨R2,hR⟩:∃ R2,q.2.1.set (nth ns q.1).toNat 0 = R2:=⟨_,rfl⟩);(have hR2:R2.length = nx.length:=(by rw [← hR,List.length_set];exact g2));(refine Qp (fun H1=>H1 b7 = some (cat cI R2 ++ zrP j7 .any)) (by simp [upd,hR]) fun H9 t7=>?_))
 | refine Qc (id:=10) Zh [] (by kernel_rfl) ?_;simp [-zg,-zd,↓Qb,↓Qa,go_sem,wrapS (k:=q.1) (by omega)]
 | refine Qc (id:=14) Zh [45] (by kernel_rfl) ?_;simp [-zg,-zd,↓Qb,↓Qa,go_sem,Xa (x:=(ns.length:Int) + 1) (by omega) (by omega)];try (refine ⟨fun s14a=>?_,fun s14a=>?_⟩ <;> (try simp [B_iff,B_not] at s14a) <;> try (refine ⟨fun s14b=>?_,fun s14b=>?_⟩ <;> (try simp [B_iff,B_not] at s14b)))
 | ((have hx9:x.1 ≤ ns.length + 1:=(by omega)));refine Qc (id:=16) Zh [] (by kernel_rfl) ?_;simp [-zg,-zd,↓Qb,↓Qa,go_sem]
 | refine Qc (id:=17) Zh [] (by kernel_rfl) ?_;simp [-zg,-zd,↓Qb,↓Qa,go_sem,Xa (x:=(ns.length:Int) - 1) (by omega) (by omega)]
 | ((have hy1:1 ≤ y.1:=(by omega));(have hyl:y.1 - 1 < ns.length:=(by omega));(have hyn:((y.1:Int) - 1).toNat = y.1 - 1:=(by omega));(obtain ⟨p0,p1⟩:=hnr (y.1 - 1) hyl);(obtain ⟨m,hm⟩:∃ m:Nat,nth ns (y.1 - 1) = (m:Int):=⟨(nth ns (y.1 - 1)).toNat,by omega⟩);(obtain ⟨r,hr⟩:∃ r,m % bb.length = r:=⟨_,rfl⟩);(have hrb:r < bb.length:=(by rw [← hr];exact Nat.mod_lt _ (by omega)));(have hml:m < nx.length:=(by omega));(have hrr:InN nx.length (nth nx m):=(fun i hi=>hx m hml i hi));(have hrr2:InN y.2.2.1.length (nth nx m):=(by rw [e2];exact hrr));(have hrl:=hS m hml));refine Qc (id:=20) Zh [] (by kernel_rfl) ?_;simp [-zg,-zd,↓Qb,↓Qa,go_sem,hyl,Qk hyl,zsP hyl,hyn,hm,(show (1:Int) ≤ (y.1:Int) by omega),(show (0:Int) ≤ (y.1:Int) - 1 by omega),(show (y.1:Int) - 1 < (ns.length:Int) by omega)]
 | refine Xr (id:=21) Zh mixed [(b7,cat cI y.2.2.1 ++ zrP j7 .any)] [] [13] (by kernel_rfl) (by kernel_rfl) ?_ ?_ ?_ <;> simp [-zg,-zd,↓Qb,↓Qa,go_sem,hml,Qk hml,zsP hml,tmodH hr,hrb,Qk hrb,zsP hrb,e2,e3,hrr,hrr2,hrl,(show ¬ (bb.length:Int) = 0 by omega),(show ¬ bb.length = 0 by omega),Zt (f:=cI) y.2.2.1 (zrP j7 D.any) (n:=nx.length) e2.symm,(show Is cI nx.length (cat cI y.2.2.1) = True from eq_true ⟨_,e2.symm,rfl⟩),(show nx.length ≤ nx.length + j7 by omega)];try ((intro c21);(generalize zala (nth nx m) y.2.2.1 (nth bb r) c21 = rr at *))
 | refine Qc (id:=22) Zh [] (by kernel_rfl) ?_;simp [-zg,-zd,↓Qb,↓Qa,go_sem,e2,e3,hml,(show m < nx.length + j7 by omega),(show m + 1 ≤ nx.length + j7 by omega)]
 | refine Qc (id:=23) Zh [] (by kernel_rfl) ?_;simp [-zg,-zd,↓Qb,↓Qa,go_sem,e2,e3,hml,(show m < nx.length + j7 by omega),(show m + 1 ≤ nx.length + j7 by omega)];try ((obtain ⟨R3,hR⟩:∃ R3,y.2.2.1.set m rr = R3:=⟨_,rfl⟩);(have hR3:R3.length = nx.length:=(by rw [← hR,List.length_set];exact e2));(refine Qp (fun H1=>H1 b7 = some (cat cI R3 ++ zrP j7 .any)) (by simp [upd,hR]) fun H8 t8=>?_))
 | (first | (have z9:=t8;obtain ⟨ch,hch⟩:∃ ch,ch = true:=⟨_,rfl⟩) | ((obtain ⟨ch,hch⟩:∃ ch,ch = y.2.1:=⟨_,rfl⟩);(obtain ⟨R3,hR⟩:∃ R3,y.2.2.1 = R3:=⟨_,rfl⟩);(have hR3:R3.length = nx.length:=(by rw [← hR];exact e2));(refine Qp (fun H1=>H1 b7 = some (cat cI R3 ++ zrP j7 .any)) (by dsimp only;rw [← hR];exact e3) fun H8 t8=>?_)));refine Qc (id:=19) Zh [] (by kernel_rfl) ?_;simp [-zg,-zd,↓Qb,↓Qa,go_sem,Xa (x:=(y.1:Int) - 1 - 1) (by omega) (by omega)]
 | refine Qc (id:=15) Zh [] (by kernel_rfl) ?_;simp [-zg,-zd,↓Qb,↓Qa,go_sem,wrapS (k:=x.1) (by omega)]
 | ((obtain ⟨kx,chx,R9,Hx⟩:=x);(dsimp only at *);(refine Zz 7 (b:=b7) (all:=cat cI R9 ++ zrP j7 D.any) rfl f3 (by omega) (by simp [Qv,f2]) (by simp [Qv,f2];omega) ?_));refine Qc (id:=25) Zh [] (by kernel_rfl) ?_;simp [-zg,-zd,↓Qb,↓Qa,go_sem,Zt (f:=cI) R9 (zrP j7 D.any) (n:=nx.length) f2.symm]
 | refine Qj (c:=.tmp 35) ?_;simp [-zg,-zd,↓Qb,↓Qa,go_sem];try first | (refine ⟨?_,?_⟩ <;> refine zA ?_) | (refine ⟨fun c35=>?_,fun c35=>?_⟩ <;> (try simp [B_iff,B_not] at c35))
 | (refine Qe (id:=0) (Qw (ι:=Nat) (fun k:Nat=>⟨(upd (upd (upd (upd (upd (upd (fun _=>.any) 0 (li cL nx)) 3 (.pd [li cI a,li cB bb,li cT ec])) 5 (.int .i64 bb.length)) 6 (li cI ns)) 7 (.fr 1 k (cat cI (zrP k (-1))))) 8 (.int .i64 k)),fun _=>none⟩) (fun k=>k ≤ nx.length) (fun k=>nx.length - k) (0) ?_ ?_ ?_);exact Nat.zero_le _;((repeat' (first | exact Qg (by assumption) | exact Qi | refine Qf ?_ ?_ | refine Qh ?_)) <;> simp [-zg,-zd,↓Qb,↓Qa,go_sem,Xb]);rintro k hk)
 | (refine ⟨k + 1,by omega,by first | omega | (simp;done) | (simp;omega),?_⟩;((repeat' (first | exact Qg (by assumption) | exact Qi | refine Qf ?_ ?_ | refine Qh ?_)) <;> simp [-zg,-zd,↓Qb,↓Qa,go_sem,Xb]))
 | (refine Qe (id:=2) (Qw (ι:=Nat × List Int × Hp) (fun q:Nat × List Int × Hp=>⟨(upd (upd (upd (upd (upd (upd (fun _=>.any) 0 (li cL nx)) 3 (.pd [li cI a,li cB bb,li cT ec])) 5 (.int .i64 bb.length)) 6 (li cI ns)) 7 (.sl b7 1 0 nx.length c7)) 9 (.int .i64 q.1)),q.2.2⟩) (fun q=>q.1 ≤ ns.length ∧ q.2.1.length = nx.length ∧ q.2.2 b7 = some (cat cI q.2.1 ++ zrP j7 .any)) (fun q=>ns.length - q.1) ((0,zrP nx.length (-1),H1)) ?_ ?_ ?_);exact ⟨Nat.zero_le _,by simp,w7⟩;((repeat' (first | exact Qg (by assumption) | exact Qi | refine Qf ?_ ?_ | refine Qh ?_)) <;> simp [-zg,-zd,↓Qb,↓Qa,go_sem]);rintro q ⟨g1,g2,g3⟩)
 | (refine ⟨(q.1 + 1,R2,H9),⟨by dsimp only;omega,hR2,t7⟩,by first | omega | (simp;done) | (simp;omega),?_⟩;((repeat' (first | exact Qg (by assumption) | exact Qi | refine Qf ?_ ?_ | refine Qh ?_)) <;> simp [-zg,-zd,↓Qb,↓Qa,go_sem]))
 | (refine Qe (id:=4) (Qw (ι:=Nat × Bool × List Int × Hp) (fun x:Nat × Bool × List Int × Hp=>⟨(upd (upd (upd (upd (upd (upd (upd (fun _=>.any) 0 (li cL nx)) 3 (.pd [li cI a,li cB bb,li cT ec])) 5 (.int .i64 bb.length)) 6 (li cI ns)) 7 (.sl b7 1 0 nx.length c7)) 10 (.bool x.2.1)) 11 (.int .i64 x.1)),x.2.2.2⟩) (fun x=>x.1 ≤ ns.length + 2 ∧ x.2.2.1.length = nx.length ∧ x.2.2.2 b7 = some (cat cI x.2.2.1 ++ zrP j7 .any)) (fun x=>ns.length + 2 - x.1) ((0,true,q.2.1,q.2.2)) ?_ ?_ ?_);exact ⟨by omega,g2,g3⟩;((repeat' (first | exact Qg (by assumption) | exact Qi | refine Qf ?_ ?_ | refine Qh ?_)) <;> simp [-zg,-zd,↓Qb,↓Qa,go_sem]);rintro x ⟨f1,f2,f3⟩)
 | (refine ⟨(x.1 + 1,y.2.1,y.2.2.1,y.2.2.2),⟨by dsimp only;omega,e2,e3⟩,by first | omega | (simp;done) | (simp;omega),?_⟩;((repeat' (first | exact Qg (by assumption) | exact Qi | refine Qf ?_ ?_ | refine Qh ?_)) <;> simp [-zg,-zd,↓Qb,↓Qa,go_sem]))
 | (refine Qe (id:=6) (Qw (ι:=Nat × Bool × List Int × Hp) (fun y:Nat × Bool × List Int × Hp=>⟨(upd (upd (upd (upd (upd (upd (upd (upd (fun _=>.any) 0 (li cL nx)) 3 (.pd [li cI a,li cB bb,li cT ec])) 5 (.int .i64 bb.length)) 6 (li cI ns)) 7 (.sl b7 1 0 nx.length c7)) 10 (.bool y.2.1)) 11 (.int .i64 x.1)) 12 (.int .i64 ((y.1:Int) - 1))),y.2.2.2⟩) (fun y=>y.1 ≤ ns.length ∧ y.2.2.1.length = nx.length ∧ y.2.2.2 b7 = some (cat cI y.2.2.1 ++ zrP j7 .any)) (fun y=>y.1) ((ns.length,false,x.2.2.1,x.2.2.2)) ?_ ?_ ?_);exact ⟨Nat.le_refl _,f2,f3⟩;((repeat' (first | exact Qg (by assumption) | exact Qi | refine Qf ?_ ?_ | refine Qh ?_)) <;> simp [-zg,-zd,↓Qb,↓Qa,go_sem]);rintro y ⟨e1,e2,e3⟩)
 | (refine ⟨(y.1 - 1,ch,R3,H8),⟨by dsimp only;omega,hR3,t8⟩,by first | omega | (simp;done) | (simp;omega),?_⟩;((repeat' (first | exact Qg (by assumption) | exact Qi | refine Qf ?_ ?_ | refine Qh ?_)) <;> simp [-zg,-zd,↓Qb,↓Qa,go_sem,hch,(show ((y.1 - 1:Nat):Int) - 1 = (y.1:Int) - 1 - 1 by omega)]))
 | (refine Qe ?_)
 | (refine Qs ?_;simp [-zg,-zd,↓Qb,↓Qa,go_sem])
 | (refine Qr ?_;simp [-zg,-zd,↓Qb,↓Qa,go_sem])
 | (refine Qq ?_;try simp [-zg,-zd,↓Qb,↓Qa,go_sem,Tryz.results100])
 | (intro hx;refine zA ?_)
 | (intro hx;change retR _ _ _ _ _)
 | (refine ⟨?_,?_⟩ <;> refine zA ?_)
 | (intro hx;constructor <;> intro hs)
 | (constructor <;> intro hs)
 | (refine ⟨?_,fun hs=>?_⟩;refine zA ?_)
 | (refine ⟨fun hs=>?_,?_⟩;rotate_left;refine zA ?_;rotate_left)
 | (refine Qj ?_;simp [-zg,-zd,↓Qb,↓Qa,go_sem];try first | (refine ⟨?_,?_⟩ <;> refine zA ?_) | (refine ⟨fun cz=>?_,fun cz=>?_⟩ <;> (try simp [B_iff,B_not] at cz)))
 | (refine Qc Zh [] (by kernel_rfl) ?_;simp [-zg,-zd,↓Qb,↓Qa,go_sem])
 | fail))
  all_goals (first
 | (refine l9Make_ret _ _ _ _ (R9) ?_ ?_ ?_;(first | exact Or.inl rfl | exact Or.inr rfl);(focus (simp [-zg,-zd,↓Qb,↓Qa,go_sem,Tryz.results100,f2];done));(focus (((simp only [zadj];exact f2));done)))
 | skip)
@[go_sem] def l9MakeC:Con:=.prel fun
  | [.list n_nx c_nx,.st [.list n_a c_a,.list n_bb c_bb,.list n_ec c_ec]]=>((Is cL n_nx c_nx) ∧ (Is cI n_a c_a) ∧ (Is cB n_bb c_bb) ∧ (Is cT n_ec c_ec) ∧ (Zr (de cL c_nx)) ∧ (NextS (de cL c_nx)) ∧ ((de cL c_nx).length ≤ 100000) ∧ (1 ≤ (de cB c_bb).length) ∧ (Starts (de cL c_nx).length (de cI c_a)) ∧ ((de cI c_a).length ≤ (de cL c_nx).length),fun c=>zage (zahz (de cL c_nx) (de cI c_a) (de cB c_bb) (de cT c_ec) c))
  | _=>(False,fun _=>.any)
theorem l9MakeC_ok:ConOk Tryz.prog 100 l9MakeC:=by
  refine ⟨Qo Tryz.func100 (by decide) rfl,fun args h=>?_⟩
  revert h
  dsimp only
  split
  · intro h
    obtain ⟨⟨nx,rfl,rfl⟩,⟨a,rfl,rfl⟩,⟨bb,rfl,rfl⟩,⟨ec,rfl,rfl⟩,hx,hS,hn,hb,hst,hal⟩:=h
    try simp only [Qm] at *
    exact ⟨l9Make_pure nx a bb ec hx hS hn hb hst hal,fun c=>by simp [go_sem]⟩
  · intro h
    exact h.elim
@[go_sem] def Γh8:FuncId → Con:=ext Γh7 100 l9MakeC
theorem Vx:∀ g,ConOk Tryz.prog g (Γh8 g):=Qn Zh l9MakeC_ok

end
end Go.Proofs.YtiilmjojffjhlaaGreatDoor.Vm

