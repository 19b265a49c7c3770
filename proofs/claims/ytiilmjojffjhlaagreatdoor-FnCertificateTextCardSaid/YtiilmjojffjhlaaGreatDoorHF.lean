import Derived.Test.YtiilmjojffjhlaaGreatDoorHD
import Derived.Test.YtiilmjojffjhlaaGreatDoorRF
import Derived.Test.YtiilmjojffjhlaaGreatDoorYE9
/-
  spec.l8Find, spec.MakeCertificate. No conditions.
-/
namespace Go.Proofs.YtiilmjojffjhlaaGreatDoor.Vm
open Go
open Nat renaming sub_pos_of_lt → zsP
open List renaming getD_eq_getElem?_getD → zg,drop_one → zd
open Ne renaming symm → zS
noncomputable section
set_option linter.unusedVariables false
set_option linter.unusedSimpArgs false
set_option maxRecDepth 200000

@[go_sem] def Ye:(List Int × List Int) × Bool → D:=fun x=>.tup [.st [li cI x.1.1,li cI x.1.2],.bool x.2]
theorem l8Find_flat (x:(List Int × List Int) × Bool):dat (Ye x) = Ye x:=by simp [go_sem]
def zamo (ga:List Ints2) (gb:List (List Int)) (ls:List Int) (a:List Int) (bb:List Bool) (ec:List Tr4):(List Int × List Int) × Bool → Prop:=fun _=>True
def zaos (ga:List Ints2) (gb:List (List Int)) (ls:List Int) (a:List Int) (bb:List Bool) (ec:List Tr4) (x:((List Int × List Int) × Bool) × D):Prop:=zamo ga gb ls a bb ec x.1 ∧ dat x.2 = Ye x.1
def zajd (ga:List Ints2) (gb:List (List Int)) (ls:List Int) (a:List Int) (bb:List Bool) (ec:List Tr4) (c:Any):((List Int × List Int) × Bool) × D:=sel (zaos ga gb ls a bb ec) (((([],[]),false):(List Int × List Int) × Bool),Ye ((([],[]),false))) c
def l8Find_sel (ga:List Ints2) (gb:List (List Int)) (ls:List Int) (a:List Int) (bb:List Bool) (ec:List Tr4) (c:Any):(List Int × List Int) × Bool:=(zajd ga gb ls a bb ec c).1
theorem l8Find_okD (ga:List Ints2) (gb:List (List Int)) (ls:List Int) (a:List Int) (bb:List Bool) (ec:List Tr4) (hG:GraphOk ga gb) (hl:ls.length = ga.length) (hA:AutOk a bb.length ec) (c:Any):zaos ga gb ls a bb ec (zajd ga gb ls a bb ec c):=by
  have hx:zamo ga gb ls a bb ec ((([],[]),false)):=trivial
  exact Xl (p:=zaos ga gb ls a bb ec) (x0:=(((([],[]),false):(List Int × List Int) × Bool),Ye ((([],[]),false)))) ⟨hx,l8Find_flat _⟩ c
theorem l8Find_ret (ga:List Ints2) (gb:List (List Int)) (ls:List Int) (a:List Int) (bb:List Bool) (ec:List Tr4) {e_:Exit} {S_:St} (x:(List Int × List Int) × Bool) (he_:e_ = .ret ∨ e_ = .normal)
    (h1:(Qd Tryz.prog S_ Tryz.f99.results.toList).1 ∧ dat (resD (Qd Tryz.prog S_ Tryz.f99.results.toList).2.1) = Ye x) (hg:zamo ga gb ls a bb ec x) :
    retR Tryz.prog Tryz.f99 (fun c=>((zajd ga gb ls a bb ec c).2,fun _=>none)) e_ S_ :=
  Xi (good:=zaos ga gb ls a bb ec) (enc:=fun x:((List Int × List Int) × Bool) × D=>x.2) (x,resD (Qd Tryz.prog S_ Tryz.f99.results.toList).2.1) he_ ⟨h1.1,rfl⟩ ⟨hg,h1.2⟩
set_option maxHeartbeats 4000000 in
theorem l8Find_pure (ga:List Ints2) (gb:List (List Int)) (ls:List Int) (a:List Int) (bb:List Bool) (ec:List Tr4) (hG:GraphOk ga gb) (hl:ls.length = ga.length) (hA:AutOk a bb.length ec):SpecR Tryz.prog 99 [.st [li cP ga,li cL gb],li cI ls,.st [li cI a,li cB bb,li cT ec]] (fun _=>none) (fun c=>((zajd ga gb ls a bb ec c).2,fun _=>none)):=by
  refine SpecR.of_walk Tryz.func99 rfl (by simp [Tryz.f99]) fun B=>?_
  obtain ⟨n64,e2048⟩:=autN64 hA;have hg60:=hG.2.1;have hg1:=hG.1;have hn1:=hA.1;obtain ⟨N,hN⟩:∃ N,bb.length * ga.length = N:=⟨_,rfl⟩;have hN4:N ≤ 3840:=(by rw [← hN];exact Nat.mul_le_mul n64 hg60);have hbN:bb.length ≤ N:=(by rw [← hN];exact Nat.le_mul_of_pos_right _ hg1);have hst:=hA.startsH hbN;have hal:=hA.sizes.2.2.1
  all_goals (repeat' (first
 | refine Qt ?_
 | refine Qc (id:=0) Vx [] (by kernel_rfl) ?_;simp [-zg,-zd,↓Qb,↓Qa,go_sem];try ((refine Qy 3 ?_);simp [go_sem];(refine Qy 5 ?_);simp [go_sem])
 | refine Qc (id:=2) Vx [] (by kernel_rfl) ?_;simp [-zg,-zd,↓Qb,↓Qa,go_sem,hG,hl,hA];try (intro c2;have z0:=zakb ga gb ls a bb ec hG hl hA c2;generalize Jm ga gb ls a bb ec c2 = nx at *;simp only [zabt] at z0;obtain ⟨hx,hS,hnl⟩:=z0;rw [hN] at hnl;(have hss:InN nx.length a:=(fun i hi=>by rw [hnl];exact hst.1 _ (Xz hi)));refine Qy 9 ?_;simp [go_sem])
 | refine Qc (id:=3) Vx [] (by kernel_rfl) ?_;simp [-zg,-zd,↓Qb,↓Qa,go_sem,hx,hS,hss,(show nx.length ≤ 100000 by omega),(show a.length ≤ 100000 by omega)];try (intro c3;have z0:=zaue nx a hx hS (by omega) hss (by omega) c3;generalize zadm nx a c3 = z at *;obtain ⟨p,qu⟩:=z;simp only [zabk] at z0;obtain ⟨hB,hQ1,hQ2⟩:=z0;have hpl:=hB.1;refine Qy 10 ?_;simp [go_sem];refine Qy 11 ?_;simp [go_sem])
 | ((obtain ⟨hu0,hu1⟩:=hQ2 k c32);(obtain ⟨m,hm⟩:∃ m:Nat,nth qu k = (m:Int):=⟨(nth qu k).toNat,by omega⟩);(obtain ⟨r,hr⟩:∃ r,m % bb.length = r:=⟨_,rfl⟩);(have hrb:r < bb.length:=(by rw [← hr];exact Nat.mod_lt _ (by omega)));(have hml:m < nx.length:=(by omega)));refine Xn (id:=7) Vx mixed [] [] (by kernel_rfl) (by kernel_rfl) ?_ ?_ <;> simp [-zg,-zd,↓Qb,↓Qa,go_sem,c32,Qk c32,zsP c32,hm,tmodH hr,hrb,Qk hrb,zsP hrb,(show ¬ (bb.length:Int) = 0 by omega),(show ¬ bb.length = 0 by omega)]
 | refine Qc (id:=8) Vx [] (by kernel_rfl) ?_;simp [-zg,-zd,↓Qb,↓Qa,go_sem,c32,Qk c32,zsP c32,hm,hx,hS,hml,(show nx.length ≤ 100000 by omega),(show (0:Int) ≤ (m:Int) by omega),(show (m:Int) < (nx.length:Int) by omega)];try (intro c8;have z8:=l8Cycle_ok nx (m:Int) hx hS (by omega) (by omega) (by omega) c8;generalize zagf nx (m:Int) c8 = zc at *;simp only [Ui] at z8;refine Qy 13 ?_;simp [go_sem])
 | refine Qc (id:=10) Vx [] (by kernel_rfl) ?_;simp [-zg,-zd,↓Qb,↓Qa,go_sem,c32,Qk c32,zsP c32,hm,(show BackOk p.length p by rw [hpl];exact hB),(show (0:Int) ≤ (m:Int) by omega),(show (m:Int) < (p.length:Int) by omega),(show m < p.length by omega)];try (intro c10;have z10:=l8Back_ok p (m:Int) (by rw [hpl];exact hB) (by omega) (by omega) c10;generalize zagg p (m:Int) c10 = w at *;simp only [Yb] at z10;refine Qy 14 ?_;simp [go_sem])
 | ((have hwt:(w.take (w.length - 1)).length = w.length - 1:=(by simp)));refine Qc (id:=11) Vx [] (by kernel_rfl) ?_;simp [-zg,-zd,↓Qb,↓Qa,go_sem,Xa (x:=(w.length:Int) - 1) (by omega) (by omega),(show (0:Int) ≤ (w.length:Int) - 1 by omega),(show (w.length:Int) - 1 ≤ (w.length:Int) by omega),(show ((w.length:Int) - 1).toNat = w.length - 1 by omega),(show w.length - 1 ≤ w.length by omega),(show (1:Int) ≤ (w.length:Int) by omega),(show (1:Int) ≤ (bb.length:Int) by omega),(show w.length - 1 ≤ 4194304 by omega),(show zc.length ≤ 4194304 by omega),takeH w (show w.length - 1 ≤ w.length by omega),(show Is cI (w.length - 1) (cat cI (w.take (w.length - 1))) = True from eq_true ⟨_,hwt.symm,rfl⟩),hwt];try ((intro c11 c12);(generalize zaez (w.take (w.length - 1)) bb.length c11 = s1 at *);(generalize zaez zc bb.length c12 = s2 at *))
 | refine Qc (id:=6) Vx [] (by kernel_rfl) ?_;simp [-zg,-zd,↓Qb,↓Qa,go_sem,wrapS (k:=k) (by omega)]
 | refine Qj (c:=.tmp 32) ?_;simp [-zg,-zd,↓Qb,↓Qa,go_sem];try first | (refine ⟨?_,?_⟩ <;> refine zA ?_) | (refine ⟨fun c32=>?_,fun c32=>?_⟩ <;> (try simp [B_iff,B_not] at c32))
 | (refine Qe (id:=0) (Qw (ι:=Nat) (fun k:Nat=>⟨(upd (upd (upd (upd (upd (upd (upd (upd (fun _=>.any) 3 (.pd [li cP ga,li cL gb])) 5 (.pd [li cI a,li cB bb,li cT ec])) 6 (.box [.nil,.nil])) 8 (.int .i64 bb.length)) 9 (li cL nx)) 10 (li cI p)) 11 (li cI qu)) 12 (.int .i64 k)),fun _=>none⟩) (fun k=>k ≤ qu.length) (fun k=>qu.length - k) (0) ?_ ?_ ?_);exact Nat.zero_le _;((repeat' (first | exact Qg (by assumption) | exact Qi | refine Qf ?_ ?_ | refine Qh ?_)) <;> simp [-zg,-zd,↓Qb,↓Qa,go_sem]);rintro k hk)
 | (refine ⟨k + 1,by omega,by first | omega | (simp;done) | (simp;omega),?_⟩;((repeat' (first | exact Qg (by assumption) | exact Qi | refine Qf ?_ ?_ | refine Qh ?_)) <;> simp [-zg,-zd,↓Qb,↓Qa,go_sem]))
 | (refine Qe ?_)
 | (refine Qs ?_;simp [-zg,-zd,↓Qb,↓Qa,go_sem])
 | (refine Qr ?_;simp [-zg,-zd,↓Qb,↓Qa,go_sem])
 | (refine Qq ?_;try simp [-zg,-zd,↓Qb,↓Qa,go_sem,Tryz.results99])
 | (intro hx;refine zA ?_)
 | (intro hx;change retR _ _ _ _ _)
 | (refine ⟨?_,?_⟩ <;> refine zA ?_)
 | (intro hx;constructor <;> intro hs)
 | (constructor <;> intro hs)
 | (refine ⟨?_,fun hs=>?_⟩;refine zA ?_)
 | (refine ⟨fun hs=>?_,?_⟩;rotate_left;refine zA ?_;rotate_left)
 | (refine Qj ?_;simp [-zg,-zd,↓Qb,↓Qa,go_sem];try first | (refine ⟨?_,?_⟩ <;> refine zA ?_) | (refine ⟨fun c0z=>?_,fun c0z=>?_⟩ <;> (try simp [B_iff,B_not] at c0z)))
 | (refine Qc Vx [] (by kernel_rfl) ?_;simp [-zg,-zd,↓Qb,↓Qa,go_sem])
 | fail))
  all_goals (first
 | (refine l8Find_ret _ _ _ _ _ _ (((s1,s2),true)) ?_ ?_ ?_;(first | exact Or.inl rfl | exact Or.inr rfl);(focus (simp [-zg,-zd,↓Qb,↓Qa,go_sem,Tryz.results99,dat,datL,Qz,li,cat_flat];done));(focus ((trivial);done)))
 | (refine l8Find_ret _ _ _ _ _ _ ((([],[]),false)) ?_ ?_ ?_;(first | exact Or.inl rfl | exact Or.inr rfl);(focus (simp [-zg,-zd,↓Qb,↓Qa,go_sem,Tryz.results99,dat,datL,Qz,li,Xb];done));(focus ((trivial);done)))
 | skip)
@[go_sem] def l8FindC:Con:=.rel fun args H=>match args with
  | [.st [.list n_ga c_ga,.list n_gb c_gb],.list n_ls c_ls,.st [.list n_a c_a,.list n_bb c_bb,.list n_ec c_ec]]=>((Is cP n_ga c_ga) ∧ (Is cL n_gb c_gb) ∧ (Is cI n_ls c_ls) ∧ (Is cI n_a c_a) ∧ (Is cB n_bb c_bb) ∧ (Is cT n_ec c_ec) ∧ (GraphOk (de cP c_ga) (de cL c_gb)) ∧ ((de cI c_ls).length = (de cP c_ga).length) ∧ (AutOk (de cI c_a) (de cB c_bb).length (de cT c_ec)),fun c=>(Ye (l8Find_sel (de cP c_ga) (de cL c_gb) (de cI c_ls) (de cI c_a) (de cB c_bb) (de cT c_ec) c),H))
  | _=>(False,fun _=>(.any,H))
theorem l8FindC_ok:ConOk Tryz.prog 99 l8FindC:=by
  refine ⟨Qo Tryz.func99 (by decide) rfl,fun args H h=>?_⟩
  revert h
  dsimp only
  split
  · intro h
    obtain ⟨⟨ga,rfl,rfl⟩,⟨gb,rfl,rfl⟩,⟨ls,rfl,rfl⟩,⟨a,rfl,rfl⟩,⟨bb,rfl,rfl⟩,⟨ec,rfl,rfl⟩,hG,hl,hA⟩:=h
    try simp only [Qm] at *
    exact SpecR.enc ((SpecR.frame0 (l8Find_pure ga gb ls a bb ec hG hl hA) (H:=H)).shut) fun c=>Prod.ext (l8Find_okD _ _ _ _ _ _ hG hl hA c).2.symm rfl
  · intro h
    exact h.elim
@[go_sem] def Γh9:FuncId → Con:=ext Γh8 99 l8FindC
theorem Γh9_ok:∀ g,ConOk Tryz.prog g (Γh9 g):=Qn Vx l8FindC_ok

@[go_sem] def Γh10:FuncId → Con:=ext Γh9 98 zajk
theorem zamb:∀ g,ConOk Tryz.prog g (Γh10 g):=Qn Γh9_ok zalv

@[go_sem] def zadv:List Int × Bool → D:=fun x=>.tup [.st [if x.2 = true then fr 1 cI x.1 else .nil],.bool x.2]
def zabr (ga:List Ints2) (gb:List (List Int)) (lb:List Tree) (a:List Int) (bb:List Bool) (ec:List Tr4):List Int × Bool → Prop:=fun x=>x.1.length ≤ 3840 ∧ (x.2 = false → x.1 = [])
def Ya (ga:List Ints2) (gb:List (List Int)) (lb:List Tree) (a:List Int) (bb:List Bool) (ec:List Tr4) (c:Any):List Int × Bool:=sel (zabr ga gb lb a bb ec) (([],false)) c
theorem zauu (ga:List Ints2) (gb:List (List Int)) (lb:List Tree) (a:List Int) (bb:List Bool) (ec:List Tr4) (hSm:zakt ec) (c:Any):zabr ga gb lb a bb ec (Ya ga gb lb a bb ec c):=Xl (p:=zabr ga gb lb a bb ec) (x0:=([],false)) (by simp [zabr]) c
theorem zask (ga:List Ints2) (gb:List (List Int)) (lb:List Tree) (a:List Int) (bb:List Bool) (ec:List Tr4) {e_:Exit} {S_:St} (x:List Int × Bool) (he_:e_ = .ret ∨ e_ = .normal)
    (h1:(Qd Tryz.prog S_ Tryz.f73.results.toList).1 ∧ resD (Qd Tryz.prog S_ Tryz.f73.results.toList).2.1 = zadv x) (hg:zabr ga gb lb a bb ec x) :
    retR Tryz.prog Tryz.f73 (fun c=>(zadv (Ya ga gb lb a bb ec c),fun _=>none)) e_ S_:=Xi (enc:=zadv) x he_ h1 hg
set_option maxHeartbeats 4000000 in
theorem MakeCert_pure (ga:List Ints2) (gb:List (List Int)) (lb:List Tree) (a:List Int) (bb:List Bool) (ec:List Tr4) (hSm:zakt ec):PureR Tryz.prog 73 [.st [li cP ga,li cL gb],li cX lb,.st [li cI a,li cB bb,li cT ec]] (fun c=>zadv (Ya ga gb lb a bb ec c)):=by
  refine PureR.of_walk Tryz.func73 rfl (by simp [Tryz.f73]) (fun c=>by simp [-zd,go_sem]) fun B hK=>?_
  cases hv:Vm.B (AutOk a bb.length ec)
  all_goals (repeat' (first
 | refine Qt ?_
 | refine Qc (id:=0) zamb [] (by kernel_rfl) ?_;simp [-zg,-zd,↓Qb,↓Qa,go_sem];try ((refine Qy 3 ?_);simp [go_sem];(refine Qy 5 ?_);simp [go_sem])
 | refine Qc (id:=1) zamb [] (by kernel_rfl) ?_;simp [-zg,-zd,↓Qb,↓Qa,go_sem];try (intro c1;have z1:=LabelGraph_ok ga gb lb c1;generalize zada ga gb lb c1 = z at *;obtain ⟨ls,ok⟩:=z;simp only [zaaw] at z1;refine Qy 8 ?_;simp [go_sem];cases ok)
 | refine Qc (id:=2) zamb [20] (by kernel_rfl) ?_;simp [-zg,-zd,↓Qb,↓Qa,go_sem,hv,hSm];try (refine ⟨fun s2a=>?_,fun s2a=>?_⟩ <;> (try simp [B_iff,B_not] at s2a) <;> try (refine ⟨fun s2b=>?_,fun s2b=>?_⟩ <;> (try simp [B_iff,B_not] at s2b)))
 | ((obtain ⟨hG,hl⟩:=z1 rfl);(have hA:AutOk a bb.length ec:=(by rw [B_iff] at hv;exact hv)));refine Qc (id:=4) zamb [] (by kernel_rfl) ?_;simp [-zg,-zd,↓Qb,↓Qa,go_sem,hG,hl,hA];try (intro c4;generalize l8Find_sel ga gb ls a bb ec c4 = zf at *;obtain ⟨⟨t1,t2⟩,fd⟩:=zf;cases fd)
 | ((obtain ⟨n64,e2048⟩:=autN64 hA);(have hn1:=hA.1);(have hal:=hA.sizes.2.2.1);(have hbl:bb.length ≤ bb.length * ga.length:=Nat.le_mul_of_pos_right _ hG.1);(have hN4:bb.length * ga.length ≤ 3840:=Nat.mul_le_mul n64 hG.2.1);(have u7:∀ c,Zr (Jm ga gb ls a bb ec c) ∧ NextS (Jm ga gb ls a bb ec c) ∧ (Jm ga gb ls a bb ec c).length ≤ 100000 ∧ Starts (Jm ga gb ls a bb ec c).length a ∧ a.length ≤ (Jm ga gb ls a bb ec c).length:=(fun c=>by have z:=zakb ga gb ls a bb ec hG hl hA c;obtain ⟨z1,z2,z3⟩:=z;exact ⟨z1,z2,by omega,by rw [z3];exact hA.startsH hbl,by omega⟩)));refine Xn (id:=7) zamb mixed [] [5] (by kernel_rfl) (by kernel_rfl) ?_ ?_ <;> simp [-zg,-zd,↓Qb,↓Qa,go_sem,hG,hl,hA,hn1,fun c=>(u7 c).1,fun c=>(u7 c).2.1,fun c=>(u7 c).2.2.1,fun c=>(u7 c).2.2.2.1,fun c=>(u7 c).2.2.2.2];try ((intro c7 c8);(have u8:=u7 c7);(have z7:=(zakb ga gb ls a bb ec hG hl hA c7).2.2);(have z8:=l9Make_ok (Jm ga gb ls a bb ec c7) a bb ec u8.1 u8.2.1 u8.2.2.1 hn1 u8.2.2.2.1 u8.2.2.2.2 c8);(generalize zahz (Jm ga gb ls a bb ec c7) a bb ec c8 = rk at *);(simp only [zadj] at z8))
 | (refine Qe ?_)
 | (refine Qs ?_;simp [-zg,-zd,↓Qb,↓Qa,go_sem])
 | (refine Qr ?_;simp [-zg,-zd,↓Qb,↓Qa,go_sem])
 | (refine Qq ?_;try simp [-zg,-zd,↓Qb,↓Qa,go_sem,Tryz.results73])
 | (intro hx;refine zA ?_)
 | (intro hx;change retR _ _ _ _ _)
 | (refine ⟨?_,?_⟩ <;> refine zA ?_)
 | (intro hx;constructor <;> intro hs)
 | (constructor <;> intro hs)
 | (refine ⟨?_,fun hs=>?_⟩;refine zA ?_)
 | (refine ⟨fun hs=>?_,?_⟩;rotate_left;refine zA ?_;rotate_left)
 | (refine Qj ?_;simp [-zg,-zd,↓Qb,↓Qa,go_sem];try first | (refine ⟨?_,?_⟩ <;> refine zA ?_) | (refine ⟨fun c0z=>?_,fun c0z=>?_⟩ <;> (try simp [B_iff,B_not] at c0z)))
 | (refine Qc zamb [] (by kernel_rfl) ?_;simp [-zg,-zd,↓Qb,↓Qa,go_sem])
 | fail))
  all_goals (first
 | (refine zask _ _ _ _ _ _ (([],false)) ?_ ?_ ?_;(first | exact Or.inl rfl | exact Or.inr rfl);(focus (simp [-zg,-zd,↓Qb,↓Qa,go_sem,Tryz.results73];done));(focus ((simp [zabr]);done)))
 | (refine zask _ _ _ _ _ _ ((rk,true)) ?_ ?_ ?_;(first | exact Or.inl rfl | exact Or.inr rfl);(focus (simp [-zg,-zd,↓Qb,↓Qa,go_sem,Tryz.results73];done));(focus (((simp only [zabr];exact ⟨by show rk.length ≤ 3840;omega,by simp⟩));done)))
 | skip)
theorem rep_tupH {x:D} {bo:Bool} {μ:Nat → Nat} {I:Nat → Prop} {w:World} {v:Value} {f:List Nat} (hx:∀ v f,Rep μ I w .nil v f → Rep μ I w x v f) (h2:Rep μ I w (.tup [.st [.nil],.bool bo]) v f):Rep μ I w (.tup [.st [x],.bool bo]) v f:=by
  rw [Rep] at h2 ⊢
  obtain ⟨vs,e1,h2⟩:=h2
  refine ⟨vs,e1,?_⟩
  rw [RepL] at h2 ⊢
  obtain ⟨v1,vs1,f1,f2,e2,e3,r1,r2⟩:=h2
  refine ⟨v1,vs1,f1,f2,e2,e3,?_,r2⟩
  rw [Rep] at r1 ⊢
  obtain ⟨us,e4,r1⟩:=r1
  refine ⟨us,e4,?_⟩
  rw [RepL] at r1 ⊢
  obtain ⟨u1,us1,g1,g2,k1,k2,s1,r1⟩:=r1
  exact ⟨u1,us1,g1,g2,k1,k2,hx _ _ s1,r1⟩
theorem mkCert_fr (ga:List Ints2) (gb:List (List Int)) (lb:List Tree) (a:List Int) (bb:List Bool) (ec:List Tr4) (hSm:zakt ec):PureR Tryz.prog 73 [.st [li cP ga,li cL gb],li cX lb,.st [li cI a,li cB bb,li cT ec]] (fun c=>.tup [.st [fr 1 cI (Ya ga gb lb a bb ec c).1],.bool (Ya ga gb lb a bb ec c).2]):=fun μ w vs hb hr =>
  (MakeCert_pure ga gb lb a bb ec hSm μ w vs hb hr).mono fun e w' ⟨c,v,fl,h1,h2,h3⟩=>by
    refine ⟨c,v,fl,h1,?_,h3⟩
    have hg:=(zauu ga gb lb a bb ec hSm c).2
    have key:∀ z:List Int × Bool,(z.2 = false → z.1 = []) → Rep μ (fun _=>False) w' (zadv z) v fl → Rep μ (fun _=>False) w' (.tup [.st [fr 1 cI z.1],.bool z.2]) v fl:=by
      rintro ⟨x,bo⟩ hz h
      cases bo with
      | true=>exact h
      | false =>
        obtain rfl:x = []:=hz rfl
        exact rep_tupH (fun v f h=>zaol h) h
    exact key _ hg h2
@[go_sem] def mkCertC:Con:=.prel fun
  | [.st [.list n_ga c_ga,.list n_gb c_gb],.list n_lb c_lb,.st [.list n_a c_a,.list n_b c_b,.list n_e c_e]]=>(Is cP n_ga c_ga ∧ Is cL n_gb c_gb ∧ Is cX n_lb c_lb ∧ Is cI n_a c_a ∧ Is cB n_b c_b ∧ Is cT n_e c_e ∧ zakt (de cT c_e),fun c=>.tup [.st [fr 1 cI (Ya (de cP c_ga) (de cL c_gb) (de cX c_lb) (de cI c_a) (de cB c_b) (de cT c_e) c).1],.bool (Ya (de cP c_ga) (de cL c_gb) (de cX c_lb) (de cI c_a) (de cB c_b) (de cT c_e) c).2])
  | _=>(False,fun _=>.any)
theorem mkCertC_ok:ConOk Tryz.prog 73 mkCertC:=by
  refine ⟨Qo Tryz.func73 (by decide) rfl,fun args h=>?_⟩
  revert h
  dsimp only
  split
  · rintro ⟨⟨ga,rfl,rfl⟩,⟨gb,rfl,rfl⟩,⟨lb,rfl,rfl⟩,⟨a,rfl,rfl⟩,⟨bb,rfl,rfl⟩,⟨ec,rfl,rfl⟩,hSm⟩
    try simp only [Qm] at *
    exact ⟨mkCert_fr ga gb lb a bb ec hSm,fun c=>by simp [go_sem]⟩
  · intro h
    exact h.elim

theorem SmallG.copyH {x:List Ints2 × List (List Int)} (h:SmallG x):Ub x.1 x.2:=⟨by have:=h.1;omega,by have:=h.2.1;omega,fun s hs=>by have:=h.2.2.1 s hs;omega,fun l hl=>by have:=h.2.2.2 l hl;omega⟩
theorem drawnH (p:Int) (c:Any):SmallG (Xo p c).1 ∧ 1 ≤ (Xo p c).1.1.length ∧ (Xo p c).1.1.length ≤ (Xo p c).1.2.length ∧ p ≤ (Xo p c).2 ∧ (Xo p c).2 ≤ p + 2100:=by
  have h:=l4Graph_ok p c
  simp only [zach] at h
  obtain ⟨⟨h1,h2,h3⟩,h4,h5⟩:=h
  exact ⟨h1,h2,by omega,h4,h5⟩
theorem set_catB2 {xs:List Bool} {i:Nat} (h:i < xs.length) (y:Bool):(cat cB xs).set i (.bool y) = cat cB (xs.set i y):=by
  have:=zanj (f:=cB) (xs:=xs) (ys:=[]) (x:=y) h rfl
  simpa using this
theorem set_catI3 {xs:List Int} {i:Nat} (h:i < xs.length) (y:Int):(cat cI xs).set i (.int .i64 y) = cat cI (xs.set i y):=by
  have:=zanj (f:=cI) (xs:=xs) (ys:=[]) (x:=y) h rfl
  simpa using this

@[go_sem] def Γc0:FuncId → Con:=ext Γy28 95 l8LabelsC
theorem Γc0_ok:∀ g,ConOk Tryz.prog g (Γc0 g):=Qn Γy28_ok l8LabelsC_ok

@[go_sem] def Γc1:FuncId → Con:=ext Γc0 97 l4GraphC
theorem Γc1_ok:∀ g,ConOk Tryz.prog g (Γc1 g):=Qn Γc0_ok zauj

@[go_sem] def Γc2:FuncId → Con:=ext Γc1 96 zaow
theorem Wi:∀ g,ConOk Tryz.prog g (Γc2 g):=Qn Γc1_ok zarc

abbrev G3:=(List Ints2 × List (List Int)) × List Tree × Au
def G3ok (x:G3):Prop:=x.1.1.length ≤ 100 ∧ x.2.2.2.1.length ≤ 5000 ∧ zakt x.2.2.2.2
theorem G3ok.nil:G3ok (([],[]),[],([],[],[])):=⟨by simp,by simp,fun i hi=>by simp at hi⟩
def SmM (b ab yk:Nat) (ys:List UInt8) (ya:List Int) (n1:Nat) (bs:List Bool) (yc:List Tr4) (cy jy:Nat) (q:Int) (H:Hp):Prop:=H b = some [.list ys.length (cat cY ys),.int .i64 q] ∧ H ab = some [.fr 1 ya.length (cat cI ya),.sl yk 1 0 n1 cy,.fr 4 yc.length (cat cT yc)] ∧ H yk = some (cat cB bs ++ List.replicate jy .any) ∧ bs.length = n1

@[go_sem] def Up:G3 → D:=fun x=>.tup [sG x.1,li cX x.2.1,sA x.2.2]
theorem l9Small_flat (x:G3):dat (Up x) = Up x:=by simp [go_sem]
def zadi  : G3 → Prop:=fun x=>G3ok x
def zaqe  (x:(G3) × D):Prop:=zadi x.1 ∧ dat x.2 = Up x.1
def zace  (p:Int) (c:Any):((G3) × D) × Int:=dsel (zaqe) (((([],[]),[],([],[],[])):G3),Up ((([],[]),[],([],[],[])))) 8000 p c
def Vo  (p:Int) (c:Any):(G3) × Int:=((zace p c).1.1,(zace p c).2)
theorem zauc   (p:Int) (c:Any):(zadi (Vo p c).1 ∧ p ≤ (Vo p c).2 ∧ (Vo p c).2 ≤ p + 8000) ∧ dat (zace p c).1.2 = Up (Vo p c).1:=by
  have hx:zadi ((([],[]),[],([],[],[]))):=G3ok.nil
  have h:=Zy (good:=zaqe) (x0:=(((([],[]),[],([],[],[])):G3),Up ((([],[]),[],([],[],[]))))) ⟨hx,l9Small_flat _⟩ (K:=8000) (by omega) (p:=p) c
  exact ⟨⟨h.1.1,h.2.1,h.2.2⟩,h.1.2⟩
theorem l9Small_ok   (p:Int) (c:Any):zadi (Vo p c).1 ∧ p ≤ (Vo p c).2 ∧ (Vo p c).2 ≤ p + 8000:=(zauc  p c).1
theorem l9Small_ret  (ys:List UInt8) (p:Int) (b:Nat) {e_:Exit} {S_:St} (x:G3) (p':Int) (he_:e_ = .ret ∨ e_ = .normal)
    (h1:(Qd Tryz.prog S_ Tryz.f72.results.toList).1 ∧ dat (resD (Qd Tryz.prog S_ Tryz.f72.results.toList).2.1) = Up x ∧ (Qd Tryz.prog S_ Tryz.f72.results.toList).2.2.H b = some [li cY ys,.int .i64 p']) (hg:zadi x) (h2:p ≤ p' ∧ p' ≤ p + 8000) :
    retR Tryz.prog Tryz.f72 (fun c=>((zace p c).1.2,one b [li cY ys,.int .i64 (zace p c).2])) e_ S_ :=
  Zw (good:=zaqe) (enc:=fun x:(G3) × D=>x.2) (cells:=fun q=>[li cY ys,.int .i64 q]) (x,resD (Qd Tryz.prog S_ Tryz.f72.results.toList).2.1) p' he_ ⟨h1.1,rfl,h1.2.2⟩ ⟨hg,h1.2.1⟩ h2
set_option maxHeartbeats 16000000 in
theorem l9Small_spec (ys:List UInt8) (p:Int) (b:Nat)  (hl:ys.length ≤ 2000) (h0_:0 ≤ p) (hp_:p + 8000 ≤ 1000000)  : SpecR Tryz.prog 72 [.ptr b 0] (one b [li cY ys,.int .i64 p]) (fun c=>((zace p c).1.2,one b [li cY ys,.int .i64 (zace p c).2])):=by
  refine SpecR.of_walk Tryz.func72 rfl (by simp [Tryz.f72]) fun B=>?_
  (repeat' (first
 | refine Qt ?_
 | refine Qc (id:=1) Wi [] (by kernel_rfl) ?_;simp [-zg,-zd,↓Qb,↓Qa,go_sem,hl,(show 0 ≤ p by omega),(show p ≤ 1000000 by omega),(show 0 ≤ p + 1 by omega),(show p + 1 ≤ 1000000 by omega),(show p + 23 ≤ 1000000 by omega)];try ((intro c1);(have z0:=l8Labels_ok p c1);(generalize Vi p c1 = z at *);(obtain ⟨lb,p1⟩:=z);(simp only [Ug] at z0);(obtain ⟨z1,z2,z3⟩:=z0);(try dsimp only at z1 z2 z3);(refine Qy 5 ?_);(simp [go_sem]))
 | refine Qc (id:=2) Wi [] (by kernel_rfl) ?_;simp [-zg,-zd,↓Qb,↓Qa,go_sem,hl,(show 0 ≤ p1 by omega),(show p1 ≤ 1000000 by omega),(show 0 ≤ p1 + 1 by omega),(show p1 + 1 ≤ 1000000 by omega),(show p1 + 300 ≤ 1000000 by omega)];try ((intro c2);(have y0:=l7Automaton_ok p1 c2);(generalize Vf p1 c2 = y at *);(obtain ⟨⟨ya,yb,yc⟩,p2⟩:=y);(have y1:AuS (ya,yb,yc):=y0.1);(obtain ⟨s1,s2,s3,s4⟩:=y1);(dsimp only at s1 s2 s3 s4);(have y2:p1 ≤ p2 ∧ p2 ≤ p1 + 300:=y0.2);(clear y0);(refine Xs 6 rfl fun ab hab=>?_);(have nba:¬ b = ab:=(by rintro rfl;simp [upd] at hab));(clear hab);(refine Xw ab 1 (all:=[.fr 1 ya.length (cat cI ya),.fr 1 yb.length (cat cB yb),.fr 4 yc.length (cat cT yc)]) (by simp [upd]) rfl fun yk cy jy hyk hcy hdy=>?_);(have nby:¬ b = yk:=(by rintro rfl;simp [upd,nba] at hyk));(have nay:¬ ab = yk:=(by rintro rfl;simp [upd] at hyk));(clear hyk);(refine Qp (fun H1=>SmM b ab yk ys ya yb.length yb yc cy jy p2 H1) ⟨by simp [upd,nba,zS nba,nby,zS nby,nay,zS nay],by simp [upd,nba,zS nba,nby,zS nby,nay,zS nay],by simp [upd],rfl⟩ fun H1 ⟨w1,w2,w3,w4⟩=>?_))
 | refine Qc (id:=3) Wi [] (by kernel_rfl) ?_;simp [-zg,-zd,↓Qb,↓Qa,go_sem,w1,hl,(show 0 ≤ p2 by omega),(show p2 ≤ 1000000 by omega),(show 0 ≤ p2 + 1 by omega),(show p2 + 1 ≤ 1000000 by omega)];try ((generalize pkI ys p2 2 = kk at *);(refine Qp (fun H1=>SmM b ab yk ys ya yb.length yb yc cy jy (p2 + 1) H1) ⟨by simp [upd,nba,zS nba,nby,zS nby,nay,zS nay],by simp [upd,nba,zS nba,nby,zS nby,nay,zS nay,w2],by simp [upd,nba,zS nba,nby,zS nby,nay,zS nay,w3],rfl⟩ fun H2 hM2=>?_))
 | ((obtain ⟨v1,v2,v3,v4⟩:=id g4));refine Qc (id:=5) Wi [] (by kernel_rfl) ?_;simp [-zg,-zd,↓Qb,↓Qa,go_sem,v2]
 | ((obtain ⟨v1,v2,v3,v4⟩:=id g4));refine Xr (id:=7) Wi mixed [(ab,[.fr 1 ya.length (cat cI ya),.sl yk 1 0 yb.length cy,.fr 4 yc.length (cat cT yc)]),(yk,cat cB q.2.1 ++ List.replicate jy .any)] [30] [6,7] (by kernel_rfl) (by kernel_rfl) ?_ ?_ ?_ <;> simp [-zg,-zd,↓Qb,↓Qa,go_sem,v1,v2,v3,v4,hl,nba,zS nba,nby,zS nby,nay,zS nay,(show 0 ≤ q.2.2.1 by omega),(show q.2.2.1 ≤ 1000000 by omega),(show 0 ≤ q.2.2.1 + 1 by omega),(show q.2.2.1 + 1 ≤ 1000000 by omega),(show q.1 < yb.length by omega),(show q.1 < yb.length + jy by omega),(show q.1 + 1 ≤ yb.length + jy by omega)];try ((refine ⟨fun hs7=>?_,fun hs7=>?_⟩) <;> first | ((rename nth q.2.1 q.1 = true=>hs8);(generalize decide (pkI ys q.2.2.1 3 = 0) = ac at *);(obtain ⟨bs2,hbs⟩:∃ x,q.2.1.set q.1 ac = x:=⟨_,rfl⟩);(obtain ⟨p3,hp3⟩:∃ x,q.2.2.1 + 1 = x:=⟨_,rfl⟩);(refine Qp (fun H1=>SmM b ab yk ys ya yb.length bs2 yc cy jy p3 H1) ⟨by simp [upd,nba,zS nba,nby,zS nby,nay,zS nay,hp3],by simp [upd,nba,zS nba,nby,zS nby,nay,zS nay,v2],by simp [upd,nba,zS nba,nby,zS nby,nay,zS nay,v3,set_catB2 (show q.1 < q.2.1.length by omega),hbs],by rw [← hbs,List.length_set];exact v4⟩ fun H9 hM9=>?_)) | ((obtain ⟨bs2,hbs⟩:∃ x,q.2.1.set q.1 false = x:=⟨_,rfl⟩);(obtain ⟨p3,hp3⟩:∃ x,q.2.2.1 = x:=⟨_,rfl⟩);(refine Qp (fun H1=>SmM b ab yk ys ya yb.length bs2 yc cy jy p3 H1) ⟨by simp [upd,nba,zS nba,nby,zS nby,nay,zS nay,v1,hp3],by simp [upd,nba,zS nba,nby,zS nby,nay,zS nay,v2],by simp [upd,nba,zS nba,nby,zS nby,nay,zS nay,v3,set_catB2 (show q.1 < q.2.1.length by omega),hbs],by rw [← hbs,List.length_set];exact v4⟩ fun H9 hM9=>?_)))
 | refine Qc (id:=6) Wi [] (by kernel_rfl) ?_;simp [-zg,-zd,↓Qb,↓Qa,go_sem,wrapS (k:=q.1) (by omega)]
 | ((have hB:∃ bs p4,SmM b ab yk ys ya yb.length bs yc cy jy p4 _ ∧ p2 + 1 ≤ p4 ∧ p4 ≤ p2 + 1 + 5000:=(by first | exact ⟨_,_,g4,by omega,by omega⟩ | exact ⟨_,_,hM2,by omega,by omega⟩));(obtain ⟨bs,p4,⟨v1,v2,v3,v4⟩,hp4a,hp4b⟩:=hB);(refine Xu ab 1 (b':=yk) (sz:=1) (m:=yb.length) (cp:=cy) (all:=[.fr 1 ya.length (cat cI ya),.sl yk 1 0 yb.length cy,.fr 4 yc.length (cat cT yc)]) (cs:=cat cB bs ++ List.replicate jy .any) v2 rfl nay v3 (by omega) (by simp [Qv,v4]) (by simp [Qv,v4];omega) ?_);(rw [Nat.mul_one,Zt (f:=cB) bs (List.replicate jy D.any) v4.symm]);(rw [← v4]);(refine Qp (fun H1=>H1 b = some [.list ys.length (cat cY ys),.int .i64 p4] ∧ H1 ab = some [.fr 1 ya.length (cat cI ya),.fr 1 bs.length (cat cB bs),.fr 4 yc.length (cat cT yc)]) ⟨by simp [upd,nba,zS nba,nby,zS nby,nay,zS nay,v1],by simp [upd,nba,zS nba,nby,zS nby,nay,zS nay]⟩ fun H3 ⟨x1,x2⟩=>?_);(refine Yd ab 0 (all:=[.fr 1 ya.length (cat cI ya),.fr 1 bs.length (cat cB bs),.fr 4 yc.length (cat cT yc)]) x2 rfl rfl ?_);(refine Qp (fun H1=>H1 b = some [.list ys.length (cat cY ys),.int .i64 p4] ∧ H1 ab = some [li cI ya,.fr 1 bs.length (cat cB bs),.fr 4 yc.length (cat cT yc)]) ⟨by simp [upd,nba,zS nba,nby,zS nby,nay,zS nay,x1],by simp [upd,nba,zS nba,nby,zS nby,nay,zS nay,dat,Qz,li,Xx]⟩ fun H4 ⟨x3,x4⟩=>?_);(refine Yd ab 1 (all:=[li cI ya,.fr 1 bs.length (cat cB bs),.fr 4 yc.length (cat cT yc)]) x4 rfl rfl ?_);(refine Qp (fun H1=>H1 b = some [.list ys.length (cat cY ys),.int .i64 p4] ∧ H1 ab = some [li cI ya,li cB bs,.fr 4 yc.length (cat cT yc)]) ⟨by simp [upd,nba,zS nba,nby,zS nby,nay,zS nay,x3],by simp [upd,nba,zS nba,nby,zS nby,nay,zS nay,dat,Qz,li,Xx]⟩ fun H5 ⟨x5,x6⟩=>?_);(refine Yd ab 2 (all:=[li cI ya,li cB bs,.fr 4 yc.length (cat cT yc)]) x6 rfl rfl ?_);(refine Qp (fun H1=>H1 b = some [.list ys.length (cat cY ys),.int .i64 p4] ∧ H1 ab = some [li cI ya,li cB bs,li cT yc]) ⟨by simp [upd,nba,zS nba,nby,zS nby,nay,zS nay,x5],by simp [upd,nba,zS nba,nby,zS nby,nay,zS nay,dat,Qz,li,Xx]⟩ fun H6 ⟨x7,x8⟩=>?_);(have hAu:AuS (ya,bs,yc):=⟨s1,by dsimp only;omega,s3,s4⟩);(have u1:=drawnH p4);(have u2:∀ c,0 ≤ (Xo p4 c).2 ∧ (Xo p4 c).2 + 4 ≤ 1000000:=fun c=>by have:=(u1 c).2.2.2;omega);(have u3:∀ c,Ub (Xo p4 c).1.1 (Xo p4 c).1.2:=fun c=>(u1 c).1.copyH);(have u4:∀ c,1 ≤ (Xo p4 c).1.1.length:=fun c=>(u1 c).2.1);(have u5:∀ c,(Xo p4 c).1.1.length ≤ (Xo p4 c).1.2.length:=fun c=>(u1 c).2.2.1);(have u6:∀ c c',0 ≤ (Jo (Xo p4 c).1.1 (Xo p4 c).1.2 (Xo p4 c).2 c').2 ∧ (Jo (Xo p4 c).1.1 (Xo p4 c).1.2 (Xo p4 c).2 c').2 + 3 ≤ 1000000:=fun c c'=>by have h:=zaug (Xo p4 c).1.1 (Xo p4 c).1.2 (u3 c) (u4 c) (u5 c) (Xo p4 c).2 c';have:=h.2;have:=(u1 c).2.2.2;omega));refine Xr (id:=8) Wi mixed [(ab,[li cI ya,li cB bs,li cT yc])] [] [0] (by kernel_rfl) (by kernel_rfl) ?_ ?_ ?_ <;> simp [-zg,-zd,↓Qb,↓Qa,go_sem,x7,x8,hl,nba,zS nba,(show 0 ≤ p4 by omega),(show p4 ≤ 1000000 by omega),(show 0 ≤ p4 + 1 by omega),(show p4 + 1 ≤ 1000000 by omega),(show p4 + 2100 ≤ 1000000 by omega),u2,u3,u4,u5,u6,hAu];try ((intro c8 c8' c8'');(have y0:=u1 c8);(have y9:=u6 c8 c8');(generalize Xo p4 c8 = z at *);(obtain ⟨⟨ga,gb⟩,p5⟩:=z);(obtain ⟨r1,r2,r3,r4,r5⟩:=y0);(try dsimp only at r1 r2 r3 r4 r5 y9 ⊢);(have x0:=zaug ga gb r1.copyH r2 r3 p5 c8');(generalize Jo ga gb p5 c8' = y at *);(obtain ⟨⟨ma,mb⟩,p6⟩:=y);(simp only [zacp] at x0);(obtain ⟨m1,m2,m3⟩:=x0);(try dsimp only at m2 m3 y9 ⊢);(have hma:ma.length ≤ 100:=(by have:=m1.2.1;have:=r1.1;dsimp only at *;omega));(have x9:=l7Mutate_ok ya bs yc hAu p6 c8'');(generalize Vj ya bs yc p6 c8'' = w at *);(obtain ⟨⟨xa,xb,xc⟩,p7⟩:=w);(simp only [zacn] at x9);(obtain ⟨⟨n1,n2,n3,n4⟩,n5,n6⟩:=x9);(try dsimp only at n1 n2 n3 n4 n5 n6 ⊢))
 | (refine Qe (id:=0) (Qw (ι:=Nat × List Bool × Int × Hp) (fun q:Nat × List Bool × Int × Hp=>⟨(upd (upd (upd (upd (upd (upd (upd (fun _=>.any) 0 (.ptr b 0)) 2 (.box [.nil,.nil])) 3 (.nil)) 4 (.box [.nil,.nil,.nil])) 5 (li cX lb)) 6 (.ptr ab 0)) 7 (.int .i64 q.1)),q.2.2.2⟩) (fun q=>q.1 ≤ yb.length ∧ (p2 + 1 ≤ q.2.2.1 ∧ q.2.2.1 ≤ p2 + 1 + q.1) ∧ SmM b ab yk ys ya yb.length q.2.1 yc cy jy q.2.2.1 q.2.2.2) (fun q=>yb.length - q.1) ((0,yb,p2 + 1,H2)) ?_ ?_ ?_);exact ⟨Nat.zero_le _,by dsimp only;omega,hM2⟩;((repeat' (first | exact Qg (by assumption) | exact Qi | refine Qf ?_ ?_ | refine Qh ?_)) <;> simp [-zg,-zd,↓Qb,↓Qa,go_sem]);rintro q ⟨g1,⟨g2,g3⟩,g4⟩)
 | (refine ⟨(q.1 + 1,bs2,p3,H9),⟨by dsimp only;omega,by dsimp only;omega,hM9⟩,by first | omega | (simp;done) | (simp;omega),?_⟩;((repeat' (first | exact Qg (by assumption) | exact Qi | refine Qf ?_ ?_ | refine Qh ?_)) <;> simp [-zg,-zd,↓Qb,↓Qa,go_sem]))
 | (refine Qe ?_)
 | (refine Qs ?_;simp [-zg,-zd,↓Qb,↓Qa,go_sem])
 | (refine Qr ?_;simp [-zg,-zd,↓Qb,↓Qa,go_sem])
 | (refine Qq ?_;try simp [-zg,-zd,↓Qb,↓Qa,go_sem,Tryz.results72])
 | (intro hx;refine zA ?_)
 | (intro hx;change retR _ _ _ _ _)
 | (refine ⟨?_,?_⟩ <;> refine zA ?_)
 | (intro hx;constructor <;> intro hs)
 | (constructor <;> intro hs)
 | (refine ⟨?_,fun hs=>?_⟩;refine zA ?_)
 | (refine ⟨fun hs=>?_,?_⟩;rotate_left;refine zA ?_;rotate_left)
 | (refine Qj ?_;simp [-zg,-zd,↓Qb,↓Qa,go_sem];try first | (refine ⟨?_,?_⟩ <;> refine zA ?_) | (refine ⟨fun c0z=>?_,fun c0z=>?_⟩ <;> (try simp [B_iff,B_not] at c0z)))
 | (refine Qc Wi [] (by kernel_rfl) ?_;simp [-zg,-zd,↓Qb,↓Qa,go_sem])
 | fail))
  all_goals (first
 | (refine l9Small_ret _ _ _ (((ma,mb),lb,(xa,xb,xc))) (p7) ?_ ?_ ?_ ?_;(first | exact Or.inl rfl | exact Or.inr rfl);(focus (simp [-zg,-zd,↓Qb,↓Qa,go_sem,Tryz.results72,nba,zS nba,dat,datL,Qz,li,Xx];done));(focus ((exact ⟨hma,n2,n4⟩);done));(focus (refine ⟨?_,?_⟩ <;> omega)))
 | skip)
@[go_sem] def l9SmallC:Con:=.rel fun args H=>match args with
  | [.ptr b 0]=>match H b with
    | some [.list m cs,.int .i64 p]=>((Is cY m cs) ∧ (m ≤ 2000) ∧ (0 ≤ p) ∧ (p + 8000 ≤ 1000000),fun c=>(Up (Vo p c).1,upd H b (some [.list m cs,.int .i64 (Vo p c).2])))
    | _=>(False,fun _=>(.any,H))
  | _=>(False,fun _=>(.any,H))
theorem l9SmallC_ok:ConOk Tryz.prog 72 l9SmallC:=by
  refine ⟨Qo Tryz.func72 (by decide) rfl,fun args H h=>?_⟩
  revert h
  dsimp only
  split
  · split
    · rename_i hH
      intro h
      obtain ⟨⟨ys,rfl,rfl⟩,hl,h0_,hp_⟩:=h
      try simp only [Qm] at *
      exact SpecR.enc ((l9Small_spec ys _ _ hl h0_ hp_ ).frame hH).shut fun c=>Prod.ext (zauc  _ _).2.symm rfl
    · intro h;exact h.elim
  · intro h
    exact h.elim
@[go_sem] def Γc3:FuncId → Con:=ext Γc2 72 l9SmallC
theorem Jk:∀ g,ConOk Tryz.prog g (Γc3 g):=Qn Wi l9SmallC_ok

end
end Go.Proofs.YtiilmjojffjhlaaGreatDoor.Vm

