/-
  FnRefineBlocks: the walk of the law. No conditions.
-/
import Derived.Test.YtmiimodggpjkmaaGreatRH
import Derived.Test.YtmiimodggpjkmaaGreatRJ
import Derived.Test.YtmiimodggpjkmaaGreatW16
namespace Go.Proofs.YtmiimodggpjkmaaGreat.Vm
open Go
open Nat renaming sub_pos_of_lt → zsP
open List renaming getD_eq_getElem?_getD → zg,drop_one → zd
noncomputable section
set_option linter.unusedVariables false
set_option linter.unusedSimpArgs false
set_option maxRecDepth 200000

@[go_sem] def Uy:(List Ints2 × List (List Int)) × List Int → D:=fun x=>.tup [sG x.1,li cI x.2]
theorem zafz (x:(List Ints2 × List (List Int)) × List Int):dat (Uy x) = Uy x:=by simp [go_sem]
def zaai (xs:List UInt8):(List Ints2 × List (List Int)) × List Int → Prop:=fun x=>SmS x.1.1
def zaaq (xs:List UInt8) (x:((List Ints2 × List (List Int)) × List Int) × D):Prop:=zaai xs x.1 ∧ dat x.2 = Uy x.1
def zaah (xs:List UInt8) (c:Any):((List Ints2 × List (List Int)) × List Int) × D:=sel (zaaq xs) (((([],[]),[]):(List Ints2 × List (List Int)) × List Int),Uy ((([],[]),[]))) c
def zabm (xs:List UInt8) (c:Any):(List Ints2 × List (List Int)) × List Int:=(zaah xs c).1
theorem zadg (xs:List UInt8)  (c:Any):zaaq xs (zaah xs c):=by
  have hx:zaai xs ((([],[]),[])):=⟨by simp,fun _ h=>by cases h⟩
  exact Xz (p:=zaaq xs) (x0:=(((([],[]),[]):(List Ints2 × List (List Int)) × List Int),Uy ((([],[]),[])))) ⟨hx,zafz _⟩ c
theorem zahz (xs:List UInt8)  (c:Any):zaai xs (zabm xs c):=(zadg xs  c).1
theorem zahc (xs:List UInt8) {e_:Exit} {S_:St} (x:(List Ints2 × List (List Int)) × List Int) (he_:e_ = .ret ∨ e_ = .normal)
    (h1:(Qf Tryz.prog S_ Tryz.f4.results.toList).1 ∧ dat (resD (Qf Tryz.prog S_ Tryz.f4.results.toList).2.1) = Uy x) (hg:zaai xs x) :
    retR Tryz.prog Tryz.f4 (fun c=>((zaah xs c).2,fun _=>none)) e_ S_ :=
  Xy (good:=zaaq xs) (enc:=fun x:((List Ints2 × List (List Int)) × List Int) × D=>x.2) (x,resD (Qf Tryz.prog S_ Tryz.f4.results.toList).2.1) he_ ⟨h1.1,rfl⟩ ⟨hg,h1.2⟩
set_option maxHeartbeats 4000000 in
theorem zafy (xs:List UInt8)  : SpecR Tryz.prog 4 [li cY xs] (fun _=>none) (fun c=>((zaah xs c).2,fun _=>none)):=by
  refine SpecR.of_walk Tryz.func4 rfl (by simp [Tryz.f4]) fun B=>?_
  (repeat' (first
 | refine Qt ?_
 | refine Qc (id:=0) Γl9_ok [] (by kernel_rfl) ?_;simp [-zg,-zd,↓Qb,↓Qa,go_sem]
 | refine Qc (id:=1) Γl9_ok [] (by kernel_rfl) ?_;simp [-zg,-zd,↓Qb,↓Qa,go_sem];try ((intro c1);(have z0:=zajd xs c1);(generalize zabx xs c1 = y at *);(obtain ⟨⟨ma,mb⟩,bk⟩:=y);(simp only [zaac] at z0))
 | (refine Qg ?_)
 | (refine Qs ?_;simp [-zg,-zd,↓Qb,↓Qa,go_sem])
 | (refine Qr ?_;simp [-zg,-zd,↓Qb,↓Qa,go_sem])
 | (refine Qq ?_;try simp [-zg,-zd,↓Qb,↓Qa,go_sem,Tryz.results4])
 | (intro hx;refine zA ?_)
 | (intro hx;change retR _ _ _ _ _)
 | (refine ⟨?_,?_⟩ <;> refine zA ?_)
 | (intro hx;constructor <;> intro hs)
 | (constructor <;> intro hs)
 | (refine ⟨?_,fun hs=>?_⟩;refine zA ?_)
 | (refine ⟨fun hs=>?_,?_⟩;rotate_left;refine zA ?_;rotate_left)))
  all_goals (first
 | (refine zahc _ (((ma,mb),bk)) ?_ ?_ ?_;(first | exact Or.inl rfl | exact Or.inr rfl);(focus (simp [-zg,-zd,↓Qb,↓Qa,go_sem,Tryz.results4,dat,Xh,li,Zr];done));(focus ((exact z0);done)))
 | skip)
@[go_sem] def zact:Con:=.rel fun args H=>match args with
  | [.list n_xs c_xs]=>((Is cY n_xs c_xs),fun c=>(Uy (zabm (de cY c_xs) c),H))
  | _=>(False,fun _=>(.any,H))
theorem zahd:ConOk Tryz.prog 4 zact:=by
  refine ⟨Qo Tryz.func4 (by decide) rfl,fun args H h=>?_⟩
  revert h
  dsimp only
  split
  · intro h
    obtain ⟨xs,rfl,rfl⟩:=h
    try simp only [Qm] at *
    exact SpecR.enc ((SpecR.frame0 (zafy xs ) (H:=H)).shut) fun c=>Prod.ext (zadg _  c).2.symm rfl
  · intro h
    exact h.elim
@[go_sem] def Γz0:FuncId → Con:=ext Γl9 4 zact
theorem Vq:∀ g,ConOk Tryz.prog g (Γz0 g):=Qn Γl9_ok zahd

theorem wpIntsR_pure (xs:List Int) (ys:List Int)  : Pure Tryz.prog 7 [li cI xs,li cI ys] (.bool (decide (xs = ys))):=by
  refine Pure.of_walk Tryz.func7 rfl (by simp [Tryz.f7]) (by simp [-zd,go_sem]) fun B hK=>?_
  (repeat' (first
 | refine Qt ?_
 | (refine Zm 0 rfl fun hm=>?_);refine Qc (id:=0) Vq [] (by kernel_rfl) ?_;simp [-zg,-zd,↓Qb,↓Qa,go_sem]
 | refine Qc (id:=1) Vq [] (by kernel_rfl) ?_;simp [-zg,-zd,↓Qb,↓Qa,go_sem]
 | refine Qc (id:=2) Vq [] (by kernel_rfl) ?_;simp [-zg,-zd,↓Qb,↓Qa,go_sem]
 | refine Qc (id:=3) Vq [] (by kernel_rfl) ?_;simp [-zg,-zd,↓Qb,↓Qa,go_sem]
 | refine Qc (id:=4) Vq [] (by kernel_rfl) ?_;simp [-zg,-zd,↓Qb,↓Qa,go_sem]
 | (have cy:k < ys.length:=by omega);refine Xm (id:=6) Vq mixed [] [5] (by kernel_rfl) (by kernel_rfl) (by simp [-zg,-zd,↓Qb,↓Qa,go_sem,c14,Qe c14,zsP c14,cy,Qe cy,zsP cy]) ?_;simp [-zg,-zd,↓Qb,↓Qa,go_sem,c14,Qe c14,zsP c14,cy,Qe cy,zsP cy]
 | refine Qc (id:=7) Vq [] (by kernel_rfl) ?_;simp [-zg,-zd,↓Qb,↓Qa,go_sem]
 | refine Qc (id:=5) Vq [] (by kernel_rfl) ?_;simp [-zg,-zd,↓Qb,↓Qa,go_sem,wrapS (k:=k) (by omega)]
 | refine Qc (id:=8) Vq [] (by kernel_rfl) ?_;simp [-zg,-zd,↓Qb,↓Qa,go_sem]
 | refine Qd (c:=.tmp 10) ?_;simp [-zg,-zd,↓Qb,↓Qa,go_sem];try first | (refine ⟨?_,?_⟩ <;> refine zA ?_) | (refine ⟨fun c10=>?_,fun c10=>?_⟩ <;> (try simp [B_iff,B_not] at c10))
 | refine Qd (c:=.tmp 14) ?_;simp [-zg,-zd,↓Qb,↓Qa,go_sem];try first | (refine ⟨?_,?_⟩ <;> refine zA ?_) | (refine ⟨fun c14=>?_,fun c14=>?_⟩ <;> (try simp [B_iff,B_not] at c14))
 | refine Qd (c:=.tmp 25) ?_;simp [-zg,-zd,↓Qb,↓Qa,go_sem];try first | (refine ⟨?_,?_⟩ <;> refine zA ?_) | (refine ⟨fun c25=>?_,fun c25=>?_⟩ <;> (try simp [B_iff,B_not] at c25))
 | (refine Qg (id:=0) (Qx (ι:=Nat) (fun k:Nat=>⟨(upd (upd (upd (fun _=>.any) 0 (li cI xs)) 1 (li cI ys)) 5 (.int .i64 k)),fun _=>none⟩) (fun k=>k ≤ xs.length ∧ NoneTill (neAt xs ys) k) (fun k=>xs.length - k) (0) ?_ ?_ ?_);exact ⟨Nat.zero_le _,.zero _⟩;((repeat' (first | exact Qh (by assumption) | exact Qj | refine Qk ?_ ?_ | refine Qi ?_)) <;> simp [-zg,-zd,↓Qb,↓Qa,go_sem]);rintro k ⟨hk,ht⟩)
 | (refine ⟨k + 1,⟨by omega,ht.succ (by simp [neAt];first | exact c25 | (apply Prod.ext <;> simp_all;done) | (simp_all [Prod.ext_iff];done) | simp_all)⟩,by first | omega | (simp;done) | (simp;omega),?_⟩;((repeat' (first | exact Qh (by assumption) | exact Qj | refine Qk ?_ ?_ | refine Qi ?_)) <;> simp [-zg,-zd,↓Qb,↓Qa,go_sem]))
 | (refine Qg ?_)
 | (refine Qs ?_;simp [-zg,-zd,↓Qb,↓Qa,go_sem])
 | (refine Qr ?_;simp [-zg,-zd,↓Qb,↓Qa,go_sem])
 | (refine Qq ?_;simp [-zg,-zd,↓Qb,↓Qa,go_sem,Tryz.results7])
 | (intro hx;refine zA ?_)
 | (refine ⟨?_,?_⟩ <;> refine zA ?_)
 | (intro hx;constructor <;> intro hs)
 | (constructor <;> intro hs)
 | (refine ⟨?_,fun hs=>?_⟩;refine zA ?_)
 | (refine ⟨fun hs=>?_,?_⟩;rotate_left;refine zA ?_;rotate_left)))
  all_goals (first
 | (rintro rfl;simp at c10;done)
 | (rintro rfl;simp at c25;done)
 | exact zahv (by omega) ht (by omega)
 | skip)
@[go_sem] def zaeq:Con:=.pure fun
  | [.list n_xs c_xs,.list n_ys c_ys]=>((Is cI n_xs c_xs) ∧ (Is cI n_ys c_ys),.bool (decide ((de cI c_xs) = (de cI c_ys))))
  | _=>(False,.any)
theorem zakj:ConOk Tryz.prog 7 zaeq:=by
  refine ⟨Qo Tryz.func7 (by decide) rfl,fun args h=>?_⟩
  revert h
  dsimp only
  split
  · intro h
    obtain ⟨⟨xs,rfl,rfl⟩,⟨ys,rfl,rfl⟩⟩:=h
    try simp only [Qm] at *
    exact ⟨wpIntsR_pure xs ys,by simp [go_sem]⟩
  · intro h
    exact h.elim
@[go_sem] def Γz1:FuncId → Con:=ext Γz0 7 zaeq
theorem Jd:∀ g,ConOk Tryz.prog g (Γz1 g):=Qn Vq zakj

def covB (bl r1 r2:List Int) (k m:Nat):Bool:=(List.range m).any fun x=>decide (nth bl (nth r1 k).toNat = nth bl (nth r2 x).toNat)
theorem covB_zero (bl r1 r2:List Int) (k:Nat):covB bl r1 r2 k 0 = false:=rfl
theorem covB_succ (bl r1 r2:List Int) (k m:Nat):covB bl r1 r2 k (m + 1) = (covB bl r1 r2 k m || decide (nth bl (nth r1 k).toNat = nth bl (nth r2 m).toNat)):=by simp [covB,List.range_succ]
theorem covB_iff {bl r1 r2:List Int} {k:Nat}:covB bl r1 r2 k r2.length = true ↔ ∃ m,m < r2.length ∧ nth bl (nth r1 k).toNat = nth bl (nth r2 m).toNat:=by simp [covB]
theorem covB_old {bl r1 r2:List Int} {k m:Nat} (h:covB bl r1 r2 k m = true):covB bl r1 r2 k (m + 1) = true:=by rw [covB_succ,h];rfl
theorem covB_new {bl r1 r2:List Int} {k m:Nat} (h:covB bl r1 r2 k m = false):covB bl r1 r2 k (m + 1) = decide (nth bl (nth r1 k).toNat = nth bl (nth r2 m).toNat):=by rw [covB_succ,h];rfl

set_option maxHeartbeats 2000000 in
theorem wpCov_pure (a:List Ints2) (b:List (List Int)) (bl:List Int) (i:Int) (j:Int) (hr:RefOk b bl.length) (h0:0 ≤ i) (h1:i < bl.length) (g0:0 ≤ j) (g1:j < bl.length):Pure Tryz.prog 8 [.st [li cP a,li cL b],li cI bl,.int .i64 i,.int .i64 j] (.bool (Vm.B (CovP bl (nth b i.toNat) (nth b j.toNat)))):=by
  refine Pure.of_walk Tryz.func8 rfl (by simp [Tryz.f8]) (by simp [-zd,go_sem]) fun B hK=>?_
  obtain ⟨ii,rfl⟩:=Int.eq_ofNat_of_zero_le h0;obtain ⟨jj,rfl⟩:=Int.eq_ofNat_of_zero_le g0;have i1:ii < b.length:=(by rw [hr.1];omega);have j1:jj < b.length:=(by rw [hr.1];omega);obtain ⟨hil,hir⟩:=hr.2 ii (by omega);obtain ⟨hjl,hjr⟩:=hr.2 jj (by omega);rw [Int.toNat_natCast,Int.toNat_natCast]
  all_goals (repeat' (first
 | refine Qt ?_
 | refine Qc (id:=0) Jd [] (by kernel_rfl) ?_;simp [-zg,-zd,↓Qb,↓Qa,go_sem];try (refine Xf hK 4 ?_;simp [go_sem])
 | refine Qc (id:=1) Jd [] (by kernel_rfl) ?_;simp [-zg,-zd,↓Qb,↓Qa,go_sem]
 | refine Qc (id:=2) Jd [] (by kernel_rfl) ?_;simp [-zg,-zd,↓Qb,↓Qa,go_sem,i1,Qe i1,zsP i1]
 | refine Qc (id:=4) Jd [] (by kernel_rfl) ?_;simp [-zg,-zd,↓Qb,↓Qa,go_sem]
 | refine Qc (id:=5) Jd [] (by kernel_rfl) ?_;simp [-zg,-zd,↓Qb,↓Qa,go_sem]
 | refine Qc (id:=6) Jd [] (by kernel_rfl) ?_;simp [-zg,-zd,↓Qb,↓Qa,go_sem,j1,Qe j1,zsP j1]
 | ((obtain ⟨w,hw⟩:=Int.eq_ofNat_of_zero_le (hir k c19).1);(have hwl:w < bl.length:=(by have:=(hir k c19).2;omega));(obtain ⟨w2,hw2⟩:=Int.eq_ofNat_of_zero_le (hjr m c29).1);(have hwl2:w2 < bl.length:=(by have:=(hjr m c29).2;omega));(have e0:(nth (nth b ii) k).toNat = w:=(by rw [hw];rfl));(have e1:(nth (nth b jj) m).toNat = w2:=(by rw [hw2];rfl)));refine Xm (id:=8) Jd mixed [33] [1,4] (by kernel_rfl) (by kernel_rfl) (by simp [-zg,-zd,↓Qb,↓Qa,go_sem,i1,Qe i1,zsP i1,j1,Qe j1,zsP j1,c19,Qe c19,zsP c19,c29,Qe c29,zsP c29,hw,hw2,hwl,Qe hwl,zsP hwl,hwl2,Qe hwl2,zsP hwl2]) ?_;simp [-zg,-zd,↓Qb,↓Qa,go_sem,i1,Qe i1,zsP i1,j1,Qe j1,zsP j1,c19,Qe c19,zsP c19,c29,Qe c29,zsP c29,hw,hw2,hwl,Qe hwl,zsP hwl,hwl2,Qe hwl2,zsP hwl2];try (refine ⟨fun s8a=>?_,fun s8a=>?_⟩ <;> (try simp [B_iff,B_not] at s8a) <;> try (refine ⟨fun s8b=>?_,fun s8b=>?_⟩ <;> (try simp [B_iff,B_not] at s8b)))
 | ((first | (have e10:=covB_old s8a) | (have e10:=covB_new s8a;rw [e0,e1] at e10)));refine Qc (id:=7) Jd [] (by kernel_rfl) ?_;simp [-zg,-zd,↓Qb,↓Qa,go_sem,wrapS (k:=m) (by omega)]
 | ((obtain rfl:m = (nth b jj).length:=by omega));refine Qc (id:=9) Jd [] (by kernel_rfl) ?_;simp [-zg,-zd,↓Qb,↓Qa,go_sem]
 | refine Qc (id:=10) Jd [] (by kernel_rfl) ?_;simp [-zg,-zd,↓Qb,↓Qa,go_sem]
 | ((have hcb:=c59));refine Qc (id:=3) Jd [] (by kernel_rfl) ?_;simp [-zg,-zd,↓Qb,↓Qa,go_sem,wrapS (k:=k) (by omega)]
 | refine Qc (id:=11) Jd [] (by kernel_rfl) ?_;simp [-zg,-zd,↓Qb,↓Qa,go_sem]
 | refine Qd (c:=.tmp 19) ?_;simp [-zg,-zd,↓Qb,↓Qa,go_sem];try first | (refine ⟨?_,?_⟩ <;> refine zA ?_) | (refine ⟨fun c19=>?_,fun c19=>?_⟩ <;> (try simp [B_iff,B_not] at c19))
 | refine Qd (c:=.tmp 29) ?_;simp [-zg,-zd,↓Qb,↓Qa,go_sem];try first | (refine ⟨?_,?_⟩ <;> refine zA ?_) | (refine ⟨fun c29=>?_,fun c29=>?_⟩ <;> (try simp [B_iff,B_not] at c29))
 | refine Qd (c:=.tmp 59) ?_;simp [-zg,-zd,↓Qb,↓Qa,go_sem];try first | (refine ⟨?_,?_⟩ <;> refine zA ?_) | (refine ⟨fun c59=>?_,fun c59=>?_⟩ <;> (try simp [B_iff,B_not] at c59))
 | (refine Qg (id:=0) (Qx (ι:=Nat) (fun k:Nat=>⟨(upd (upd (upd (upd (upd (fun _=>.any) 1 (li cI bl)) 2 (.int .i64 (ii:Int))) 3 (.int .i64 (jj:Int))) 4 (.pd [li cP a,li cL b])) 9 (.int .i64 k)),fun _=>none⟩) (fun k=>k ≤ (nth b ii).length ∧ AllTill (fun k=>∃ m,m < (nth b jj).length ∧ nth bl (nth (nth b ii) k).toNat = nth bl (nth (nth b jj) m).toNat) k) (fun k=>(nth b ii).length - k) (0) ?_ ?_ ?_);exact ⟨Nat.zero_le _,.zero _⟩;((repeat' (first | exact Qh (by assumption) | exact Qj | refine Qk ?_ ?_ | refine Qi ?_)) <;> simp [-zg,-zd,↓Qb,↓Qa,go_sem]);rintro k ⟨hk,ht⟩)
 | (refine ⟨k + 1,⟨by omega,ht.succ (covB_iff.1 hcb)⟩,by first | omega | (simp;done) | (simp;omega),?_⟩;((repeat' (first | exact Qh (by assumption) | exact Qj | refine Qk ?_ ?_ | refine Qi ?_)) <;> simp [-zg,-zd,↓Qb,↓Qa,go_sem]))
 | (refine Qg (id:=2) (Qx (ι:=Nat) (fun m:Nat=>⟨(upd (upd (upd (upd (upd (upd (upd (fun _=>.any) 1 (li cI bl)) 2 (.int .i64 (ii:Int))) 3 (.int .i64 (jj:Int))) 4 (.pd [li cP a,li cL b])) 9 (.int .i64 k)) 10 (.bool (covB bl (nth b ii) (nth b jj) k m))) 11 (.int .i64 m)),fun _=>none⟩) (fun m=>m ≤ (nth b jj).length) (fun m=>(nth b jj).length - m) (0) ?_ ?_ ?_);exact Nat.zero_le _;((repeat' (first | exact Qh (by assumption) | exact Qj | refine Qk ?_ ?_ | refine Qi ?_)) <;> simp [-zg,-zd,↓Qb,↓Qa,go_sem,covB_zero]);rintro m hm2)
 | (refine ⟨m + 1,by omega,by first | omega | (simp;done) | (simp;omega),?_⟩;((repeat' (first | exact Qh (by assumption) | exact Qj | refine Qk ?_ ?_ | refine Qi ?_)) <;> simp [-zg,-zd,↓Qb,↓Qa,go_sem,e10]))
 | (refine Qg ?_)
 | (refine Qs ?_;simp [-zg,-zd,↓Qb,↓Qa,go_sem])
 | (refine Qr ?_;simp [-zg,-zd,↓Qb,↓Qa,go_sem])
 | (refine Qq ?_;simp [-zg,-zd,↓Qb,↓Qa,go_sem,Tryz.results8])
 | (intro hx;refine zA ?_)
 | (refine ⟨?_,?_⟩ <;> refine zA ?_)
 | (intro hx;constructor <;> intro hs)
 | (constructor <;> intro hs)
 | (refine ⟨?_,fun hs=>?_⟩;refine zA ?_)
 | (refine ⟨fun hs=>?_,?_⟩;rotate_left;refine zA ?_;rotate_left)))
  all_goals (first
 | (rw [B_not];intro hC;exact absurd (covB_iff.2 (hC k c19)) (by simp [c59]))
 | (rw [B_iff];intro x hx;exact ht x (by omega))
 | (intro hC;exact absurd (covB_iff.2 (hC k c19)) (by simp [c59]))
 | (intro x hx;exact ht x (by omega))
 | skip)
@[go_sem] def zaig:Con:=.pure fun
  | [.st [.list n_a c_a,.list n_b c_b],.list n_bl c_bl,.int .i64 i,.int .i64 j]=>((Is cP n_a c_a) ∧ (Is cL n_b c_b) ∧ (Is cI n_bl c_bl) ∧ (RefOk (de cL c_b) (de cI c_bl).length) ∧ (0 ≤ i) ∧ (i < (de cI c_bl).length) ∧ (0 ≤ j) ∧ (j < (de cI c_bl).length),.bool (Vm.B (CovP (de cI c_bl) (nth (de cL c_b) i.toNat) (nth (de cL c_b) j.toNat))))
  | _=>(False,.any)
theorem wpCov_pureC_ok:ConOk Tryz.prog 8 zaig:=by
  refine ⟨Qo Tryz.func8 (by decide) rfl,fun args h=>?_⟩
  revert h
  dsimp only
  split
  · intro h
    obtain ⟨⟨a,rfl,rfl⟩,⟨b,rfl,rfl⟩,⟨bl,rfl,rfl⟩,hr,h0,h1,g0,g1⟩:=h
    try simp only [Qm] at *
    exact ⟨wpCov_pure a b bl _ _ hr h0 h1 g0 g1,by simp [go_sem]⟩
  · intro h
    exact h.elim
@[go_sem] def Γz2:FuncId → Con:=ext Γz1 8 zaig
theorem Γz2_ok:∀ g,ConOk Tryz.prog g (Γz2 g):=Qn Jd wpCov_pureC_ok

theorem lawz3 {p q c1 c2:Prop} [Decidable p] (h:p ↔ q ∧ c1 ∧ c2) (hq:q) (h1:c1):Vm.B c2 = decide p:=by
  rw [Bool.eq_iff_iff,B_iff,decide_eq_true_eq,h]
  exact ⟨fun x=>⟨hq,h1,x⟩,fun x=>x.2.2⟩
theorem lawz2 {p q c1 c2:Prop} (h:p ↔ q ∧ c1 ∧ c2) (h1:¬ c1):¬ p:=fun x=>h1 (h.1 x).2.1
theorem lawz1 {p q c1 c2:Prop} (h:p ↔ q ∧ c1 ∧ c2) (hq:¬ q):¬ p:=fun x=>hq (h.1 x).1
theorem ref_law {nx:List (List Int)} {bl:List Int} {i k:Nat} (hi:i < bl.length) (hk:k < bl.length):nth (refE nx bl) i = nth (refE nx bl) k ↔ nth bl i = nth bl k ∧ CovP bl (nth nx i) (nth nx k) ∧ CovP bl (nth nx k) (nth nx i):=by
  rw [refE_iff hi hk,cov_iff]

@[go_sem] def Γz3:FuncId → Con:=ext Γz2 9 zaag
theorem Γz3_ok:∀ g,ConOk Tryz.prog g (Γz3 g):=Qn Γz2_ok zabt

@[go_sem] def Γz4:FuncId → Con:=ext Γz3 6 zaec
theorem Γz4_ok:∀ g,ConOk Tryz.prog g (Γz4 g):=Qn Γz3_ok zaga

@[go_sem] def Γz5:FuncId → Con:=ext Γz4 5 implRbFC
theorem Xw:∀ g,ConOk Tryz.prog g (Γz5 g):=Qn Γz4_ok implRbFC_ok

set_option maxHeartbeats 8000000 in
theorem lawFnRb (xs:List UInt8)  : Pure Tryz.prog 3 [li cY xs] (.bool true):=by
  refine Pure.of_walk Tryz.func3 rfl (by simp [Tryz.f3]) (by simp [-zd,go_sem]) fun B hK=>?_
  (repeat' (first
 | refine Qt ?_
 | (refine Zm 0 rfl fun hm0=>?_);refine Qc (id:=0) Xw [] (by kernel_rfl) ?_;simp [-zg,-zd,↓Qb,↓Qa,go_sem]
 | refine Qc (id:=1) Xw [] (by kernel_rfl) ?_;simp [-zg,-zd,↓Qb,↓Qa,go_sem]
 | refine Qc (id:=2) Xw [] (by kernel_rfl) ?_;simp [-zg,-zd,↓Qb,↓Qa,go_sem]
 | refine Qc (id:=3) Xw [] (by kernel_rfl) ?_;simp [-zg,-zd,↓Qb,↓Qa,go_sem];try ((intro c3);(have z0:=zahz xs c3);(generalize zabm xs c3 = z at *);(obtain ⟨⟨ga,gb⟩,bk⟩:=z);(clear z0);(refine Xf hK 3 ?_);(simp [go_sem]);(by_cases hQ:GraphOk ga gb ∧ Xt bk ∧ bk.length = ga.length);(have hB:=B_yes hQ);rotate_left 1;(have hB:=B_no hQ);rotate_left 1)
 | refine Qc (id:=4) Xw [] (by kernel_rfl) ?_;simp [-zg,-zd,↓Qb,↓Qa,go_sem,hB];try ((refine Xf hK 5 ?_);(simp [go_sem]);(obtain ⟨x,hx⟩:∃ x,rfR ga gb bk = x:=⟨_,rfl⟩);(rw [hx]))
 | refine Qc (id:=5) Xw [] (by kernel_rfl) ?_;simp [-zg,-zd,↓Qb,↓Qa,go_sem,hB,hx];try ((refine Xf hK 7 ?_);(simp [go_sem]))
 | refine Qc (id:=6) Xw [35,41] (by kernel_rfl) ?_;simp [-zg,-zd,↓Qb,↓Qa,go_sem];try (refine ⟨fun s6a=>?_,fun s6a=>?_⟩ <;> (try simp [B_iff,B_not] at s6a) <;> try (refine ⟨fun s6b=>?_,fun s6b=>?_⟩ <;> (try simp [B_iff,B_not] at s6b) <;> try (refine ⟨fun s6c=>?_,fun s6c=>?_⟩ <;> (try simp [B_iff,B_not] at s6c))))
 | refine Qc (id:=7) Xw [48] (by kernel_rfl) ?_;simp [-zg,-zd,↓Qb,↓Qa,go_sem];try (refine ⟨fun s7a=>?_,fun s7a=>?_⟩ <;> (try simp [B_iff,B_not] at s7a) <;> try (refine ⟨fun s7b=>?_,fun s7b=>?_⟩ <;> (try simp [B_iff,B_not] at s7b)))
 | refine Qc (id:=8) Xw [] (by kernel_rfl) ?_;simp [-zg,-zd,↓Qb,↓Qa,go_sem];try ((have hxr:x = refE gb bk:=(by rw [← hx,rfR,hB,if_pos rfl]));(have hxl:x.length = bk.length:=(by rw [hxr,refE_len]));(have hgl:ga.length ≤ 60:=hQ.1.2.1);(have hr:RefOk gb bk.length:=(by rw [hQ.2.2];exact hQ.1.refR));(have hlaw:∀ i k,i < bk.length → k < bk.length → (nth x i = nth x k ↔ nth bk i = nth bk k ∧ CovP bk (nth gb i) (nth gb k) ∧ CovP bk (nth gb k) (nth gb i)):=(by rw [hxr];exact fun i k hi hk=>ref_law hi hk));(have hV:Vm.B (GraphOk ga gb ∧ Xt x ∧ x.length = ga.length) = true:=B_yes ⟨hQ.1,by rw [hxr];exact refE_part gb bk,by rw [hxl];exact hQ.2.2⟩);(have hbl2:=hQ.2.2))
 | refine Qc (id:=9) Xw [] (by kernel_rfl) ?_;simp [-zg,-zd,↓Qb,↓Qa,go_sem]
 | refine Qc (id:=11) Xw [] (by kernel_rfl) ?_;simp [-zg,-zd,↓Qb,↓Qa,go_sem]
 | refine Qc (id:=12) Xw [] (by kernel_rfl) ?_;simp [-zg,-zd,↓Qb,↓Qa,go_sem]
 | ((have hif:=hlaw i k (by omega) (by omega));(have ib:i < bk.length:=(by omega));(have kb:k < bk.length:=(by omega));(have kx:k < x.length:=(by omega)));refine Xm (id:=14) Xw mixed [73] [5,4] (by kernel_rfl) (by kernel_rfl) (by simp [-zg,-zd,↓Qb,↓Qa,go_sem,c56,Qe c56,zsP c56,kx,Qe kx,zsP kx,ib,Qe ib,zsP ib,kb,Qe kb,zsP kb]) ?_;simp [-zg,-zd,↓Qb,↓Qa,go_sem,c56,Qe c56,zsP c56,kx,Qe kx,zsP kx,ib,Qe ib,zsP ib,kb,Qe kb,zsP kb];try (refine ⟨fun s14a=>?_,fun s14a=>?_⟩ <;> (try simp [B_iff,B_not] at s14a) <;> try (refine ⟨fun s14b=>?_,fun s14b=>?_⟩ <;> (try simp [B_iff,B_not] at s14b)))
 | refine Qc (id:=15) Xw [] (by kernel_rfl) ?_;simp [-zg,-zd,↓Qb,↓Qa,go_sem]
 | refine Xm (id:=16) Xw mixed [93,100] [4] (by kernel_rfl) (by kernel_rfl) (by simp [-zg,-zd,↓Qb,↓Qa,go_sem,ib,Qe ib,zsP ib,kb,Qe kb,zsP kb,hr,(show (i:Int) < (bk.length:Int) by omega),(show (k:Int) < (bk.length:Int) by omega)]) ?_;simp [-zg,-zd,↓Qb,↓Qa,go_sem,ib,Qe ib,zsP ib,kb,Qe kb,zsP kb,hr,(show (i:Int) < (bk.length:Int) by omega),(show (k:Int) < (bk.length:Int) by omega)];try (refine ⟨fun s16a=>?_,fun s16a=>?_⟩ <;> (try simp [B_iff,B_not] at s16a) <;> try (refine ⟨fun s16b=>?_,fun s16b=>?_⟩ <;> (try simp [B_iff,B_not] at s16b) <;> try (refine ⟨fun s16c=>?_,fun s16c=>?_⟩ <;> (try simp [B_iff,B_not] at s16c))))
 | ((first | (have hz:=lawz3 hif s16a s16b) | (have hz:=lawz2 hif s16b) | (have hz:=lawz1 hif s16a)));refine Xm (id:=17) Xw mixed [] [5] (by kernel_rfl) (by kernel_rfl) (by simp [-zg,-zd,↓Qb,↓Qa,go_sem,c56,Qe c56,zsP c56,kx,Qe kx,zsP kx,hz]) ?_;simp [-zg,-zd,↓Qb,↓Qa,go_sem,c56,Qe c56,zsP c56,kx,Qe kx,zsP kx,hz]
 | refine Qc (id:=18) Xw [] (by kernel_rfl) ?_;simp [-zg,-zd,↓Qb,↓Qa,go_sem]
 | refine Qc (id:=13) Xw [] (by kernel_rfl) ?_;simp [-zg,-zd,↓Qb,↓Qa,go_sem,wrapS (k:=k) (by omega)]
 | refine Qc (id:=10) Xw [] (by kernel_rfl) ?_;simp [-zg,-zd,↓Qb,↓Qa,go_sem,wrapS (k:=i) (by omega)]
 | refine Qc (id:=19) Xw [] (by kernel_rfl) ?_;simp [-zg,-zd,↓Qb,↓Qa,go_sem,hV]
 | refine Qd (c:=.tmp 14) ?_;simp [-zg,-zd,↓Qb,↓Qa,go_sem];try first | (refine ⟨?_,?_⟩ <;> refine zA ?_) | (refine ⟨fun c14=>?_,fun c14=>?_⟩ <;> (try simp [B_iff,B_not] at c14))
 | refine Qd (c:=.tmp 44) ?_;simp [-zg,-zd,↓Qb,↓Qa,go_sem];try first | (refine ⟨?_,?_⟩ <;> refine zA ?_) | (refine ⟨fun c44=>?_,fun c44=>?_⟩ <;> (try simp [B_iff,B_not] at c44))
 | refine Qd (c:=.tmp 56) ?_;simp [-zg,-zd,↓Qb,↓Qa,go_sem];try first | (refine ⟨?_,?_⟩ <;> refine zA ?_) | (refine ⟨fun c56=>?_,fun c56=>?_⟩ <;> (try simp [B_iff,B_not] at c56))
 | refine Qd (c:=.tmp 61) ?_;simp [-zg,-zd,↓Qb,↓Qa,go_sem];try first | (refine ⟨?_,?_⟩ <;> refine zA ?_) | (refine ⟨fun c61=>?_,fun c61=>?_⟩ <;> (try simp [B_iff,B_not] at c61))
 | refine Qd (c:=.tmp 83) ?_;simp [-zg,-zd,↓Qb,↓Qa,go_sem];try first | (refine ⟨?_,?_⟩ <;> refine zA ?_) | (refine ⟨fun c83=>?_,fun c83=>?_⟩ <;> (try simp [B_iff,B_not] at c83))
 | refine Qd (c:=.tmp 117) ?_;simp [-zg,-zd,↓Qb,↓Qa,go_sem];try first | (refine ⟨?_,?_⟩ <;> refine zA ?_) | (refine ⟨fun c117=>?_,fun c117=>?_⟩ <;> (try simp [B_iff,B_not] at c117))
 | (refine Qg (id:=0) (Qx (ι:=Nat) (fun i:Nat=>⟨(upd (upd (upd (upd (fun _=>.any) 3 (.pd [li cP ga,li cL gb])) 4 (li cI bk)) 5 (li cI x)) 9 (.int .i64 i)),fun _=>none⟩) (fun i=>i ≤ x.length) (fun i=>x.length - i) (0) ?_ ?_ ?_);exact Nat.zero_le _;((repeat' (first | exact Qh (by assumption) | exact Qj | refine Qk ?_ ?_ | refine Qi ?_)) <;> simp [-zg,-zd,↓Qb,↓Qa,go_sem]);rintro i hi)
 | (refine ⟨i + 1,by omega,by first | omega | (simp;done) | (simp;omega),?_⟩;((repeat' (first | exact Qh (by assumption) | exact Qj | refine Qk ?_ ?_ | refine Qi ?_)) <;> simp [-zg,-zd,↓Qb,↓Qa,go_sem]))
 | (refine Qg (id:=2) (Qx (ι:=Nat) (fun k:Nat=>⟨(upd (upd (upd (upd (upd (fun _=>.any) 3 (.pd [li cP ga,li cL gb])) 4 (li cI bk)) 5 (li cI x)) 9 (.int .i64 i)) 10 (.int .i64 k)),fun _=>none⟩) (fun k=>k ≤ i) (fun k=>i - k) (0) ?_ ?_ ?_);exact Nat.zero_le _;((repeat' (first | exact Qh (by assumption) | exact Qj | refine Qk ?_ ?_ | refine Qi ?_)) <;> simp [-zg,-zd,↓Qb,↓Qa,go_sem]);rintro k hk)
 | (refine ⟨k + 1,by omega,by first | omega | (simp;done) | (simp;omega),?_⟩;((repeat' (first | exact Qh (by assumption) | exact Qj | refine Qk ?_ ?_ | refine Qi ?_)) <;> simp [-zg,-zd,↓Qb,↓Qa,go_sem]))
 | (refine Qg ?_)
 | (refine Qs ?_;simp [-zg,-zd,↓Qb,↓Qa,go_sem])
 | (refine Qr ?_;simp [-zg,-zd,↓Qb,↓Qa,go_sem])
 | (refine Qq ?_;simp [-zg,-zd,↓Qb,↓Qa,go_sem,Tryz.results3])
 | (intro hx;refine zA ?_)
 | (refine ⟨?_,?_⟩ <;> refine zA ?_)
 | (intro hx;constructor <;> intro hs)
 | (constructor <;> intro hs)
 | (refine ⟨?_,fun hs=>?_⟩;refine zA ?_)
 | (refine ⟨fun hs=>?_,?_⟩;rotate_left;refine zA ?_;rotate_left)))
  all_goals (first
 | (exact absurd s14a hz)
 | (exact absurd (hif.1 s14a).1 c83)
 | skip)

end
end Go.Proofs.YtmiimodggpjkmaaGreat.Vm

