/-
  Letters of states, blocks of letters, the bisimulation: what is drawn from them. No conditions.
-/
import Derived.Test.YtmiimodggpjkmaaE18
import Derived.Test.YtmiimodggpjkmaaRD
import Derived.Test.YtmiimodggpjkmaaRD
namespace Go.Proofs.Ytmiimodggpjkmaa.Vm
open Go
open Nat renaming sub_pos_of_lt → zsP
open List renaming getD_eq_getElem?_getD → zg,drop_one → zd
noncomputable section
set_option linter.unusedVariables false
set_option linter.unusedSimpArgs false
set_option maxRecDepth 200000

@[go_sem] def Γm0:FuncId → Con:=ext Γe34 107 zacj
theorem Γm0_ok:∀ g,ConOk Try.prog g (Γm0 g):=Qm Γe34_ok zaed

@[go_sem] def Γm1:FuncId → Con:=ext Γm0 59 zads
theorem Wx:∀ g,ConOk Try.prog g (Γm1 g):=Qm Γm0_ok zajj

def LabOk (xs:List Tree):Prop:=xs.length = 3 ∧ ∀ i,i < xs.length → ExprOk (nth xs i)
theorem lab_res {xs:List Tree} {i:Nat} (hu:AllTill (fun i=>ExprOk (nth xs i)) i) (h:xs.length ≤ i):decide ((xs.length:Int) = 3) = Vm.B (LabOk xs):=by
  by_cases h3:(xs.length:Int) = 3
  · rw [decide_eq_true h3,B_yes (show LabOk xs from ⟨by omega,fun j hj=>hu j (by omega)⟩)]
  · rw [decide_eq_false h3,B_no (fun h:LabOk xs=>h3 (by have:=h.1;omega))]

theorem zanq (xs:List Tree)  : Pure Try.prog 217 [li cX xs] (.bool (B (LabOk xs))):=by
  refine Pure.of_walk Try.func217 rfl (by simp [Try.f217]) (by simp [-zd,go_sem]) fun B hK=>?_
  (repeat' (first
 | refine Qs ?_
 | (refine Zn 0 rfl fun hm=>?_);refine Qc (id:=0) Wx [] (by kernel_rfl) ?_;simp [-zg,-zd,↓Qb,↓Qa,go_sem]
 | refine Qc (id:=1) Wx [] (by kernel_rfl) ?_;simp [-zg,-zd,↓Qb,↓Qa,go_sem]
 | refine Qc (id:=2) Wx [] (by kernel_rfl) ?_;simp [-zg,-zd,↓Qb,↓Qa,go_sem]
 | refine Qc (id:=4) Wx [] (by kernel_rfl) ?_;simp [-zg,-zd,↓Qb,↓Qa,go_sem,c7,Qg c7,zsP c7,Tree.eta]
 | refine Qc (id:=5) Wx [] (by kernel_rfl) ?_;simp [-zg,-zd,↓Qb,↓Qa,go_sem]
 | refine Qc (id:=3) Wx [] (by kernel_rfl) ?_;simp [-zg,-zd,↓Qb,↓Qa,go_sem,wrapS (k:=i) (by omega)]
 | refine Qc (id:=6) Wx [] (by kernel_rfl) ?_;simp [-zg,-zd,↓Qb,↓Qa,go_sem]
 | refine Qd (c:=.tmp 7) ?_;simp [-zg,-zd,↓Qb,↓Qa,go_sem];try first | (refine ⟨?_,?_⟩ <;> refine zA ?_) | (refine ⟨fun c7=>?_,fun c7=>?_⟩ <;> (try simp [B_iff,B_not] at c7))
 | refine Qd (c:=.tmp 15) ?_;simp [-zg,-zd,↓Qb,↓Qa,go_sem];try first | (refine ⟨?_,?_⟩ <;> refine zA ?_) | (refine ⟨fun c15=>?_,fun c15=>?_⟩ <;> (try simp [B_iff,B_not] at c15))
 | (refine Qe (id:=0) (Qy (ι:=Nat) (fun i:Nat=>⟨(upd (upd (fun _=>.any) 0 (li cX xs)) 3 (.int .i64 i)),fun _=>none⟩) (fun i=>i ≤ xs.length ∧ AllTill (fun i=>ExprOk (nth xs i)) i) (fun i=>xs.length - i) (0) ?_ ?_ ?_);exact ⟨Nat.zero_le _,.zero _⟩;((repeat' (first | exact Qh (by assumption) | exact Qj | refine Qk ?_ ?_ | refine Qi ?_)) <;> simp [-zg,-zd,↓Qb,↓Qa,go_sem]);rintro i ⟨hi,hu⟩)
 | (refine ⟨i + 1,⟨by omega,hu.succ c15⟩,by first | omega | (simp;done) | (simp;omega),?_⟩;((repeat' (first | exact Qh (by assumption) | exact Qj | refine Qk ?_ ?_ | refine Qi ?_)) <;> simp [-zg,-zd,↓Qb,↓Qa,go_sem]))
 | (refine Qe ?_)
 | (refine Qr ?_;simp [-zg,-zd,↓Qb,↓Qa,go_sem])
 | (refine Qq ?_;simp [-zg,-zd,↓Qb,↓Qa,go_sem])
 | (refine Qp ?_;simp [-zg,-zd,↓Qb,↓Qa,go_sem,Try.results217])
 | (intro hx;refine zA ?_)
 | (refine ⟨?_,?_⟩ <;> refine zA ?_)
 | (intro hx;constructor <;> intro hs)
 | (constructor <;> intro hs)
 | (refine ⟨?_,fun hs=>?_⟩;refine zA ?_)
 | (refine ⟨fun hs=>?_,?_⟩;rotate_left;refine zA ?_;rotate_left)))
  all_goals (first
 | (intro h;exact c15 (h.2 i c7))
 | exact lab_res hu c7
 | skip)
@[go_sem] def zacv:Con:=.pure fun
  | [.list n_xs c_xs]=>((Is cX n_xs c_xs),.bool (B (LabOk (de cX c_xs))))
  | _=>(False,.any)
theorem zahm:ConOk Try.prog 217 zacv:=by
  refine ⟨Qn Try.func217 (by decide) rfl,fun args h=>?_⟩
  revert h
  dsimp only
  split
  · intro h
    obtain ⟨xs,rfl,rfl⟩:=h
    try simp only [Qo] at *
    exact ⟨zanq xs,by simp [go_sem]⟩
  · intro h
    exact h.elim
@[go_sem] def Γm2:FuncId → Con:=ext Γm1 217 zacv
theorem Uw:∀ g,ConOk Try.prog g (Γm2 g):=Qm Wx zahm

@[go_sem] def zacd:Int → D:=fun x=>.int .i64 x
def zake (a1:List Int) (a2:List Int) (xs:List Tree):Int → Prop:=fun _=>True
def zael (a1:List Int) (a2:List Int) (xs:List Tree) (c:Any):Int:=sel (zake a1 a2 xs) (0) c
theorem l8Letter_ret (a1:List Int) (a2:List Int) (xs:List Tree) {e_:Exit} {S_:St} (x:Int) (he_:e_ = .ret ∨ e_ = .normal)
    (h1:(Qf Try.prog S_ Try.f225.results.toList).1 ∧ resD (Qf Try.prog S_ Try.f225.results.toList).2.1 = zacd x) (hg:zake a1 a2 xs x) :
    retR Try.prog Try.f225 (fun c=>(zacd (zael a1 a2 xs c),fun _=>none)) e_ S_:=Zc (enc:=zacd) x he_ h1 hg
theorem l8Letter_pure (a1:List Int) (a2:List Int) (xs:List Tree) (hL:LabOk xs) (hv:ValsOk a2):PureR Try.prog 225 [.st [li cI a1,li cI a2],li cX xs] (fun c=>zacd (zael a1 a2 xs c)):=by
  refine PureR.of_walk Try.func225 rfl (by simp [Try.f225]) (fun c=>by simp [-zd,go_sem]) fun B hK=>?_
  (repeat' (first
 | refine Qs ?_
 | refine Qc (id:=0) Uw [] (by kernel_rfl) ?_;simp [-zg,-zd,↓Qb,↓Qa,go_sem];try (refine Xe 2 ?_;simp [go_sem])
 | refine Qc (id:=1) Uw [] (by kernel_rfl) ?_;simp [-zg,-zd,↓Qb,↓Qa,go_sem]
 | refine Qc (id:=2) Uw [] (by kernel_rfl) ?_;simp [-zg,-zd,↓Qb,↓Qa,go_sem]
 | refine Qc (id:=3) Uw [] (by kernel_rfl) ?_;simp [-zg,-zd,↓Qb,↓Qa,go_sem]
 | refine Xm (id:=5) Uw mixed [] [] (by kernel_rfl) (by kernel_rfl) (by simp [-zg,-zd,↓Qb,↓Qa,go_sem,c10,Qg c10,zsP c10,hv,(hL.2 q.1 c10).well,Tree.eta]) ?_;simp [-zg,-zd,↓Qb,↓Qa,go_sem,c10,Qg c10,zsP c10,hv,(hL.2 q.1 c10).well,Tree.eta];try (intro c5;have h5:=zaif (nth xs q.1).k (nth xs q.1).v (nth xs q.1).ks a2 c5;generalize Jc (nth xs q.1).k (nth xs q.1).v (nth xs q.1).ks a2 c5 = z at *)
 | refine Qc (id:=6) Uw [] (by kernel_rfl) ?_;simp [-zg,-zd,↓Qb,↓Qa,go_sem]
 | (first | (have d20:¬ _ = (0:Int):=c20;obtain ⟨v2,hv2⟩:∃ v2,v2 = bitsD BinOp.or IntKind.i64 q.2 (IntKind.i64.wrap (2 ^ min (IntKind.u64.wrap (q.1:Int)).toNat 64)):=⟨_,rfl⟩) | (obtain ⟨v2,hv2⟩:∃ v2,v2 = q.2:=⟨_,rfl⟩));refine Qc (id:=4) Uw [] (by kernel_rfl) ?_;simp [-zg,-zd,↓Qb,↓Qa,go_sem,wrapS (k:=q.1) (by have:=hL.1;omega)]
 | refine Qc (id:=7) Uw [] (by kernel_rfl) ?_;simp [-zg,-zd,↓Qb,↓Qa,go_sem]
 | refine Qd (c:=.tmp 10) ?_;simp [-zg,-zd,↓Qb,↓Qa,go_sem];try first | (refine ⟨?_,?_⟩ <;> refine zA ?_) | (refine ⟨fun c10=>?_,fun c10=>?_⟩ <;> (try simp [B_iff,B_not] at c10))
 | refine Qd (c:=.tmp 20) ?_;simp [-zg,-zd,↓Qb,↓Qa,go_sem];try first | (refine ⟨?_,?_⟩ <;> refine zA ?_) | (refine ⟨fun c20=>?_,fun c20=>?_⟩ <;> (try simp [B_iff,B_not] at c20))
 | (refine Qe (id:=0) (Qy (ι:=Nat × Int) (fun q:Nat × Int=>⟨(upd (upd (upd (upd (fun _=>.any) 1 (li cX xs)) 2 (.pd [li cI a1,li cI a2])) 5 (.int .i64 q.2)) 6 (.int .i64 q.1)),fun _=>none⟩) (fun q=>q.1 ≤ xs.length) (fun q=>xs.length - q.1) ((0,0)) ?_ ?_ ?_);exact Nat.zero_le _;((repeat' (first | exact Qh (by assumption) | exact Qj | refine Qk ?_ ?_ | refine Qi ?_)) <;> simp [-zg,-zd,↓Qb,↓Qa,go_sem]);rintro q hi)
 | (refine ⟨(q.1 + 1,v2),by dsimp only;omega,by first | omega | (simp;done) | (simp;omega),?_⟩;((repeat' (first | exact Qh (by assumption) | exact Qj | refine Qk ?_ ?_ | refine Qi ?_)) <;> simp [-zg,-zd,↓Qb,↓Qa,go_sem,hv2]))
 | (refine Qe ?_)
 | (refine Qr ?_;simp [-zg,-zd,↓Qb,↓Qa,go_sem])
 | (refine Qq ?_;simp [-zg,-zd,↓Qb,↓Qa,go_sem])
 | (refine Qp ?_;try simp [-zg,-zd,↓Qb,↓Qa,go_sem,Try.results225])
 | (intro hx;refine zA ?_)
 | (intro hx;change retR _ _ _ _ _)
 | (refine ⟨?_,?_⟩ <;> refine zA ?_)
 | (intro hx;constructor <;> intro hs)
 | (constructor <;> intro hs)
 | (refine ⟨?_,fun hs=>?_⟩;refine zA ?_)
 | (refine ⟨fun hs=>?_,?_⟩;rotate_left;refine zA ?_;rotate_left)))
  all_goals (first
 | (refine l8Letter_ret _ _ _ (q.2) ?_ ?_ ?_;(first | exact Or.inl rfl | exact Or.inr rfl);(focus (simp [-zg,-zd,↓Qb,↓Qa,go_sem,Try.results225];done));(focus ((trivial);done)))
 | skip)
@[go_sem] def l8LetterC:Con:=.prel fun
  | [.st [.list n_a1 c_a1,.list n_a2 c_a2],.list n_xs c_xs]=>((Is cI n_a1 c_a1) ∧ (Is cI n_a2 c_a2) ∧ (Is cX n_xs c_xs) ∧ (LabOk (de cX c_xs)) ∧ (ValsOk (de cI c_a2)),fun c=>zacd (zael (de cI c_a1) (de cI c_a2) (de cX c_xs) c))
  | _=>(False,fun _=>.any)
theorem l8LetterC_ok:ConOk Try.prog 225 l8LetterC:=by
  refine ⟨Qn Try.func225 (by decide) rfl,fun args h=>?_⟩
  revert h
  dsimp only
  split
  · intro h
    obtain ⟨⟨a1,rfl,rfl⟩,⟨a2,rfl,rfl⟩,⟨xs,rfl,rfl⟩,hL,hv⟩:=h
    try simp only [Qo] at *
    exact ⟨l8Letter_pure a1 a2 xs hL hv,fun c=>by simp [go_sem]⟩
  · intro h
    exact h.elim
@[go_sem] def Γm3:FuncId → Con:=ext Γm2 225 l8LetterC
theorem Ww:∀ g,ConOk Try.prog g (Γm3 g):=Qm Uw l8LetterC_ok

@[go_sem] def zabn:List Int → D:=fun x=>fr 1 cI x
def zaaw (a:List Ints2) (b:List (List Int)) (xs:List Tree):List Int → Prop:=fun x=>x.length = a.length
def zacm (a:List Ints2) (b:List (List Int)) (xs:List Tree) (c:Any):List Int:=sel (zaaw a b xs) (List.replicate a.length 0) c
theorem l8Letters_ok (a:List Ints2) (b:List (List Int)) (xs:List Tree) (hL:LabOk xs) (hG:GraphOk a b) (c:Any):zaaw a b xs (zacm a b xs c):=Zd (p:=zaaw a b xs) (x0:=List.replicate a.length 0) (by simp [zaaw]) c
theorem l8Letters_ret (a:List Ints2) (b:List (List Int)) (xs:List Tree) {e_:Exit} {S_:St} (x:List Int) (he_:e_ = .ret ∨ e_ = .normal)
    (h1:(Qf Try.prog S_ Try.f218.results.toList).1 ∧ resD (Qf Try.prog S_ Try.f218.results.toList).2.1 = zabn x) (hg:zaaw a b xs x) :
    retR Try.prog Try.f218 (fun c=>(zabn (zacm a b xs c),fun _=>none)) e_ S_:=Zc (enc:=zabn) x he_ h1 hg
theorem l8Letters_pure (a:List Ints2) (b:List (List Int)) (xs:List Tree) (hL:LabOk xs) (hG:GraphOk a b):PureR Try.prog 218 [.st [li cP a,li cL b],li cX xs] (fun c=>zabn (zacm a b xs c)):=by
  refine PureR.of_walk Try.func218 rfl (by simp [Try.f218]) (fun c=>by simp [-zd,go_sem]) fun B hK=>?_
  (repeat' (first
 | refine Qs ?_
 | refine Qc (id:=0) Ww [] (by kernel_rfl) ?_;simp [-zg,-zd,↓Qb,↓Qa,go_sem];try (refine Xe 2 ?_;simp [go_sem])
 | refine Qc (id:=1) Ww [] (by kernel_rfl) ?_;simp [-zg,-zd,↓Qb,↓Qa,go_sem]
 | refine Qc (id:=2) Ww [] (by kernel_rfl) ?_;simp [-zg,-zd,↓Qb,↓Qa,go_sem]
 | refine Qc (id:=3) Ww [] (by kernel_rfl) ?_;simp [-zg,-zd,↓Qb,↓Qa,go_sem]
 | ((have hvv:=hG.2.2.2.1 q.2 c12);(have ha60:=hG.2.1));refine Qc (id:=5) Ww [] (by kernel_rfl) ?_;simp [-zg,-zd,↓Qb,↓Qa,go_sem,c12,Qg c12,zsP c12,hL,hvv,(show q.1.length ≤ 9223372036854775806 by omega),(show 2 * (q.1.length + 1) * 8 ≤ 281474976710656 by omega),(show q.1.length + 1 ≤ 9223372036854775807 by omega),Wd];try (intro c5;generalize zael (nth a q.2).1 (nth a q.2).2 xs c5 = z at *)
 | refine Qc (id:=4) Ww [] (by kernel_rfl) ?_;simp [-zg,-zd,↓Qb,↓Qa,go_sem,wrapS (k:=q.2) (by have:=hG.2.1;omega)]
 | refine Qc (id:=6) Ww [] (by kernel_rfl) ?_;simp [-zg,-zd,↓Qb,↓Qa,go_sem]
 | refine Qd (c:=.tmp 12) ?_;simp [-zg,-zd,↓Qb,↓Qa,go_sem];try first | (refine ⟨?_,?_⟩ <;> refine zA ?_) | (refine ⟨fun c12=>?_,fun c12=>?_⟩ <;> (try simp [B_iff,B_not] at c12))
 | (refine Qe (id:=0) (Qy (ι:=List Int × Nat) (fun q:List Int × Nat=>⟨(upd (upd (upd (upd (fun _=>.any) 1 (li cX xs)) 2 (.pd [li cP a,li cL b])) 5 (.fr 1 q.1.length (cat cI q.1))) 6 (.int .i64 q.2)),fun _=>none⟩) (fun q=>q.2 ≤ a.length ∧ q.1.length = q.2) (fun q=>a.length - q.2) (([],0)) ?_ ?_ ?_);exact ⟨Nat.zero_le _,rfl⟩;((repeat' (first | exact Qh (by assumption) | exact Qj | refine Qk ?_ ?_ | refine Qi ?_)) <;> simp [-zg,-zd,↓Qb,↓Qa,go_sem,Xj]);rintro q ⟨g1,g2⟩)
 | (refine ⟨(q.1 ++ [z],q.2 + 1),⟨by dsimp only;omega,by simp;omega⟩,by first | omega | (simp;done) | (simp;omega),?_⟩;((repeat' (first | exact Qh (by assumption) | exact Qj | refine Qk ?_ ?_ | refine Qi ?_)) <;> simp [-zg,-zd,↓Qb,↓Qa,go_sem,Xi,Xd]))
 | (refine Qe ?_)
 | (refine Qr ?_;simp [-zg,-zd,↓Qb,↓Qa,go_sem])
 | (refine Qq ?_;simp [-zg,-zd,↓Qb,↓Qa,go_sem])
 | (refine Qp ?_;try simp [-zg,-zd,↓Qb,↓Qa,go_sem,Try.results218])
 | (intro hx;refine zA ?_)
 | (intro hx;change retR _ _ _ _ _)
 | (refine ⟨?_,?_⟩ <;> refine zA ?_)
 | (intro hx;constructor <;> intro hs)
 | (constructor <;> intro hs)
 | (refine ⟨?_,fun hs=>?_⟩;refine zA ?_)
 | (refine ⟨fun hs=>?_,?_⟩;rotate_left;refine zA ?_;rotate_left)))
  all_goals (first
 | (refine l8Letters_ret _ _ _ (q.1) ?_ ?_ ?_;(first | exact Or.inl rfl | exact Or.inr rfl);(focus (simp [-zg,-zd,↓Qb,↓Qa,go_sem,Try.results218];done));(focus ((simp only [zaaw];omega);done)))
 | skip)
@[go_sem] def zamd:Con:=.prel fun
  | [.st [.list n_a c_a,.list n_b c_b],.list n_xs c_xs]=>((Is cP n_a c_a) ∧ (Is cL n_b c_b) ∧ (Is cX n_xs c_xs) ∧ (LabOk (de cX c_xs)) ∧ (GraphOk (de cP c_a) (de cL c_b)),fun c=>zabn (zacm (de cP c_a) (de cL c_b) (de cX c_xs) c))
  | _=>(False,fun _=>.any)
theorem l8LettersC_ok:ConOk Try.prog 218 zamd:=by
  refine ⟨Qn Try.func218 (by decide) rfl,fun args h=>?_⟩
  revert h
  dsimp only
  split
  · intro h
    obtain ⟨⟨a,rfl,rfl⟩,⟨b,rfl,rfl⟩,⟨xs,rfl,rfl⟩,hL,hG⟩:=h
    try simp only [Qo] at *
    exact ⟨l8Letters_pure a b xs hL hG,fun c=>by simp [go_sem]⟩
  · intro h
    exact h.elim
@[go_sem] def Γm4:FuncId → Con:=ext Γm3 218 zamd
theorem Γm4_ok:∀ g,ConOk Try.prog g (Γm4 g):=Qm Ww l8LettersC_ok

@[go_sem] def zaay:List Int × Bool → D:=fun x=>.tup [fr 1 cI x.1,.bool x.2]
def zaag (a:List Ints2) (b:List (List Int)) (xs:List Tree):List Int × Bool → Prop:=fun x=>x.2 = true → GraphOk a b ∧ x.1.length = a.length
def zabx (a:List Ints2) (b:List (List Int)) (xs:List Tree) (c:Any):List Int × Bool:=sel (zaag a b xs) (([],false)) c
theorem LabelGraph_ok (a:List Ints2) (b:List (List Int)) (xs:List Tree)  (c:Any):zaag a b xs (zabx a b xs c):=Zd (p:=zaag a b xs) (x0:=([],false)) (by simp [zaag]) c
theorem zaim (a:List Ints2) (b:List (List Int)) (xs:List Tree) {e_:Exit} {S_:St} (x:List Int × Bool) (he_:e_ = .ret ∨ e_ = .normal)
    (h1:(Qf Try.prog S_ Try.f202.results.toList).1 ∧ resD (Qf Try.prog S_ Try.f202.results.toList).2.1 = zaay x) (hg:zaag a b xs x) :
    retR Try.prog Try.f202 (fun c=>(zaay (zabx a b xs c),fun _=>none)) e_ S_:=Zc (enc:=zaay) x he_ h1 hg
theorem zaos (a:List Ints2) (b:List (List Int)) (xs:List Tree)  : PureR Try.prog 202 [.st [li cP a,li cL b],li cX xs] (fun c=>zaay (zabx a b xs c)):=by
  refine PureR.of_walk Try.func202 rfl (by simp [Try.f202]) (fun c=>by simp [-zd,go_sem]) fun B hK=>?_
  (repeat' (first
 | refine Qs ?_
 | refine Qc (id:=0) Γm4_ok [] (by kernel_rfl) ?_;simp [-zg,-zd,↓Qb,↓Qa,go_sem];try (refine Xe 2 ?_;simp [go_sem])
 | refine Qc (id:=1) Γm4_ok [9] (by kernel_rfl) ?_;simp [-zg,-zd,↓Qb,↓Qa,go_sem];try (refine ⟨fun s1a=>?_,fun s1a=>?_⟩ <;> (try simp [B_iff,B_not] at s1a) <;> try (refine ⟨fun s1b=>?_,fun s1b=>?_⟩ <;> (try simp [B_iff,B_not] at s1b)))
 | refine Qc (id:=2) Γm4_ok [] (by kernel_rfl) ?_;simp [-zg,-zd,↓Qb,↓Qa,go_sem]
 | ((have hG:GraphOk a b:=by simp_all);(have hL:LabOk xs:=by simp_all));refine Qc (id:=3) Γm4_ok [] (by kernel_rfl) ?_;simp [-zg,-zd,↓Qb,↓Qa,go_sem,hG,hL];try (intro c3;have h3:=l8Letters_ok a b xs hL hG c3;generalize zacm a b xs c3 = z at *)
 | refine Qd (c:=.tmp 13) ?_;simp [-zg,-zd,↓Qb,↓Qa,go_sem];try first | (refine ⟨?_,?_⟩ <;> refine zA ?_) | (refine ⟨fun c13=>?_,fun c13=>?_⟩ <;> (try simp [B_iff,B_not] at c13))
 | (refine Qe ?_)
 | (refine Qr ?_;simp [-zg,-zd,↓Qb,↓Qa,go_sem])
 | (refine Qq ?_;simp [-zg,-zd,↓Qb,↓Qa,go_sem])
 | (refine Qp ?_;try simp [-zg,-zd,↓Qb,↓Qa,go_sem,Try.results202])
 | (intro hx;refine zA ?_)
 | (intro hx;change retR _ _ _ _ _)
 | (refine ⟨?_,?_⟩ <;> refine zA ?_)
 | (intro hx;constructor <;> intro hs)
 | (constructor <;> intro hs)
 | (refine ⟨?_,fun hs=>?_⟩;refine zA ?_)
 | (refine ⟨fun hs=>?_,?_⟩;rotate_left;refine zA ?_;rotate_left)))
  all_goals (first
 | (refine zaim _ _ _ (([],false)) ?_ ?_ ?_;(first | exact Or.inl rfl | exact Or.inr rfl);(focus (simp [-zg,-zd,↓Qb,↓Qa,go_sem,Try.results202];done));(focus ((simp [zaag]);done)))
 | (refine zaim _ _ _ ((z,true)) ?_ ?_ ?_;(first | exact Or.inl rfl | exact Or.inr rfl);(focus (simp [-zg,-zd,↓Qb,↓Qa,go_sem,Try.results202];done));(focus ((intro _;exact ⟨hG,h3⟩);done)))
 | skip)
@[go_sem] def zajw:Con:=.prel fun
  | [.st [.list n_a c_a,.list n_b c_b],.list n_xs c_xs]=>((Is cP n_a c_a) ∧ (Is cL n_b c_b) ∧ (Is cX n_xs c_xs),fun c=>zaay (zabx (de cP c_a) (de cL c_b) (de cX c_xs) c))
  | _=>(False,fun _=>.any)
theorem LabelGraphC_ok:ConOk Try.prog 202 zajw:=by
  refine ⟨Qn Try.func202 (by decide) rfl,fun args h=>?_⟩
  revert h
  dsimp only
  split
  · intro h
    obtain ⟨⟨a,rfl,rfl⟩,⟨b,rfl,rfl⟩,⟨xs,rfl,rfl⟩⟩:=h
    try simp only [Qo] at *
    exact ⟨zaos a b xs ,fun c=>by simp [go_sem]⟩
  · intro h
    exact h.elim
@[go_sem] def Γm5:FuncId → Con:=ext Γm4 202 zajw
theorem Va:∀ g,ConOk Try.prog g (Γm5 g):=Qm Γm4_ok LabelGraphC_ok

@[go_sem] def zaap:List Int × Bool → D:=fun x=>.tup [fr 1 cI x.1,.bool x.2]
def zaac (a:List Ints2) (b:List (List Int)) (xs:List Tree):List Int × Bool → Prop:=fun x=>x.2 = true → GraphOk a b ∧ ∃ K,x.1 = numK K ∧ K.length = a.length
def zabe (a:List Ints2) (b:List (List Int)) (xs:List Tree) (c:Any):List Int × Bool:=sel (zaac a b xs) (([],false)) c
theorem LabelBlocks_ok (a:List Ints2) (b:List (List Int)) (xs:List Tree)  (c:Any):zaac a b xs (zabe a b xs c):=Zd (p:=zaac a b xs) (x0:=([],false)) (by simp [zaac]) c
theorem zagm (a:List Ints2) (b:List (List Int)) (xs:List Tree) {e_:Exit} {S_:St} (x:List Int × Bool) (he_:e_ = .ret ∨ e_ = .normal)
    (h1:(Qf Try.prog S_ Try.f167.results.toList).1 ∧ resD (Qf Try.prog S_ Try.f167.results.toList).2.1 = zaap x) (hg:zaac a b xs x) :
    retR Try.prog Try.f167 (fun c=>(zaap (zabe a b xs c),fun _=>none)) e_ S_:=Zc (enc:=zaap) x he_ h1 hg
theorem zanr (a:List Ints2) (b:List (List Int)) (xs:List Tree)  : PureR Try.prog 167 [.st [li cP a,li cL b],li cX xs] (fun c=>zaap (zabe a b xs c)):=by
  refine PureR.of_walk Try.func167 rfl (by simp [Try.f167]) (fun c=>by simp [-zd,go_sem]) fun B hK=>?_
  (repeat' (first
 | refine Qs ?_
 | refine Qc (id:=0) Va [] (by kernel_rfl) ?_;simp [-zg,-zd,↓Qb,↓Qa,go_sem];try (refine Xe 2 ?_;simp [go_sem])
 | refine Qc (id:=1) Va [] (by kernel_rfl) ?_;simp [-zg,-zd,↓Qb,↓Qa,go_sem];try (intro c1;have h1:=LabelGraph_ok a b xs c1;generalize zabx a b xs c1 = z at *;obtain ⟨ll,ok⟩:=z;simp only [zaag] at h1;refine Xe 6 ?_;simp [go_sem])
 | refine Qc (id:=2) Va [] (by kernel_rfl) ?_;simp [-zg,-zd,↓Qb,↓Qa,go_sem]
 | refine Qc (id:=3) Va [] (by kernel_rfl) ?_;simp [-zg,-zd,↓Qb,↓Qa,go_sem]
 | ((obtain ⟨hG,hll⟩:=h1 (by simp_all));(have ha60:=hG.2.1));refine Qc (id:=4) Va [] (by kernel_rfl) ?_;simp [-zg,-zd,↓Qb,↓Qa,go_sem]
 | refine Qc (id:=5) Va [] (by kernel_rfl) ?_;simp [-zg,-zd,↓Qb,↓Qa,go_sem]
 | refine Qc (id:=6) Va [] (by kernel_rfl) ?_;simp [-zg,-zd,↓Qb,↓Qa,go_sem]
 | ((have e8:cat oL ((ll.map fun x=>[x]).take i) ++ [.fr 1 1 [.int .i64 (nth ll i)]] = cat oL ((ll.map fun x=>[x]).take (i + 1)):=(by rw [← List.map_take,← List.map_take,List.take_succ_eq_append_getElem c23,← Qv c23,List.map_append,Xi];rfl)));refine Qc (id:=8) Va [] (by kernel_rfl) ?_;simp [-zg,-zd,↓Qb,↓Qa,go_sem,c23,Qg c23,zsP c23,e8,(show i ≤ 9223372036854775806 by omega),(show 2 * (i + 1) * 24 ≤ 281474976710656 by omega),(show i + 1 ≤ 9223372036854775807 by omega)]
 | refine Qc (id:=7) Va [] (by kernel_rfl) ?_;simp [-zg,-zd,↓Qb,↓Qa,go_sem,wrapS (k:=i) (by omega)]
 | ((obtain rfl:i = ll.length:=by omega);(refine Xe 8 ?_);(have hT:(ll.map fun x=>[x]).take ll.length = ll.map fun x=>[x]:=(by rw [List.take_of_length_le];simp)));refine Qc (id:=9) Va [] (by kernel_rfl) ?_;simp [-zg,-zd,↓Qb,↓Qa,go_sem,(show ll.length ≤ 1048577 by omega),hT]
 | refine Qd (c:=.tmp 17) ?_;simp [-zg,-zd,↓Qb,↓Qa,go_sem];try first | (refine ⟨?_,?_⟩ <;> refine zA ?_) | (refine ⟨fun c17=>?_,fun c17=>?_⟩ <;> (try simp [B_iff,B_not] at c17))
 | refine Qd (c:=.tmp 23) ?_;simp [-zg,-zd,↓Qb,↓Qa,go_sem];try first | (refine ⟨?_,?_⟩ <;> refine zA ?_) | (refine ⟨fun c23=>?_,fun c23=>?_⟩ <;> (try simp [B_iff,B_not] at c23))
 | (refine Qe (id:=0) (Qy (ι:=Nat) (fun i:Nat=>⟨(upd (upd (upd (fun _=>.any) 6 (li cI ll)) 8 (.fr 1 i (cat oL ((ll.map fun x=>[x]).take i)))) 9 (.int .i64 i)),fun _=>none⟩) (fun i=>i ≤ ll.length) (fun i=>ll.length - i) (0) ?_ ?_ ?_);exact Nat.zero_le _;((repeat' (first | exact Qh (by assumption) | exact Qj | refine Qk ?_ ?_ | refine Qi ?_)) <;> simp [-zg,-zd,↓Qb,↓Qa,go_sem,Xj]);rintro i hi)
 | (refine ⟨i + 1,by omega,by first | omega | (simp;done) | (simp;omega),?_⟩;((repeat' (first | exact Qh (by assumption) | exact Qj | refine Qk ?_ ?_ | refine Qi ?_)) <;> simp [-zg,-zd,↓Qb,↓Qa,go_sem,e8]))
 | (refine Qe ?_)
 | (refine Qr ?_;simp [-zg,-zd,↓Qb,↓Qa,go_sem])
 | (refine Qq ?_;simp [-zg,-zd,↓Qb,↓Qa,go_sem])
 | (refine Qp ?_;try simp [-zg,-zd,↓Qb,↓Qa,go_sem,Try.results167])
 | (intro hx;refine zA ?_)
 | (intro hx;change retR _ _ _ _ _)
 | (refine ⟨?_,?_⟩ <;> refine zA ?_)
 | (intro hx;constructor <;> intro hs)
 | (constructor <;> intro hs)
 | (refine ⟨?_,fun hs=>?_⟩;refine zA ?_)
 | (refine ⟨fun hs=>?_,?_⟩;rotate_left;refine zA ?_;rotate_left)))
  all_goals (first
 | (refine zagm _ _ _ (([],false)) ?_ ?_ ?_;(first | exact Or.inl rfl | exact Or.inr rfl);(focus (simp [-zg,-zd,↓Qb,↓Qa,go_sem,Try.results167];done));(focus ((simp [zaac]);done)))
 | (refine zagm _ _ _ ((numK (ll.map fun x=>[x]),true)) ?_ ?_ ?_;(first | exact Or.inl rfl | exact Or.inr rfl);(focus (simp [-zg,-zd,↓Qb,↓Qa,go_sem,Try.results167,hT];done));(focus ((intro _;exact ⟨hG,_,rfl,by simp [hll]⟩);done)))
 | skip)
@[go_sem] def zahn:Con:=.prel fun
  | [.st [.list n_a c_a,.list n_b c_b],.list n_xs c_xs]=>((Is cP n_a c_a) ∧ (Is cL n_b c_b) ∧ (Is cX n_xs c_xs),fun c=>zaap (zabe (de cP c_a) (de cL c_b) (de cX c_xs) c))
  | _=>(False,fun _=>.any)
theorem zaot:ConOk Try.prog 167 zahn:=by
  refine ⟨Qn Try.func167 (by decide) rfl,fun args h=>?_⟩
  revert h
  dsimp only
  split
  · intro h
    obtain ⟨⟨a,rfl,rfl⟩,⟨b,rfl,rfl⟩,⟨xs,rfl,rfl⟩⟩:=h
    try simp only [Qo] at *
    exact ⟨zanr a b xs ,fun c=>by simp [go_sem]⟩
  · intro h
    exact h.elim
@[go_sem] def Γm6:FuncId → Con:=ext Γm5 167 zahn
theorem Uv:∀ g,ConOk Try.prog g (Γm6 g):=Qm Va zaot

theorem GraphOk.ref {a:List Ints2} {b:List (List Int)} (h:GraphOk a b):RefOk b a.length:=by
  obtain ⟨h1,h2,h3,h4,h5⟩:=h
  refine ⟨h3,fun j hj=>?_⟩
  have hd:=(h5 j (by omega)).2
  have hl:=hd.len
  exact ⟨by omega,fun k hk=>⟨(hd.at hk).1,(hd.at hk).2.1⟩⟩

@[go_sem] def Wh:List Int × Bool → D:=fun x=>.tup [li cI x.1,.bool x.2]
theorem zakr (x:List Int × Bool):dat (Wh x) = Wh x:=by simp [go_sem]
def Wg (a:List Ints2) (b:List (List Int)) (xs:List Tree):List Int × Bool → Prop:=fun x=>x.1.length ≤ 60
def zacl (a:List Ints2) (b:List (List Int)) (xs:List Tree) (x:(List Int × Bool) × D):Prop:=Wg a b xs x.1 ∧ dat x.2 = Wh x.1
def zabf (a:List Ints2) (b:List (List Int)) (xs:List Tree) (c:Any):(List Int × Bool) × D:=sel (zacl a b xs) ((([],false):List Int × Bool),Wh (([],false))) c
def zadl (a:List Ints2) (b:List (List Int)) (xs:List Tree) (c:Any):List Int × Bool:=(zabf a b xs c).1
theorem zafv (a:List Ints2) (b:List (List Int)) (xs:List Tree)  (c:Any):zacl a b xs (zabf a b xs c):=by
  have hx:Wg a b xs (([],false)):=by simp [Wg]
  exact Zd (p:=zacl a b xs) (x0:=((([],false):List Int × Bool),Wh (([],false)))) ⟨hx,zakr _⟩ c
theorem zaox (a:List Ints2) (b:List (List Int)) (xs:List Tree)  (c:Any):Wg a b xs (zadl a b xs c):=(zafv a b xs  c).1
theorem zafu (a:List Ints2) (b:List (List Int)) (xs:List Tree) {e_:Exit} {S_:St} (x:List Int × Bool) (he_:e_ = .ret ∨ e_ = .normal)
    (h1:(Qf Try.prog S_ Try.f137.results.toList).1 ∧ dat (resD (Qf Try.prog S_ Try.f137.results.toList).2.1) = Wh x) (hg:Wg a b xs x) :
    retR Try.prog Try.f137 (fun c=>((zabf a b xs c).2,fun _=>none)) e_ S_ :=
  Zc (good:=zacl a b xs) (enc:=fun x:(List Int × Bool) × D=>x.2) (x,resD (Qf Try.prog S_ Try.f137.results.toList).2.1) he_ ⟨h1.1,rfl⟩ ⟨hg,h1.2⟩
set_option maxHeartbeats 1000000 in
theorem zakq (a:List Ints2) (b:List (List Int)) (xs:List Tree)  : SpecR Try.prog 137 [.st [li cP a,li cL b],li cX xs] (fun _=>none) (fun c=>((zabf a b xs c).2,fun _=>none)):=by
  refine SpecR.of_walk Try.func137 rfl (by simp [Try.f137]) fun B=>?_
  (repeat' (first
 | refine Qs ?_
 | refine Qc (id:=0) Uv [] (by kernel_rfl) ?_;simp [-zg,-zd,↓Qb,↓Qa,go_sem];try (refine Xe 2 ?_;simp [go_sem])
 | refine Qc (id:=1) Uv [] (by kernel_rfl) ?_;simp [-zg,-zd,↓Qb,↓Qa,go_sem];try (intro c1;have h1:=LabelBlocks_ok a b xs c1;generalize zabe a b xs c1 = z at *;obtain ⟨ll,ok⟩:=z;simp only [zaac] at h1;rcases ok with _ | _;rotate_left 1;(obtain ⟨hG,K0,hK0,hK1⟩:=h1 rfl);all_goals (refine Xe 6 ?_;simp [go_sem]))
 | refine Qc (id:=2) Uv [] (by kernel_rfl) ?_;simp [-zg,-zd,↓Qb,↓Qa,go_sem]
 | refine Qc (id:=3) Uv [] (by kernel_rfl) ?_;simp [-zg,-zd,↓Qb,↓Qa,go_sem]
 | ((have hrk:RefOk b (numK K).length:=(by rw [zaiw,hk];exact hG.ref));(have hnk:(numK K).length ≤ 1048576:=(by rw [zaiw,hk];have:=hG.2.1;omega)));refine Qc (id:=4) Uv [] (by kernel_rfl) ?_;simp [-zg,-zd,↓Qb,↓Qa,go_sem,hrk,hnk];try (refine Xe 8 ?_;simp [go_sem])
 | refine Qc (id:=5) Uv [] (by kernel_rfl) ?_;simp [-zg,-zd,↓Qb,↓Qa,go_sem]
 | refine Qc (id:=6) Uv [] (by kernel_rfl) ?_;simp [-zg,-zd,↓Qb,↓Qa,go_sem]
 | ((have hmm:=refE_more b K c23);(have hkf:=zamz b (numK K) K.length));refine Qc (id:=7) Uv [] (by kernel_rfl) ?_;simp [-zg,-zd,↓Qb,↓Qa,go_sem]
 | refine Qd (c:=.tmp 16) ?_;simp [-zg,-zd,↓Qb,↓Qa,go_sem];try first | (refine ⟨?_,?_⟩ <;> refine zA ?_) | (refine ⟨fun c16=>?_,fun c16=>?_⟩ <;> (try simp [B_iff,B_not] at c16))
 | refine Qd (c:=.tmp 23) ?_;simp [-zg,-zd,↓Qb,↓Qa,go_sem];try first | (refine ⟨?_,?_⟩ <;> refine zA ?_) | (refine ⟨fun c23=>?_,fun c23=>?_⟩ <;> (try simp [B_iff,B_not] at c23))
 | (refine Qe (id:=0) (Qy (ι:=List (List Int)) (fun K:List (List Int)=>⟨(upd (upd (fun _=>.any) 2 (.pd [li cP a,li cL b])) 6 (li cI (numK K))),fun _=>none⟩) (fun K=>K.length = a.length) (fun K=>K.length - blkN K) (K0) ?_ ?_ ?_);exact hK1;((repeat' (first | exact Qh (by assumption) | exact Qj | refine Qk ?_ ?_ | refine Qi ?_)) <;> simp [-zg,-zd,↓Qb,↓Qa,go_sem,hK0]);rintro K hk)
 | (refine ⟨keyF b (numK K) K.length,(hkf.trans hk),by first | omega | (simp;done) | (simp;omega),?_⟩;((repeat' (first | exact Qh (by assumption) | exact Qj | refine Qk ?_ ?_ | refine Qi ?_)) <;> simp [-zg,-zd,↓Qb,↓Qa,go_sem,refE_num]))
 | (refine Qe ?_)
 | (refine Qr ?_;simp [-zg,-zd,↓Qb,↓Qa,go_sem])
 | (refine Qq ?_;simp [-zg,-zd,↓Qb,↓Qa,go_sem])
 | (refine Qp ?_;try simp [-zg,-zd,↓Qb,↓Qa,go_sem,Try.results137])
 | (intro hx;refine zA ?_)
 | (intro hx;change retR _ _ _ _ _)
 | (refine ⟨?_,?_⟩ <;> refine zA ?_)
 | (intro hx;constructor <;> intro hs)
 | (constructor <;> intro hs)
 | (refine ⟨?_,fun hs=>?_⟩;refine zA ?_)
 | (refine ⟨fun hs=>?_,?_⟩;rotate_left;refine zA ?_;rotate_left)))
  all_goals (first
 | (refine zafu _ _ _ (([],false)) ?_ ?_ ?_;(first | exact Or.inl rfl | exact Or.inr rfl);(focus (simp [-zg,-zd,↓Qb,↓Qa,go_sem,Try.results137];done));(focus ((simp [Wg]);done)))
 | (refine zafu _ _ _ ((numK K,true)) ?_ ?_ ?_;(first | exact Or.inl rfl | exact Or.inr rfl);(focus (simp [-zg,-zd,↓Qb,↓Qa,go_sem,Try.results137];done));(focus ((simp only [Wg,zaiw];have:=hG.2.1;omega);done)))
 | skip)
@[go_sem] def zafw:Con:=.rel fun args H=>match args with
  | [.st [.list n_a c_a,.list n_b c_b],.list n_xs c_xs]=>((Is cP n_a c_a) ∧ (Is cL n_b c_b) ∧ (Is cX n_xs c_xs),fun c=>(Wh (zadl (de cP c_a) (de cL c_b) (de cX c_xs) c),H))
  | _=>(False,fun _=>(.any,H))
theorem zanu:ConOk Try.prog 137 zafw:=by
  refine ⟨Qn Try.func137 (by decide) rfl,fun args H h=>?_⟩
  revert h
  dsimp only
  split
  · intro h
    obtain ⟨⟨a,rfl,rfl⟩,⟨b,rfl,rfl⟩,⟨xs,rfl,rfl⟩⟩:=h
    try simp only [Qo] at *
    exact SpecR.enc ((SpecR.frame0 (zakq a b xs ) (H:=H)).shut) fun c=>Prod.ext (zafv _ _ _  c).2.symm rfl
  · intro h
    exact h.elim
@[go_sem] def Γm7:FuncId → Con:=ext Γm6 137 zafw
theorem Vt:∀ g,ConOk Try.prog g (Γm7 g):=Qm Uv zanu

end
end Go.Proofs.Ytmiimodggpjkmaa.Vm

