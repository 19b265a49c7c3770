import Derived.Test.YtiilmjojffjhlaaGreatDoorRow
import Derived.Test.YtiilmjojffjhlaaGreatDoorVm15
import Derived.Test.YtiilmjojffjhlaaGreatDoorE18
/-
  Numbers in the order of first occurrence, sorted insertion, what follows: plain. No conditions.
-/
namespace Go.Proofs.YtiilmjojffjhlaaGreatDoor.Vm
open Go
open Nat renaming sub_pos_of_lt → zsP
open List renaming getD_eq_getElem?_getD → zg,drop_one → zd,replicate → zrP
open Ne renaming symm → zS
noncomputable section
set_option linter.unusedVariables false
set_option linter.unusedSimpArgs false
set_option maxRecDepth 200000


@[go_sem] theorem makeD_1R (x:D):makeD [x] 1 = [x]:=by rw [Zs];rfl
theorem Spec.frameF {P:Program} {f:FuncId} {args:List D} {r:D} (h:Spec P f args (fun _=>none) r (fun _=>none)) (H:Hp):Spec P f args H r H:=by
  have h1:SpecR P f args (fun _=>none) (fun _=>(r,fun _=>none)):=fun w J vs μ fp N hR=>(h w J vs μ fp N hR).mono fun e w' ⟨v,μ',fp',N',he,hr⟩=>⟨⟨Unit,()⟩,v,μ',fp',N',he,hr⟩
  have h2:=SpecR.frame0 (r:=fun _=>r) h1 (H:=H)
  exact fun w J vs μ fp N hR=>(h2 w J vs μ fp N hR).mono fun e w' ⟨c,v,μ',fp',N',he,hr⟩=>⟨v,μ',fp',N',he,hr⟩



@[go_sem] def Γm0:FuncId → Con:=Γe34
theorem Γm0_ok:∀ g,ConOk Tryz.prog g (Γm0 g):=Γe34_ok

@[go_sem] def Γm1:FuncId → Con:=Γm0
theorem Γm1_ok:∀ g,ConOk Tryz.prog g (Γm1 g):=Γm0_ok

def LabOk (xs:List Tree):Prop:=xs.length = 3 ∧ ∀ i,i < xs.length → ExprOk (nth xs i)
theorem lab_res {xs:List Tree} {i:Nat} (hu:AllTill (fun i=>ExprOk (nth xs i)) i) (h:xs.length ≤ i):decide ((xs.length:Int) = 3) = Vm.B (LabOk xs):=by
  by_cases h3:(xs.length:Int) = 3
  · rw [decide_eq_true h3,B_yes (show LabOk xs from ⟨by omega,fun j hj=>hu j (by omega)⟩)]
  · rw [decide_eq_false h3,B_no (fun h:LabOk xs=>h3 (by have:=h.1;omega))]

theorem zasl (xs:List Tree)  : Pure Tryz.prog 132 [li cX xs] (.bool (B (LabOk xs))):=by
  refine Pure.of_walk Tryz.func132 rfl (by simp [Tryz.f132]) (by simp [-zd,go_sem]) fun B hK=>?_
  (repeat' (first
 | refine Qt ?_
 | (refine Jb 0 rfl fun hm=>?_);refine Qc (id:=0) Γm1_ok [] (by kernel_rfl) ?_;simp [-zg,-zd,↓Qb,↓Qa,go_sem]
 | refine Qc (id:=4) Γm1_ok [] (by kernel_rfl) ?_;simp [-zg,-zd,↓Qb,↓Qa,go_sem,c7,Qk c7,zsP c7,Tree.eta]
 | refine Qc (id:=3) Γm1_ok [] (by kernel_rfl) ?_;simp [-zg,-zd,↓Qb,↓Qa,go_sem,wrapS (k:=i) (by omega)]
 | refine Qj (c:=.tmp 7) ?_;simp [-zg,-zd,↓Qb,↓Qa,go_sem];try first | (refine ⟨?_,?_⟩ <;> refine zA ?_) | (refine ⟨fun c7=>?_,fun c7=>?_⟩ <;> (try simp [B_iff,B_not] at c7))
 | refine Qj (c:=.tmp 15) ?_;simp [-zg,-zd,↓Qb,↓Qa,go_sem];try first | (refine ⟨?_,?_⟩ <;> refine zA ?_) | (refine ⟨fun c15=>?_,fun c15=>?_⟩ <;> (try simp [B_iff,B_not] at c15))
 | (refine Qe (id:=0) (Qw (ι:=Nat) (fun i:Nat=>⟨(upd (upd (fun _=>.any) 0 (li cX xs)) 3 (.int .i64 i)),fun _=>none⟩) (fun i=>i ≤ xs.length ∧ AllTill (fun i=>ExprOk (nth xs i)) i) (fun i=>xs.length - i) (0) ?_ ?_ ?_);exact ⟨Nat.zero_le _,.zero _⟩;((repeat' (first | exact Qg (by assumption) | exact Qi | refine Qf ?_ ?_ | refine Qh ?_)) <;> simp [-zg,-zd,↓Qb,↓Qa,go_sem]);rintro i ⟨hi,hu⟩)
 | (refine ⟨i + 1,⟨by omega,hu.succ c15⟩,by first | omega | (simp;done) | (simp;omega),?_⟩;((repeat' (first | exact Qg (by assumption) | exact Qi | refine Qf ?_ ?_ | refine Qh ?_)) <;> simp [-zg,-zd,↓Qb,↓Qa,go_sem]))
 | (refine Qe ?_)
 | (refine Qs ?_;simp [-zg,-zd,↓Qb,↓Qa,go_sem])
 | (refine Qr ?_;simp [-zg,-zd,↓Qb,↓Qa,go_sem])
 | (refine Qq ?_;simp [-zg,-zd,↓Qb,↓Qa,go_sem,Tryz.results132])
 | (intro hx;refine zA ?_)
 | (refine ⟨?_,?_⟩ <;> refine zA ?_)
 | (intro hx;constructor <;> intro hs)
 | (constructor <;> intro hs)
 | (refine ⟨?_,fun hs=>?_⟩;refine zA ?_)
 | (refine ⟨fun hs=>?_,?_⟩;rotate_left;refine zA ?_;rotate_left)
 | (refine Qc Γm1_ok [] (by kernel_rfl) ?_;simp [-zg,-zd,↓Qb,↓Qa,go_sem])
 | fail))
  all_goals (first
 | (intro h;exact c15 (h.2 i c7))
 | exact lab_res hu c7
 | skip)
@[go_sem] def zaei:Con:=.pure fun
  | [.list n_xs c_xs]=>((Is cX n_xs c_xs),.bool (B (LabOk (de cX c_xs))))
  | _=>(False,.any)
theorem zakq:ConOk Tryz.prog 132 zaei:=by
  refine ⟨Qo Tryz.func132 (by decide) rfl,fun args h=>?_⟩
  revert h
  dsimp only
  split
  · intro h
    obtain ⟨xs,rfl,rfl⟩:=h
    try simp only [Qm] at *
    exact ⟨zasl xs,by simp [go_sem]⟩
  · intro h
    exact h.elim
@[go_sem] def Γm2:FuncId → Con:=ext Γm1 132 zaei
theorem Γm2_ok:∀ g,ConOk Tryz.prog g (Γm2 g):=Qn Γm1_ok zakq

@[go_sem] def zado:Int → D:=fun x=>.int .i64 x
def zanu (a1:List Int) (a2:List Int) (xs:List Tree):Int → Prop:=fun _=>True
def zaha (a1:List Int) (a2:List Int) (xs:List Tree) (c:Any):Int:=sel (zanu a1 a2 xs) (0) c
theorem l8Letter_ret (a1:List Int) (a2:List Int) (xs:List Tree) {e_:Exit} {S_:St} (x:Int) (he_:e_ = .ret ∨ e_ = .normal)
    (h1:(Qd Tryz.prog S_ Tryz.f177.results.toList).1 ∧ resD (Qd Tryz.prog S_ Tryz.f177.results.toList).2.1 = zado x) (hg:zanu a1 a2 xs x) :
    retR Tryz.prog Tryz.f177 (fun c=>(zado (zaha a1 a2 xs c),fun _=>none)) e_ S_:=Xi (enc:=zado) x he_ h1 hg
theorem l8Letter_pure (a1:List Int) (a2:List Int) (xs:List Tree) (hL:LabOk xs) (hv:ValsOk a2):PureR Tryz.prog 177 [.st [li cI a1,li cI a2],li cX xs] (fun c=>zado (zaha a1 a2 xs c)):=by
  refine PureR.of_walk Tryz.func177 rfl (by simp [Tryz.f177]) (fun c=>by simp [-zd,go_sem]) fun B hK=>?_
  (repeat' (first
 | refine Qt ?_
 | refine Qc (id:=0) Γm2_ok [] (by kernel_rfl) ?_;simp [-zg,-zd,↓Qb,↓Qa,go_sem];try (refine Qy 2 ?_;simp [go_sem])
 | refine Xn (id:=5) Γm2_ok mixed [] [] (by kernel_rfl) (by kernel_rfl) ?_ ?_ <;> simp [-zg,-zd,↓Qb,↓Qa,go_sem,c10,Qk c10,zsP c10,hv,(hL.2 q.1 c10).well,Tree.eta];try (intro c5;have h5:=zalo (nth xs q.1).k (nth xs q.1).v (nth xs q.1).ks a2 c5;generalize Jf (nth xs q.1).k (nth xs q.1).v (nth xs q.1).ks a2 c5 = z at *)
 | (first | (have d20:¬ _ = (0:Int):=c20;obtain ⟨v2,hv2⟩:∃ v2,v2 = bitsD BinOp.or IntKind.i64 q.2 (IntKind.i64.wrap (2 ^ min (IntKind.u64.wrap (q.1:Int)).toNat 64)):=⟨_,rfl⟩) | (obtain ⟨v2,hv2⟩:∃ v2,v2 = q.2:=⟨_,rfl⟩));refine Qc (id:=4) Γm2_ok [] (by kernel_rfl) ?_;simp [-zg,-zd,↓Qb,↓Qa,go_sem,wrapS (k:=q.1) (by have:=hL.1;omega)]
 | refine Qj (c:=.tmp 10) ?_;simp [-zg,-zd,↓Qb,↓Qa,go_sem];try first | (refine ⟨?_,?_⟩ <;> refine zA ?_) | (refine ⟨fun c10=>?_,fun c10=>?_⟩ <;> (try simp [B_iff,B_not] at c10))
 | refine Qj (c:=.tmp 20) ?_;simp [-zg,-zd,↓Qb,↓Qa,go_sem];try first | (refine ⟨?_,?_⟩ <;> refine zA ?_) | (refine ⟨fun c20=>?_,fun c20=>?_⟩ <;> (try simp [B_iff,B_not] at c20))
 | (refine Qe (id:=0) (Qw (ι:=Nat × Int) (fun q:Nat × Int=>⟨(upd (upd (upd (upd (fun _=>.any) 1 (li cX xs)) 2 (.pd [li cI a1,li cI a2])) 5 (.int .i64 q.2)) 6 (.int .i64 q.1)),fun _=>none⟩) (fun q=>q.1 ≤ xs.length) (fun q=>xs.length - q.1) ((0,0)) ?_ ?_ ?_);exact Nat.zero_le _;((repeat' (first | exact Qg (by assumption) | exact Qi | refine Qf ?_ ?_ | refine Qh ?_)) <;> simp [-zg,-zd,↓Qb,↓Qa,go_sem]);rintro q hi)
 | (refine ⟨(q.1 + 1,v2),by dsimp only;omega,by first | omega | (simp;done) | (simp;omega),?_⟩;((repeat' (first | exact Qg (by assumption) | exact Qi | refine Qf ?_ ?_ | refine Qh ?_)) <;> simp [-zg,-zd,↓Qb,↓Qa,go_sem,hv2]))
 | (refine Qe ?_)
 | (refine Qs ?_;simp [-zg,-zd,↓Qb,↓Qa,go_sem])
 | (refine Qr ?_;simp [-zg,-zd,↓Qb,↓Qa,go_sem])
 | (refine Qq ?_;try simp [-zg,-zd,↓Qb,↓Qa,go_sem,Tryz.results177])
 | (intro hx;refine zA ?_)
 | (intro hx;change retR _ _ _ _ _)
 | (refine ⟨?_,?_⟩ <;> refine zA ?_)
 | (intro hx;constructor <;> intro hs)
 | (constructor <;> intro hs)
 | (refine ⟨?_,fun hs=>?_⟩;refine zA ?_)
 | (refine ⟨fun hs=>?_,?_⟩;rotate_left;refine zA ?_;rotate_left)
 | (refine Qc Γm2_ok [] (by kernel_rfl) ?_;simp [-zg,-zd,↓Qb,↓Qa,go_sem])
 | fail))
  all_goals (first
 | (refine l8Letter_ret _ _ _ (q.2) ?_ ?_ ?_;(first | exact Or.inl rfl | exact Or.inr rfl);(focus (simp [-zg,-zd,↓Qb,↓Qa,go_sem,Tryz.results177];done));(focus ((trivial);done)))
 | skip)
@[go_sem] def l8LetterC:Con:=.prel fun
  | [.st [.list n_a1 c_a1,.list n_a2 c_a2],.list n_xs c_xs]=>((Is cI n_a1 c_a1) ∧ (Is cI n_a2 c_a2) ∧ (Is cX n_xs c_xs) ∧ (LabOk (de cX c_xs)) ∧ (ValsOk (de cI c_a2)),fun c=>zado (zaha (de cI c_a1) (de cI c_a2) (de cX c_xs) c))
  | _=>(False,fun _=>.any)
theorem l8LetterC_ok:ConOk Tryz.prog 177 l8LetterC:=by
  refine ⟨Qo Tryz.func177 (by decide) rfl,fun args h=>?_⟩
  revert h
  dsimp only
  split
  · intro h
    obtain ⟨⟨a1,rfl,rfl⟩,⟨a2,rfl,rfl⟩,⟨xs,rfl,rfl⟩,hL,hv⟩:=h
    try simp only [Qm] at *
    exact ⟨l8Letter_pure a1 a2 xs hL hv,fun c=>by simp [go_sem]⟩
  · intro h
    exact h.elim
@[go_sem] def Γm3:FuncId → Con:=ext Γm2 177 l8LetterC
theorem Γm3_ok:∀ g,ConOk Tryz.prog g (Γm3 g):=Qn Γm2_ok l8LetterC_ok

@[go_sem] def zacm:List Int → D:=fun x=>fr 1 cI x
def zabu (a:List Ints2) (b:List (List Int)) (xs:List Tree):List Int → Prop:=fun x=>x.length = a.length
def zadz (a:List Ints2) (b:List (List Int)) (xs:List Tree) (c:Any):List Int:=sel (zabu a b xs) (zrP a.length 0) c
theorem l8Letters_ok (a:List Ints2) (b:List (List Int)) (xs:List Tree) (hL:LabOk xs) (hG:GraphOk a b) (c:Any):zabu a b xs (zadz a b xs c):=Xl (p:=zabu a b xs) (x0:=zrP a.length 0) (by simp [zabu]) c
theorem l8Letters_ret (a:List Ints2) (b:List (List Int)) (xs:List Tree) {e_:Exit} {S_:St} (x:List Int) (he_:e_ = .ret ∨ e_ = .normal)
    (h1:(Qd Tryz.prog S_ Tryz.f133.results.toList).1 ∧ resD (Qd Tryz.prog S_ Tryz.f133.results.toList).2.1 = zacm x) (hg:zabu a b xs x) :
    retR Tryz.prog Tryz.f133 (fun c=>(zacm (zadz a b xs c),fun _=>none)) e_ S_:=Xi (enc:=zacm) x he_ h1 hg
theorem l8Letters_pure (a:List Ints2) (b:List (List Int)) (xs:List Tree) (hL:LabOk xs) (hG:GraphOk a b):PureR Tryz.prog 133 [.st [li cP a,li cL b],li cX xs] (fun c=>zacm (zadz a b xs c)):=by
  refine PureR.of_walk Tryz.func133 rfl (by simp [Tryz.f133]) (fun c=>by simp [-zd,go_sem]) fun B hK=>?_
  (repeat' (first
 | refine Qt ?_
 | refine Qc (id:=0) Γm3_ok [] (by kernel_rfl) ?_;simp [-zg,-zd,↓Qb,↓Qa,go_sem];try (refine Qy 2 ?_;simp [go_sem])
 | ((have hvv:=hG.2.2.2.1 q.2 c12);(have ha60:=hG.2.1));refine Qc (id:=5) Γm3_ok [] (by kernel_rfl) ?_;simp [-zg,-zd,↓Qb,↓Qa,go_sem,c12,Qk c12,zsP c12,hL,hvv,(show q.1.length ≤ 9223372036854775806 by omega),(show 2 * (q.1.length + 1) * 8 ≤ 281474976710656 by omega),(show q.1.length + 1 ≤ 9223372036854775807 by omega),Vd];try (intro c5;generalize zaha (nth a q.2).1 (nth a q.2).2 xs c5 = z at *)
 | refine Qc (id:=4) Γm3_ok [] (by kernel_rfl) ?_;simp [-zg,-zd,↓Qb,↓Qa,go_sem,wrapS (k:=q.2) (by have:=hG.2.1;omega)]
 | refine Qj (c:=.tmp 12) ?_;simp [-zg,-zd,↓Qb,↓Qa,go_sem];try first | (refine ⟨?_,?_⟩ <;> refine zA ?_) | (refine ⟨fun c12=>?_,fun c12=>?_⟩ <;> (try simp [B_iff,B_not] at c12))
 | (refine Qe (id:=0) (Qw (ι:=List Int × Nat) (fun q:List Int × Nat=>⟨(upd (upd (upd (upd (fun _=>.any) 1 (li cX xs)) 2 (.pd [li cP a,li cL b])) 5 (.fr 1 q.1.length (cat cI q.1))) 6 (.int .i64 q.2)),fun _=>none⟩) (fun q=>q.2 ≤ a.length ∧ q.1.length = q.2) (fun q=>a.length - q.2) (([],0)) ?_ ?_ ?_);exact ⟨Nat.zero_le _,rfl⟩;((repeat' (first | exact Qg (by assumption) | exact Qi | refine Qf ?_ ?_ | refine Qh ?_)) <;> simp [-zg,-zd,↓Qb,↓Qa,go_sem,Xb]);rintro q ⟨g1,g2⟩)
 | (refine ⟨(q.1 ++ [z],q.2 + 1),⟨by dsimp only;omega,by simp;omega⟩,by first | omega | (simp;done) | (simp;omega),?_⟩;((repeat' (first | exact Qg (by assumption) | exact Qi | refine Qf ?_ ?_ | refine Qh ?_)) <;> simp [-zg,-zd,↓Qb,↓Qa,go_sem,Xk,Xg]))
 | (refine Qe ?_)
 | (refine Qs ?_;simp [-zg,-zd,↓Qb,↓Qa,go_sem])
 | (refine Qr ?_;simp [-zg,-zd,↓Qb,↓Qa,go_sem])
 | (refine Qq ?_;try simp [-zg,-zd,↓Qb,↓Qa,go_sem,Tryz.results133])
 | (intro hx;refine zA ?_)
 | (intro hx;change retR _ _ _ _ _)
 | (refine ⟨?_,?_⟩ <;> refine zA ?_)
 | (intro hx;constructor <;> intro hs)
 | (constructor <;> intro hs)
 | (refine ⟨?_,fun hs=>?_⟩;refine zA ?_)
 | (refine ⟨fun hs=>?_,?_⟩;rotate_left;refine zA ?_;rotate_left)
 | (refine Qc Γm3_ok [] (by kernel_rfl) ?_;simp [-zg,-zd,↓Qb,↓Qa,go_sem])
 | fail))
  all_goals (first
 | (refine l8Letters_ret _ _ _ (q.1) ?_ ?_ ?_;(first | exact Or.inl rfl | exact Or.inr rfl);(focus (simp [-zg,-zd,↓Qb,↓Qa,go_sem,Tryz.results133];done));(focus ((simp only [zabu];omega);done)))
 | skip)
@[go_sem] def zaqh:Con:=.prel fun
  | [.st [.list n_a c_a,.list n_b c_b],.list n_xs c_xs]=>((Is cP n_a c_a) ∧ (Is cL n_b c_b) ∧ (Is cX n_xs c_xs) ∧ (LabOk (de cX c_xs)) ∧ (GraphOk (de cP c_a) (de cL c_b)),fun c=>zacm (zadz (de cP c_a) (de cL c_b) (de cX c_xs) c))
  | _=>(False,fun _=>.any)
theorem l8LettersC_ok:ConOk Tryz.prog 133 zaqh:=by
  refine ⟨Qo Tryz.func133 (by decide) rfl,fun args h=>?_⟩
  revert h
  dsimp only
  split
  · intro h
    obtain ⟨⟨a,rfl,rfl⟩,⟨b,rfl,rfl⟩,⟨xs,rfl,rfl⟩,hL,hG⟩:=h
    try simp only [Qm] at *
    exact ⟨l8Letters_pure a b xs hL hG,fun c=>by simp [go_sem]⟩
  · intro h
    exact h.elim
@[go_sem] def Γm4:FuncId → Con:=ext Γm3 133 zaqh
theorem Γm4_ok:∀ g,ConOk Tryz.prog g (Γm4 g):=Qn Γm3_ok l8LettersC_ok

@[go_sem] def zabw:List Int × Bool → D:=fun x=>.tup [fr 1 cI x.1,.bool x.2]
def zaaw (a:List Ints2) (b:List (List Int)) (xs:List Tree):List Int × Bool → Prop:=fun x=>x.2 = true → GraphOk a b ∧ x.1.length = a.length
def zada (a:List Ints2) (b:List (List Int)) (xs:List Tree) (c:Any):List Int × Bool:=sel (zaaw a b xs) (([],false)) c
theorem LabelGraph_ok (a:List Ints2) (b:List (List Int)) (xs:List Tree)  (c:Any):zaaw a b xs (zada a b xs c):=Xl (p:=zaaw a b xs) (x0:=([],false)) (by simp [zaaw]) c
theorem zalu (a:List Ints2) (b:List (List Int)) (xs:List Tree) {e_:Exit} {S_:St} (x:List Int × Bool) (he_:e_ = .ret ∨ e_ = .normal)
    (h1:(Qd Tryz.prog S_ Tryz.f98.results.toList).1 ∧ resD (Qd Tryz.prog S_ Tryz.f98.results.toList).2.1 = zabw x) (hg:zaaw a b xs x) :
    retR Tryz.prog Tryz.f98 (fun c=>(zabw (zada a b xs c),fun _=>none)) e_ S_:=Xi (enc:=zabw) x he_ h1 hg
theorem zatp (a:List Ints2) (b:List (List Int)) (xs:List Tree)  : PureR Tryz.prog 98 [.st [li cP a,li cL b],li cX xs] (fun c=>zabw (zada a b xs c)):=by
  refine PureR.of_walk Tryz.func98 rfl (by simp [Tryz.f98]) (fun c=>by simp [-zd,go_sem]) fun B hK=>?_
  (repeat' (first
 | refine Qt ?_
 | refine Qc (id:=0) Γm4_ok [] (by kernel_rfl) ?_;simp [-zg,-zd,↓Qb,↓Qa,go_sem];try (refine Qy 2 ?_;simp [go_sem])
 | refine Qc (id:=1) Γm4_ok [9] (by kernel_rfl) ?_;simp [-zg,-zd,↓Qb,↓Qa,go_sem];try (refine ⟨fun s1a=>?_,fun s1a=>?_⟩ <;> (try simp [B_iff,B_not] at s1a) <;> try (refine ⟨fun s1b=>?_,fun s1b=>?_⟩ <;> (try simp [B_iff,B_not] at s1b)))
 | ((have hG:GraphOk a b:=by simp_all);(have hL:LabOk xs:=by simp_all));refine Qc (id:=3) Γm4_ok [] (by kernel_rfl) ?_;simp [-zg,-zd,↓Qb,↓Qa,go_sem,hG,hL];try (intro c3;have h3:=l8Letters_ok a b xs hL hG c3;generalize zadz a b xs c3 = z at *)
 | (refine Qe ?_)
 | (refine Qs ?_;simp [-zg,-zd,↓Qb,↓Qa,go_sem])
 | (refine Qr ?_;simp [-zg,-zd,↓Qb,↓Qa,go_sem])
 | (refine Qq ?_;try simp [-zg,-zd,↓Qb,↓Qa,go_sem,Tryz.results98])
 | (intro hx;refine zA ?_)
 | (intro hx;change retR _ _ _ _ _)
 | (refine ⟨?_,?_⟩ <;> refine zA ?_)
 | (intro hx;constructor <;> intro hs)
 | (constructor <;> intro hs)
 | (refine ⟨?_,fun hs=>?_⟩;refine zA ?_)
 | (refine ⟨fun hs=>?_,?_⟩;rotate_left;refine zA ?_;rotate_left)
 | (refine Qj ?_;simp [-zg,-zd,↓Qb,↓Qa,go_sem];try first | (refine ⟨?_,?_⟩ <;> refine zA ?_) | (refine ⟨fun cz=>?_,fun cz=>?_⟩ <;> (try simp [B_iff,B_not] at cz)))
 | (refine Qc Γm4_ok [] (by kernel_rfl) ?_;simp [-zg,-zd,↓Qb,↓Qa,go_sem])
 | fail))
  all_goals (first
 | (refine zalu _ _ _ (([],false)) ?_ ?_ ?_;(first | exact Or.inl rfl | exact Or.inr rfl);(focus (simp [-zg,-zd,↓Qb,↓Qa,go_sem,Tryz.results98];done));(focus ((simp [zaaw]);done)))
 | (refine zalu _ _ _ ((z,true)) ?_ ?_ ?_;(first | exact Or.inl rfl | exact Or.inr rfl);(focus (simp [-zg,-zd,↓Qb,↓Qa,go_sem,Tryz.results98];done));(focus ((intro _;exact ⟨hG,h3⟩);done)))
 | skip)
@[go_sem] def zajk:Con:=.prel fun
  | [.st [.list n_a c_a,.list n_b c_b],.list n_xs c_xs]=>((Is cP n_a c_a) ∧ (Is cL n_b c_b) ∧ (Is cX n_xs c_xs),fun c=>zabw (zada (de cP c_a) (de cL c_b) (de cX c_xs) c))
  | _=>(False,fun _=>.any)
theorem zalv:ConOk Tryz.prog 98 zajk:=by
  refine ⟨Qo Tryz.func98 (by decide) rfl,fun args h=>?_⟩
  revert h
  dsimp only
  split
  · intro h
    obtain ⟨⟨a,rfl,rfl⟩,⟨b,rfl,rfl⟩,⟨xs,rfl,rfl⟩⟩:=h
    try simp only [Qm] at *
    exact ⟨zatp a b xs ,fun c=>by simp [go_sem]⟩
  · intro h
    exact h.elim
@[go_sem] def Γm5:FuncId → Con:=ext Γm4 98 zajk
theorem Γm5_ok:∀ g,ConOk Tryz.prog g (Γm5 g):=Qn Γm4_ok zalv

@[go_sem] def Γm6:FuncId → Con:=Γm5
theorem Γm6_ok:∀ g,ConOk Tryz.prog g (Γm6 g):=Γm5_ok

@[go_sem] def Γm7:FuncId → Con:=Γm6
theorem zatt:∀ g,ConOk Tryz.prog g (Γm7 g):=Γm6_ok


theorem Spec.shutF {P:Program} {f:FuncId} {args:List D} {r:D} (h:Spec P f args (fun _=>none) r (fun _=>none)) (H:Hp):Spec P f args H (dat r) H:=by
  have h1:SpecR P f args (fun _=>none) (fun _=>(r,fun _=>none)):=fun w J vs μ fp N hR=>(h w J vs μ fp N hR).mono fun e w' ⟨v,μ',fp',N',he,hr⟩=>⟨⟨Unit,()⟩,v,μ',fp',N',he,hr⟩
  have h2:=(SpecR.frame0 (r:=fun _=>r) h1 (H:=H)).shut
  exact fun w J vs μ fp N hR=>(h2 w J vs μ fp N hR).mono fun e w' ⟨c,v,μ',fp',N',he,hr⟩=>⟨v,μ',fp',N',he,hr⟩
theorem Spec.shutG {P:Program} {f:FuncId} {args:List D} {r r2:D} (h:Spec P f args (fun _=>none) r (fun _=>none)) (hd:dat r = r2) (H:Hp):Spec P f args H r2 H:=hd ▸ Spec.shutF h H

mutual
def subT:Tree → Tree
  | .mk k v ks=>if k = 2 ∧ v = -1 then .mk 0 0 [] else .mk k v (subL ks)
def subL:List Tree → List Tree
  | []=>[]
  | t :: ts=>subT t :: subL ts
end
theorem subL_eq:∀ ts,subL ts = ts.map subT
  | []=>rfl
  | t :: ts=>by rw [subL,subL_eq ts];rfl
theorem subT_yes {k v:Int} {ks:List Tree} (h1:k = 2) (h2:v = -1):subT (.mk k v ks) = .mk 0 0 []:=by rw [subT,if_pos ⟨h1,h2⟩]
theorem subT_no {k v:Int} {ks:List Tree} (h:k = 2 → ¬ v = -1):subT (.mk k v ks) = .mk k v (subL ks):=by rw [subT,if_neg fun q=>h q.1 q.2]
theorem subL_succ {ks:List Tree} {i:Nat} (h:i < ks.length):subL (ks.take (i + 1)) = subL (ks.take i) ++ [subT (nth ks i)]:=by
  rw [subL_eq,subL_eq,List.take_succ_eq_append_getElem h,List.map_append,Xc h];rfl
theorem subL_len (ks:List Tree):(subL ks).length = ks.length:=by rw [subL_eq,List.length_map]
theorem tms_app:∀ a b:List Tree,tms (a ++ b) = tms a + tms b
  | [],b=>by simp [tms]
  | t :: ts,b=>by rw [List.cons_append,tms,tms_app ts b,tms];omega
mutual
theorem tm_sub:∀ t,tm (subT t) ≤ tm t
  | .mk k v ks=>by
    rw [subT];split
    · simp [tm,tms]
    · rw [tm,tm];exact tms_sub ks
theorem tms_sub:∀ ts,tms (subL ts) ≤ tms ts
  | []=>by simp [subL]
  | t :: ts=>by rw [subL,tms,tms];have:=tm_sub t;have:=tms_sub ts;omega
end
theorem tms_len (ts:List Tree):ts.length ≤ tms ts:=by rw [tms_eq];omega
theorem tms_nth {ks:List Tree} {i:Nat} (h:i < ks.length):tm (nth ks i) < tms ks:=by
  rw [tms_eq];have:=msum_at (m:=tm) h;omega
theorem tms_kid {ks:List Tree} {i N:Nat} (h:i < ks.length) (hs:tms ks ≤ N):tms (nth ks i).ks ≤ N:=by
  have h1:=tms_nth h
  rw [tm_eq,← tms_eq] at h1
  omega
theorem sub_res {k v:Int} {ks:List Tree} {n:Nat} (h:k = 2 → ¬ v = -1) (hn:n = ks.length):k = (subT (.mk k v ks)).k ∧ v = (subT (.mk k v ks)).v ∧ n = (subT (.mk k v ks)).ks.length ∧ cat cX (subL (ks.take n)) = cat cX (subT (.mk k v ks)).ks:=by
  subst hn;rw [subT_no h,List.take_length];exact ⟨rfl,rfl,(subL_len ks).symm,rfl⟩
def mS (k:Int) (ks:List Tree):Nat:=2 * tms ks + if k = 2 then 1 else 0
theorem mS_kid {k:Int} {ks:List Tree} {i n:Nat} (h:i < ks.length) (hn:mS k ks < n + 1):mS (nth ks i).k (nth ks i).ks < n:=by
  have h1:=tms_nth h
  have h2:tm (nth ks i) = tms (nth ks i).ks:=by cases nth ks i;rw [tm];rfl
  unfold mS at *
  split at hn <;> split <;> omega
set_option maxHeartbeats 1000000 in
theorem l1Subst0_spec (x:D) (u:Int) (y:D) (hx:x = .st [.int .i64 0,.int .i64 0,.nil] ∨ x = .st [.int .i64 0,.int .i64 0,.list 0 []]) (hu:u = -1) (hy:y = .st [.int .i64 0,.int .i64 0,.nil] ∨ y = .st [.int .i64 0,.int .i64 0,.list 0 []]):Spec Tryz.prog 166 [x,.int .i64 u,y] (fun _=>none) (.st [.int .i64 0,.int .i64 0,.fr 3 0 []]) (fun _=>none):=by
  refine Spec.of_walk Tryz.func166 rfl (by simp [Tryz.f166]) fun B=>?_
  subst hu;rcases hx with rfl | rfl <;> rcases hy with rfl | rfl
  all_goals (repeat' (first
 | refine Qt ?_
 | refine Qc (id:=0) zatt [] (by kernel_rfl) ?_;simp [-zg,-zd,↓Qb,↓Qa,go_sem];try (refine Qy 3 ?_;refine Qy 5 ?_;simp [go_sem])
 | refine Qc (id:=1) zatt [12] (by kernel_rfl) ?_;simp [-zg,-zd,↓Qb,↓Qa,go_sem];try (refine ⟨fun s1a=>?_,fun s1a=>?_⟩ <;> (try simp [B_iff,B_not] at s1a) <;> try (refine ⟨fun s1b=>?_,fun s1b=>?_⟩ <;> (try simp [B_iff,B_not] at s1b)))
 | refine Qc (id:=3) zatt [] (by kernel_rfl) ?_;simp [-zg,-zd,↓Qb,↓Qa,go_sem];try ((refine zaiw 7 3 rfl ?_);(refine Xs 7 rfl fun qb hqb=>?_))
 | refine Xn (id:=7) zatt mixed [] [] (by kernel_rfl) (by kernel_rfl) ?_ ?_ <;> simp [-zg,-zd,↓Qb,↓Qa,go_sem]
 | (refine Qe (id:=0) (Qw (ι:=Nat) (fun i:Nat=>⟨(upd (upd (upd (upd (upd (upd (fun _=>.any) 1 (.int .i64 (-1))) 3 (.pd [.int .i64 0,.int .i64 0,.list 0 []])) 5 (.pd [.int .i64 0,.int .i64 0,.list 0 []])) 6 (.box [.int .i64 0,.int .i64 0,.nil])) 7 (.ptr qb 0)) 8 (.int .i64 0)),upd (fun _=>none) qb (some [.int .i64 0,.int .i64 0,.fr 3 0 []])⟩) (fun i=>i = 0) (fun i=>i) (0) ?_ ?_ ?_);exact rfl;((repeat' (first | exact Qg (by assumption) | exact Qi | refine Qf ?_ ?_ | refine Qh ?_)) <;> simp [-zg,-zd,↓Qb,↓Qa,go_sem]);rintro i hi)
 | (refine ⟨0,rfl,by first | omega | (simp;done) | (simp;omega),?_⟩;((repeat' (first | exact Qg (by assumption) | exact Qi | refine Qf ?_ ?_ | refine Qh ?_)) <;> simp [-zg,-zd,↓Qb,↓Qa,go_sem]))
 | (refine Qe ?_)
 | (refine Qs ?_;simp [-zg,-zd,↓Qb,↓Qa,go_sem])
 | (refine Qr ?_;simp [-zg,-zd,↓Qb,↓Qa,go_sem])
 | (refine Qq ?_;simp [-zg,-zd,↓Qb,↓Qa,go_sem,Tryz.results166])
 | (intro hx;refine zA ?_)
 | (refine ⟨?_,?_⟩ <;> refine zA ?_)
 | (intro hx;constructor <;> intro hs)
 | (constructor <;> intro hs)
 | (refine ⟨?_,fun hs=>?_⟩;refine zA ?_)
 | (refine ⟨fun hs=>?_,?_⟩;rotate_left;refine zA ?_;rotate_left)
 | (refine Qj ?_;simp [-zg,-zd,↓Qb,↓Qa,go_sem];try first | (refine ⟨?_,?_⟩ <;> refine zA ?_) | (refine ⟨fun cz=>?_,fun cz=>?_⟩ <;> (try simp [B_iff,B_not] at cz)))
 | (refine Qc zatt [] (by kernel_rfl) ?_;simp [-zg,-zd,↓Qb,↓Qa,go_sem])
 | fail))
@[go_sem] def zahe:Con:=.gen fun args H=>match args with
  | [x,.int .i64 u,y]=>((x = .st [.int .i64 0,.int .i64 0,.nil] ∨ x = .st [.int .i64 0,.int .i64 0,.list 0 []]) ∧ (u = -1) ∧ (y = .st [.int .i64 0,.int .i64 0,.nil] ∨ y = .st [.int .i64 0,.int .i64 0,.list 0 []]),.st [.int .i64 0,.int .i64 0,.fr 3 0 []],H)
  | _=>(False,.any,H)
theorem zaoc:ConOk Tryz.prog 166 zahe:=by
  refine ⟨Qo Tryz.func166 (by decide) rfl,fun args H h=>?_⟩
  revert h
  dsimp only
  split
  · intro h
    obtain ⟨hx,hu,hy⟩:=h
    try simp only [Qm] at *
    exact Spec.frameF (l1Subst0_spec _ _ _ hx hu hy) H
  · intro h
    exact h.elim
@[go_sem] def Γl2:FuncId → Con:=ext Γm7 166 zahe
theorem Γl2_ok:∀ g,ConOk Tryz.prog g (Γl2 g):=Qn zatt zaoc

@[go_sem] def zalm (n_:Nat):Con:=.gen fun args H=>match args with
  | [.st [.int .i64 k,.int .i64 v,.list n_ks c_ks],.int .i64 u,y]=>((Is cX n_ks c_ks) ∧ (u = -1) ∧ (y = .st [.int .i64 0,.int .i64 0,.nil] ∨ y = .st [.int .i64 0,.int .i64 0,.list 0 []]) ∧ (tms (de cX c_ks) ≤ 1000) ∧ (mS k (de cX c_ks) < n_),.st [.int .i64 (subT (.mk k v (de cX c_ks))).k,.int .i64 (subT (.mk k v (de cX c_ks))).v,li cX (subT (.mk k v (de cX c_ks))).ks],H)
  | _=>(False,.any,H)
theorem zaob {n_:Nat} (ih:∀ (k:Int) (v:Int) (ks:List Tree) (u:Int) (y:D) (hu:u = -1) (hy:y = .st [.int .i64 0,.int .i64 0,.nil] ∨ y = .st [.int .i64 0,.int .i64 0,.list 0 []]) (hs:tms ks ≤ 1000) (hm_:mS k ks < n_),Spec Tryz.prog 166 [.st [.int .i64 k,.int .i64 v,li cX ks],.int .i64 u,y] (fun _=>none) (.st [.int .i64 (subT (.mk k v ks)).k,.int .i64 (subT (.mk k v ks)).v,fr 3 cX (subT (.mk k v ks)).ks]) (fun _=>none)):ConOk Tryz.prog 166 (zalm n_):=by
  refine ⟨Qo Tryz.func166 (by decide) rfl,fun args H h=>?_⟩
  revert h
  dsimp only
  split
  · intro h
    obtain ⟨⟨ks,rfl,rfl⟩,hu,hy,hs,hm_⟩:=h
    try simp only [Qm] at *
    exact Spec.shutG (ih _ _ ks _ _ hu hy hs hm_) (by simp [go_sem]) H
  · intro h
    exact h.elim
set_option maxHeartbeats 2000000 in
theorem zarl:∀ (n_:Nat),∀ (k:Int) (v:Int) (ks:List Tree) (u:Int) (y:D) (hu:u = -1) (hy:y = .st [.int .i64 0,.int .i64 0,.nil] ∨ y = .st [.int .i64 0,.int .i64 0,.list 0 []]) (hs:tms ks ≤ 1000) (hm_:mS k ks < n_),Spec Tryz.prog 166 [.st [.int .i64 k,.int .i64 v,li cX ks],.int .i64 u,y] (fun _=>none) (.st [.int .i64 (subT (.mk k v ks)).k,.int .i64 (subT (.mk k v ks)).v,fr 3 cX (subT (.mk k v ks)).ks]) (fun _=>none):=by
  intro n_
  induction n_ with
  | zero=>intros;omega
  | succ n_ ih =>
  intro k v ks u y hu hy hs hm_
  have Γr_ok:=Qn Γl2_ok (zaob ih)
  refine Spec.of_walk Tryz.func166 rfl (by simp [Tryz.f166]) fun B=>?_
  subst hu;have hkl:=tms_len ks;rcases hy with rfl | rfl
  all_goals (repeat' (first
 | refine Qt ?_
 | refine Qc (id:=0) Γr_ok [] (by kernel_rfl) ?_;simp [-zg,-zd,↓Qb,↓Qa,go_sem];try (refine Qy 3 ?_;refine Qy 5 ?_;simp [go_sem])
 | refine Qc (id:=1) Γr_ok [12] (by kernel_rfl) ?_;simp [-zg,-zd,↓Qb,↓Qa,go_sem];try (refine ⟨fun s1a=>?_,fun s1a=>?_⟩ <;> (try simp [B_iff,B_not] at s1a) <;> try (refine ⟨fun s1b=>?_,fun s1b=>?_⟩ <;> (try simp [B_iff,B_not] at s1b)))
 | (have Γr_ok:=Γl2_ok);refine Qc (id:=2) Γr_ok [] (by kernel_rfl) ?_;simp [-zg,-zd,↓Qb,↓Qa,go_sem]
 | refine Qc (id:=3) Γr_ok [] (by kernel_rfl) ?_;simp [-zg,-zd,↓Qb,↓Qa,go_sem];try ((refine zaiw 7 3 rfl ?_);(refine Xs 7 rfl fun qb hqb=>?_);(clear hqb);(refine Qp (fun H1=>H1 qb = some [.int .i64 k,.int .i64 v,.fr 3 0 []]) (by simp [go_sem]) fun H1 w1=>?_))
 | ((refine Xw qb 2 (all:=[.int .i64 k,.int .i64 v,.fr 3 q.1 (cat cX (subL (ks.take q.1)))]) g2 rfl fun b cu ju hu hcu hdu=>?_);(have ub:¬ b = qb:=(by intro e;rw [e] at hu;dsimp only at hu;rw [g2] at hu;cases hu));(clear hu);(have hsl:(subL (ks.take q.1)).length = q.1:=(by rw [subL_len,List.length_take];omega)));refine Xr (id:=7) Γr_ok mixed [(qb,[.int .i64 k,.int .i64 v,.sl b 3 0 q.1 cu])] [] [] (by kernel_rfl) (by kernel_rfl) ?_ ?_ ?_ <;> simp [-zg,-zd,↓Qb,↓Qa,go_sem,c30,Qk c30,zsP c30,hsl,ub,zS ub,mS_kid c30 hm_,(show q.1 ≤ 9223372036854775806 by omega),(show 2 * (q.1 + 1) * 40 ≤ 281474976710656 by omega),hdu,tms_kid c30 hs,Tree.eta];try (refine Qp (fun H2=>H2 qb = some [.int .i64 k,.int .i64 v,.fr 3 (q.1 + 1) (cat cX (subL (ks.take (q.1 + 1))))]) (by simp [upd,ub,zS ub,subL_succ c30,Xk,Xg,cX_eq,li]) fun H2 y2=>?_)
 | refine Qc (id:=6) Γr_ok [] (by kernel_rfl) ?_;simp [-zg,-zd,↓Qb,↓Qa,go_sem,wrapS (k:=q.1) (by omega)]
 | ((have hq:q.1 = ks.length:=(by omega)));refine Qc (id:=8) Γr_ok [] (by kernel_rfl) ?_;simp [-zg,-zd,↓Qb,↓Qa,go_sem,g2]
 | refine Qj (c:=.tmp 17) ?_;simp [-zg,-zd,↓Qb,↓Qa,go_sem];try first | (refine ⟨?_,?_⟩ <;> refine zA ?_) | (refine ⟨fun c17=>?_,fun c17=>?_⟩ <;> (try simp [B_iff,B_not] at c17))
 | refine Qj (c:=.tmp 30) ?_;simp [-zg,-zd,↓Qb,↓Qa,go_sem];try first | (refine ⟨?_,?_⟩ <;> refine zA ?_) | (refine ⟨fun c30=>?_,fun c30=>?_⟩ <;> (try simp [B_iff,B_not] at c30))
 | (refine Qe (id:=0) (Qw (ι:=Nat × Hp) (fun q:Nat × Hp=>⟨(upd (upd (upd (upd (upd (upd (fun _=>.any) 1 (.int .i64 (-1))) 3 (.pd [.int .i64 k,.int .i64 v,li cX ks])) 5 (.pd [.int .i64 0,.int .i64 0,.list 0 []])) 6 (.box [.int .i64 0,.int .i64 0,.nil])) 7 (.ptr qb 0)) 8 (.int .i64 q.1)),q.2⟩) (fun q=>q.1 ≤ ks.length ∧ q.2 qb = some [.int .i64 k,.int .i64 v,.fr 3 q.1 (cat cX (subL (ks.take q.1)))]) (fun q=>ks.length - q.1) ((0,H1)) ?_ ?_ ?_);exact ⟨Nat.zero_le _,by simpa [subL,Xb] using w1⟩;((repeat' (first | exact Qg (by assumption) | exact Qi | refine Qf ?_ ?_ | refine Qh ?_)) <;> simp [-zg,-zd,↓Qb,↓Qa,go_sem]);rintro q ⟨g1,g2⟩)
 | (refine ⟨(q.1 + 1,H2),⟨by dsimp only;omega,y2⟩,by first | omega | (simp;done) | (simp;omega),?_⟩;((repeat' (first | exact Qg (by assumption) | exact Qi | refine Qf ?_ ?_ | refine Qh ?_)) <;> simp [-zg,-zd,↓Qb,↓Qa,go_sem,]))
 | (refine Qe ?_)
 | (refine Qs ?_;simp [-zg,-zd,↓Qb,↓Qa,go_sem])
 | (refine Qr ?_;simp [-zg,-zd,↓Qb,↓Qa,go_sem])
 | (refine Qq ?_;simp [-zg,-zd,↓Qb,↓Qa,go_sem,Tryz.results166])
 | (intro hx;refine zA ?_)
 | (refine ⟨?_,?_⟩ <;> refine zA ?_)
 | (intro hx;constructor <;> intro hs)
 | (constructor <;> intro hs)
 | (refine ⟨?_,fun hs=>?_⟩;refine zA ?_)
 | (refine ⟨fun hs=>?_,?_⟩;rotate_left;refine zA ?_;rotate_left)
 | (refine Qc Γr_ok [] (by kernel_rfl) ?_;simp [-zg,-zd,↓Qb,↓Qa,go_sem])
 | fail))
  all_goals (first
 | exact sub_res (fun _=>c17) hq
 | exact sub_res (fun e=>absurd e s1a) hq
 | (rw [subT_yes s1a c17];exact ⟨rfl,rfl,rfl,rfl⟩)
 | (rw [subT_yes s1a c17];simp [Xb];done)
 | skip)
theorem l1Subst_spec (k:Int) (v:Int) (ks:List Tree) (u:Int) (y:D) (hu:u = -1) (hy:y = .st [.int .i64 0,.int .i64 0,.nil] ∨ y = .st [.int .i64 0,.int .i64 0,.list 0 []]) (hs:tms ks ≤ 1000):Spec Tryz.prog 166 [.st [.int .i64 k,.int .i64 v,li cX ks],.int .i64 u,y] (fun _=>none) (.st [.int .i64 (subT (.mk k v ks)).k,.int .i64 (subT (.mk k v ks)).v,fr 3 cX (subT (.mk k v ks)).ks]) (fun _=>none):=zarl (mS k ks + 1) k v ks u y hu hy hs (by omega)
@[go_sem] def zail:Con:=.gen fun args H=>match args with
  | [.st [.int .i64 k,.int .i64 v,.list n_ks c_ks],.int .i64 u,y]=>((Is cX n_ks c_ks) ∧ (u = -1) ∧ (y = .st [.int .i64 0,.int .i64 0,.nil] ∨ y = .st [.int .i64 0,.int .i64 0,.list 0 []]) ∧ (tms (de cX c_ks) ≤ 1000),.st [.int .i64 (subT (.mk k v (de cX c_ks))).k,.int .i64 (subT (.mk k v (de cX c_ks))).v,fr 3 cX (subT (.mk k v (de cX c_ks))).ks],H)
  | _=>(False,.any,H)
theorem zarm:ConOk Tryz.prog 166 zail:=by
  refine ⟨Qo Tryz.func166 (by decide) rfl,fun args H h=>?_⟩
  revert h
  dsimp only
  split
  · intro h
    obtain ⟨⟨ks,rfl,rfl⟩,hu,hy,hs⟩:=h
    try simp only [Qm] at *
    exact Spec.frameF (l1Subst_spec _ _ ks _ _ hu hy hs) H
  · intro h
    exact h.elim
@[go_sem] def Γl3:FuncId → Con:=ext Γl2 166 zail
theorem Wg:∀ g,ConOk Tryz.prog g (Γl3 g):=Qn Γl2_ok zarm

theorem tms_sub2 {k v:Int} {ks:List Tree} {N:Nat} (h:tms ks ≤ N):tms (subT (.mk k v ks)).ks ≤ N:=by
  have:=tm_sub (.mk k v ks);rw [tm_eq,← tms_eq,tm] at this;omega
set_option maxHeartbeats 2000000 in

@[go_sem] def Un:Tree → D:=sX
theorem l1Mutate_flat (x:Tree):dat (Un x) = Un x:=by simp [go_sem]
def Jn (k:Int) (v:Int) (ks:List Tree):Tree → Prop:=fun x=>tm x ≤ tms ks + 1
def zanc (k:Int) (v:Int) (ks:List Tree) (x:(Tree) × D):Prop:=Jn k v ks x.1 ∧ dat x.2 = Un x.1
def zabq (k:Int) (v:Int) (ks:List Tree) (p:Int) (c:Any):((Tree) × D) × Int:=dsel (zanc k v ks) ((.mk 0 0 []:Tree),Un (.mk 0 0 [])) 2 p c
def Zk (k:Int) (v:Int) (ks:List Tree) (p:Int) (c:Any):(Tree) × Int:=((zabq k v ks p c).1.1,(zabq k v ks p c).2)
theorem zarp (k:Int) (v:Int) (ks:List Tree) (hs:tms ks ≤ 100) (p:Int) (c:Any):(Jn k v ks (Zk k v ks p c).1 ∧ p ≤ (Zk k v ks p c).2 ∧ (Zk k v ks p c).2 ≤ p + 2) ∧ dat (zabq k v ks p c).1.2 = Un (Zk k v ks p c).1:=by
  have hx:Jn k v ks (.mk 0 0 []):=by simp [Jn,tm,tms]
  have h:=Zy (good:=zanc k v ks) (x0:=((.mk 0 0 []:Tree),Un (.mk 0 0 []))) ⟨hx,l1Mutate_flat _⟩ (K:=2) (by omega) (p:=p) c
  exact ⟨⟨h.1.1,h.2.1,h.2.2⟩,h.1.2⟩
theorem zaun (k:Int) (v:Int) (ks:List Tree) (hs:tms ks ≤ 100) (p:Int) (c:Any):Jn k v ks (Zk k v ks p c).1 ∧ p ≤ (Zk k v ks p c).2 ∧ (Zk k v ks p c).2 ≤ p + 2:=(zarp k v ks hs p c).1
theorem zafh (k:Int) (v:Int) (ks:List Tree) (ys:List UInt8) (p:Int) (b:Nat) {e_:Exit} {S_:St} (x:Tree) (p':Int) (he_:e_ = .ret ∨ e_ = .normal)
    (h1:(Qd Tryz.prog S_ Tryz.f127.results.toList).1 ∧ dat (resD (Qd Tryz.prog S_ Tryz.f127.results.toList).2.1) = Un x ∧ (Qd Tryz.prog S_ Tryz.f127.results.toList).2.2.H b = some [li cY ys,.int .i64 p']) (hg:Jn k v ks x) (h2:p ≤ p' ∧ p' ≤ p + 2) :
    retR Tryz.prog Tryz.f127 (fun c=>((zabq k v ks p c).1.2,one b [li cY ys,.int .i64 (zabq k v ks p c).2])) e_ S_ :=
  Zw (good:=zanc k v ks) (enc:=fun x:(Tree) × D=>x.2) (cells:=fun q=>[li cY ys,.int .i64 q]) (x,resD (Qd Tryz.prog S_ Tryz.f127.results.toList).2.1) p' he_ ⟨h1.1,rfl,h1.2.2⟩ ⟨hg,h1.2.1⟩ h2
theorem l1Mutate_spec (ys:List UInt8) (p:Int) (b:Nat) (k:Int) (v:Int) (ks:List Tree) (hl:ys.length ≤ 2000) (h0_:0 ≤ p) (hp_:p + 2 ≤ 1000000) (hs:tms ks ≤ 100):SpecR Tryz.prog 127 [.ptr b 0,.st [.int .i64 k,.int .i64 v,li cX ks]] (one b [li cY ys,.int .i64 p]) (fun c=>((zabq k v ks p c).1.2,one b [li cY ys,.int .i64 (zabq k v ks p c).2])):=by
  refine SpecR.of_walk Tryz.func127 rfl (by simp [Tryz.f127]) fun B=>?_
  (repeat' (first
 | refine Qt ?_
 | refine Qc (id:=0) Wg [] (by kernel_rfl) ?_;simp [-zg,-zd,↓Qb,↓Qa,go_sem];try (refine Qy 3 ?_;simp [go_sem])
 | refine Qc (id:=1) Wg [] (by kernel_rfl) ?_;simp [-zg,-zd,↓Qb,↓Qa,go_sem,hs,(show tms ks ≤ 1000 by omega)];try ((generalize hzz:subT (.mk k v ks) = zz at *);(have hz:tms zz.ks ≤ tms ks:=(by rw [← hzz];exact tms_sub2 (Nat.le_refl _)));(have hzl:=tms_len zz.ks);(refine Xs 5 rfl fun qb hqb=>?_);(have hbq:¬ b = qb:=(by rintro rfl;simp [go_sem] at hqb));(clear hqb))
 | refine Qc (id:=2) Wg [] (by kernel_rfl) ?_;simp [-zg,-zd,↓Qb,↓Qa,go_sem,hl,(show 0 ≤ p by omega),(show p ≤ 1000000 by omega),(show 0 ≤ p + 1 by omega),(show p + 1 ≤ 1000000 by omega),hbq,zS hbq]
 | refine Qc (id:=4) Wg [] (by kernel_rfl) ?_;simp [-zg,-zd,↓Qb,↓Qa,go_sem,hl,(show 0 ≤ p by omega),(show p ≤ 1000000 by omega),(show 0 ≤ p + 1 by omega),(show p + 1 ≤ 1000000 by omega),(show 0 ≤ p + 1 + 1 by omega),(show p + 1 + 1 ≤ 1000000 by omega),hbq,zS hbq]
 | refine Qc (id:=6) Wg [] (by kernel_rfl) ?_;simp [-zg,-zd,↓Qb,↓Qa,go_sem,hl,(show 0 ≤ p by omega),(show p ≤ 1000000 by omega),(show 0 ≤ p + 1 by omega),(show p + 1 ≤ 1000000 by omega),(show 0 ≤ p + 1 + 1 by omega),(show p + 1 + 1 ≤ 1000000 by omega),hbq,zS hbq]
 | refine Qc (id:=8) Wg [] (by kernel_rfl) ?_;simp [-zg,-zd,↓Qb,↓Qa,go_sem,hbq,zS hbq,(show zz.ks.length ≤ 9223372036854775806 by omega),(show 2 * (zz.ks.length + 1) * 40 ≤ 281474976710656 by omega),(show zz.ks.length + 1 ≤ 9223372036854775807 by omega)]
 | refine Qc (id:=11) Wg [] (by kernel_rfl) ?_;simp [-zg,-zd,↓Qb,↓Qa,go_sem,hbq,zS hbq]
 | (refine Qe ?_)
 | (refine Qs ?_;simp [-zg,-zd,↓Qb,↓Qa,go_sem])
 | (refine Qr ?_;simp [-zg,-zd,↓Qb,↓Qa,go_sem])
 | (refine Qq ?_;try simp [-zg,-zd,↓Qb,↓Qa,go_sem,Tryz.results127])
 | (intro hx;refine zA ?_)
 | (intro hx;change retR _ _ _ _ _)
 | (refine ⟨?_,?_⟩ <;> refine zA ?_)
 | (intro hx;constructor <;> intro hs)
 | (constructor <;> intro hs)
 | (refine ⟨?_,fun hs=>?_⟩;refine zA ?_)
 | (refine ⟨fun hs=>?_,?_⟩;rotate_left;refine zA ?_;rotate_left)
 | (refine Qj ?_;simp [-zg,-zd,↓Qb,↓Qa,go_sem];try first | (refine ⟨?_,?_⟩ <;> refine zA ?_) | (refine ⟨fun cz=>?_,fun cz=>?_⟩ <;> (try simp [B_iff,B_not] at cz)))
 | (refine Qc Wg [] (by kernel_rfl) ?_;simp [-zg,-zd,↓Qb,↓Qa,go_sem])
 | fail))
  all_goals (first
 | (refine zafh _ _ _ _ _ _ (.mk 0 0 []) (p + 1) ?_ ?_ ?_ ?_;(first | exact Or.inl rfl | exact Or.inr rfl);(focus (simp [-zg,-zd,↓Qb,↓Qa,go_sem,Tryz.results127,hbq,zS hbq];done));(focus ((simp [Jn,tm,tms]);done));(focus (refine ⟨?_,?_⟩ <;> omega)))
 | (refine zafh _ _ _ _ _ _ (.mk (numI ys (p + 1) [0,10,-1,1,2,3,4]) zz.v zz.ks) (p + 1 + 1) ?_ ?_ ?_ ?_;(first | exact Or.inl rfl | exact Or.inr rfl);(focus (simp [-zg,-zd,↓Qb,↓Qa,go_sem,Tryz.results127,hbq,zS hbq,li,dat,Qz];done));(focus ((simp only [Jn,tm];omega);done));(focus (refine ⟨?_,?_⟩ <;> omega)))
 | (refine zafh _ _ _ _ _ _ (.mk zz.k (numI ys (p + 1) [-1,4,3,9223372036854775807]) zz.ks) (p + 1 + 1) ?_ ?_ ?_ ?_;(first | exact Or.inl rfl | exact Or.inr rfl);(focus (simp [-zg,-zd,↓Qb,↓Qa,go_sem,Tryz.results127,hbq,zS hbq,li,dat,Qz];done));(focus ((simp only [Jn,tm];omega);done));(focus (refine ⟨?_,?_⟩ <;> omega)))
 | (refine zafh _ _ _ _ _ _ (.mk zz.k zz.v (zz.ks ++ [.mk 1 0 []])) (p + 1) ?_ ?_ ?_ ?_;(first | exact Or.inl rfl | exact Or.inr rfl);(focus (simp [-zg,-zd,↓Qb,↓Qa,go_sem,Tryz.results127,hbq,zS hbq,li,dat,Qz,Xk,Xg,cX_mk];done));(focus ((simp only [Jn,tm,tms_app,tms];omega);done));(focus (refine ⟨?_,?_⟩ <;> omega)))
 | (refine zafh _ _ _ _ _ _ (.mk zz.k zz.v zz.ks) (p + 1) ?_ ?_ ?_ ?_;(first | exact Or.inl rfl | exact Or.inr rfl);(focus (simp [-zg,-zd,↓Qb,↓Qa,go_sem,Tryz.results127,hbq,zS hbq,li,dat,Qz];done));(focus ((simp only [Jn,tm];omega);done));(focus (refine ⟨?_,?_⟩ <;> omega)))
 | skip)
@[go_sem] def l1MutateC:Con:=.rel fun args H=>match args with
  | [.ptr b 0,.st [.int .i64 k,.int .i64 v,.list n_ks c_ks]]=>match H b with
    | some [.list m cs,.int .i64 p]=>((Is cY m cs) ∧ (m ≤ 2000) ∧ (0 ≤ p) ∧ (p + 2 ≤ 1000000) ∧ (Is cX n_ks c_ks) ∧ (tms (de cX c_ks) ≤ 100),fun c=>(Un (Zk k v (de cX c_ks) p c).1,upd H b (some [.list m cs,.int .i64 (Zk k v (de cX c_ks) p c).2])))
    | _=>(False,fun _=>(.any,H))
  | _=>(False,fun _=>(.any,H))
theorem l1MutateC_ok:ConOk Tryz.prog 127 l1MutateC:=by
  refine ⟨Qo Tryz.func127 (by decide) rfl,fun args H h=>?_⟩
  revert h
  dsimp only
  split
  · split
    · rename_i hH
      intro h
      obtain ⟨⟨ys,rfl,rfl⟩,hl,h0_,hp_,⟨ks,rfl,rfl⟩,hs⟩:=h
      try simp only [Qm] at *
      exact SpecR.enc ((l1Mutate_spec ys _ _ _ _ ks hl h0_ hp_ hs).frame hH).shut fun c=>Prod.ext (zarp _ _ _ hs _ _).2.symm rfl
    · intro h;exact h.elim
  · intro h
    exact h.elim
@[go_sem] def Γl4:FuncId → Con:=ext Γl3 127 l1MutateC
theorem Vw:∀ g,ConOk Tryz.prog g (Γl4 g):=Qn Wg l1MutateC_ok


@[go_sem] theorem ssR3 (x0 x1 x2 x3 x4 x5 y z u:D) (l:List D):stSeg (x0 :: x1 :: x2 :: x3 :: x4 :: x5 :: l) 3 [y,z,u] = x0 :: x1 :: x2 :: y :: z :: u :: l:=rfl
theorem three {xs:List Tree} (h:xs.length = 3):∃ t0 t1 t2,xs = [t0,t1,t2]:=by
  match xs,h with
  | [t0,t1,t2],_=>exact ⟨t0,t1,t2,rfl⟩
theorem cat3 (t0 t1 t2:Tree):cat cX [t0,t1,t2] = [.int .i64 t0.k,.int .i64 t0.v,li cX t0.ks,.int .i64 t1.k,.int .i64 t1.v,li cX t1.ks,.int .i64 t2.k,.int .i64 t2.v,li cX t2.ks]:=by
  rw [Xe,Xe,Xg,cX_eq,cX_eq,cX_eq];rfl
theorem snoc_tm {xs:List Tree} {t:Tree} (h:∀ t ∈ xs,tm t ≤ 4) (ht:tm t ≤ 4):∀ x ∈ xs ++ [t],tm x ≤ 4:=fun x hx=>by
  rcases List.mem_append.1 hx with h1 | h1
  · exact h x h1
  · simp at h1;subst h1;exact ht

@[go_sem] def zacf:List Tree → D:=fun x=>fr 3 cX x
def Ug  : List Tree → Prop:=fun x=>x.length ≤ 3
def zamn  (x:(List Tree) × D):Prop:=Ug x.1 ∧ x.2 = zacf x.1
def zabl  (p:Int) (c:Any):((List Tree) × D) × Int:=dsel (zamn) (([]:List Tree),zacf ([])) 23 p c
def Vi  (p:Int) (c:Any):(List Tree) × Int:=((zabl p c).1.1,(zabl p c).2)
theorem zaqj   (p:Int) (c:Any):(Ug (Vi p c).1 ∧ p ≤ (Vi p c).2 ∧ (Vi p c).2 ≤ p + 23) ∧ (zabl p c).1.2 = zacf (Vi p c).1:=by
  have hx:Ug ([]):=by simp [Ug]
  have h:=Zy (good:=zamn) (x0:=(([]:List Tree),zacf ([]))) ⟨hx,rfl⟩ (K:=23) (by omega) (p:=p) c
  exact ⟨⟨h.1.1,h.2.1,h.2.2⟩,h.1.2⟩
theorem l8Labels_ok   (p:Int) (c:Any):Ug (Vi p c).1 ∧ p ≤ (Vi p c).2 ∧ (Vi p c).2 ≤ p + 23:=(zaqj  p c).1
theorem zaqi  (ys:List UInt8) (p:Int) (b:Nat) {e_:Exit} {S_:St} (x:List Tree) (p':Int) (he_:e_ = .ret ∨ e_ = .normal)
    (h1:(Qd Tryz.prog S_ Tryz.f95.results.toList).1 ∧ (resD (Qd Tryz.prog S_ Tryz.f95.results.toList).2.1) = zacf x ∧ (Qd Tryz.prog S_ Tryz.f95.results.toList).2.2.H b = some [li cY ys,.int .i64 p']) (hg:Ug x) (h2:p ≤ p' ∧ p' ≤ p + 23) :
    retR Tryz.prog Tryz.f95 (fun c=>((zabl p c).1.2,one b [li cY ys,.int .i64 (zabl p c).2])) e_ S_ :=
  Zw (good:=zamn) (enc:=fun x:(List Tree) × D=>x.2) (cells:=fun q=>[li cY ys,.int .i64 q]) (x,resD (Qd Tryz.prog S_ Tryz.f95.results.toList).2.1) p' he_ ⟨h1.1,rfl,h1.2.2⟩ ⟨hg,h1.2.1⟩ h2
set_option maxHeartbeats 4000000 in
theorem l8Labels_spec (ys:List UInt8) (p:Int) (b:Nat)  (hl:ys.length ≤ 2000) (h0_:0 ≤ p) (hp_:p + 23 ≤ 1000000)  : SpecR Tryz.prog 95 [.ptr b 0] (one b [li cY ys,.int .i64 p]) (fun c=>((zabl p c).1.2,one b [li cY ys,.int .i64 (zabl p c).2])):=by
  refine SpecR.of_walk Tryz.func95 rfl (by simp [Tryz.f95]) fun B=>?_
  (repeat' (first
 | refine Qt ?_
 | refine Qc (id:=5) Vw [] (by kernel_rfl) ?_;simp [-zg,-zd,↓Qb,↓Qa,go_sem,g5,hl,(show 0 ≤ q.2.2.1 by omega),(show q.2.2.1 ≤ 1000000 by omega),(show 0 ≤ q.2.2.1 + 1 by omega),(show q.2.2.1 + 1 ≤ 1000000 by omega),(show 0 ≤ q.2.2.1 + 1 + 1 by omega),(show q.2.2.1 + 1 + 1 ≤ 1000000 by omega),(show 0 ≤ q.2.2.1 + 1 + 1 + 1 by omega),(show q.2.2.1 + 1 + 1 + 1 ≤ 1000000 by omega),(show 0 ≤ q.2.2.1 + 1 + 1 + 1 + 1 by omega),(show q.2.2.1 + 1 + 1 + 1 + 1 ≤ 1000000 by omega),(show 0 ≤ q.2.2.1 + 1 + 1 + 1 + 1 + 1 by omega),(show q.2.2.1 + 1 + 1 + 1 + 1 + 1 ≤ 1000000 by omega),(show 0 ≤ q.2.2.1 + 1 + 1 + 1 + 1 + 1 + 1 by omega),(show q.2.2.1 + 1 + 1 + 1 + 1 + 1 + 1 ≤ 1000000 by omega),(show q.2.2.1 + 5 ≤ 1000000 by omega)];try (intro c5;have z0:=l2Guard_ok q.2.2.1 c5;generalize Jv q.2.2.1 c5 = z at *;obtain ⟨z4,z1,z2⟩:=z0;obtain ⟨⟨tk,tv,ts⟩,p2⟩:=z;dsimp only at z1 z2 z4;(refine Xs 5 rfl fun qb hqb=>?_);(have hbq:¬ b = qb:=(by rintro rfl;simp [go_sem] at hqb));(clear hqb);(refine Qp (fun H1=>H1 b = some [.list ys.length (cat cY ys),.int .i64 p2] ∧ H1 qb = some [.int .i64 tk,.int .i64 tv,li cX ts]) ⟨by simp [go_sem,hbq,zS hbq],by simp [go_sem,hbq,zS hbq]⟩ fun H1 ⟨w1,w2⟩=>?_))
 | refine Qc (id:=6) Vw [] (by kernel_rfl) ?_;simp [-zg,-zd,↓Qb,↓Qa,go_sem,w1,w2,hbq,zS hbq]
 | refine Qc (id:=7) Vw [] (by kernel_rfl) ?_;simp [-zg,-zd,↓Qb,↓Qa,go_sem,w1,w2,hl,hbq,zS hbq,(show 0 ≤ p2 by omega),(show p2 ≤ 1000000 by omega),(show 0 ≤ p2 + 1 by omega),(show p2 + 1 ≤ 1000000 by omega),(show 0 ≤ p2 + 1 + 1 by omega),(show p2 + 1 + 1 ≤ 1000000 by omega),(show 0 ≤ p2 + 1 + 1 + 1 by omega),(show p2 + 1 + 1 + 1 ≤ 1000000 by omega)];try ((obtain ⟨t,p3,ht1,ht2,ht3,ht4⟩:∃ (t:Tree) (p3:Int),t = .mk 2 (pkI ys p2 3) [] ∧ p3 = p2 + 1 ∧ (q.2.2.1 ≤ p3 ∧ p3 ≤ q.2.2.1 + 6) ∧ tm t ≤ 4:=⟨_,_,rfl,rfl,by omega,by simp [tm,tms]⟩);(refine Yd qb 2 (all:=[.int .i64 2,.int .i64 (pkI ys p2 3),.nil]) (by simp [upd,hbq,zS hbq]) rfl rfl ?_);(refine Qp (fun H2=>H2 b = some [.list ys.length (cat cY ys),.int .i64 p3] ∧ H2 qb = some [.int .i64 t.k,.int .i64 t.v,li cX t.ks]) ⟨by simp [upd,hbq,zS hbq,ht2],by simp [upd,hbq,zS hbq,ht1,Tree.k,Tree.v,Tree.ks,dat,datL,li,cat]⟩ fun H2 ⟨y1,y2⟩=>?_))
 | (first | (have ht5:=ht4;skip) | (obtain ⟨t,p3,ht1,ht2,ht3,ht4⟩:∃ (t:Tree) (p3:Int),t = .mk tk tv ts ∧ p3 = p2 ∧ (q.2.2.1 ≤ p3 ∧ p3 ≤ q.2.2.1 + 6) ∧ tm t ≤ 4:=⟨_,_,rfl,rfl,by omega,z4⟩;refine Qp (fun H2=>H2 b = some [.list ys.length (cat cY ys),.int .i64 p3] ∧ H2 qb = some [.int .i64 t.k,.int .i64 t.v,li cX t.ks]) ⟨by rw [ht2];exact w1,by rw [ht1];exact w2⟩ fun H2 ⟨y1,y2⟩=>?_));refine Qc (id:=8) Vw [] (by kernel_rfl) ?_;simp [-zg,-zd,↓Qb,↓Qa,go_sem,y1,y2,hbq,zS hbq,(show q.1.length ≤ 9223372036854775806 by omega),(show 2 * (q.1.length + 1) * 40 ≤ 281474976710656 by omega),(show q.1.length + 1 ≤ 9223372036854775807 by omega)]
 | refine Qc (id:=4) Vw [] (by kernel_rfl) ?_;simp [-zg,-zd,↓Qb,↓Qa,go_sem,wrapS (k:=q.2.1) (by omega)]
 | ((obtain ⟨xs,nn,p4,H4⟩:=q);(dsimp only at *);(obtain ⟨t0,t1,t2,rfl⟩:=three (show xs.length = 3 by omega));(have hk1:tm t1 ≤ 4:=g4 t1 (by simp));(refine Zb 3 rfl fun u cu ju hu hcu hdu=>?_);(have ub:¬ u = b:=(by intro e;rw [e] at hu;dsimp only at hu;rw [g5] at hu;cases hu));(clear hu);(have hcu2:3 ≤ cu:=hcu);(have hdu2:cu * 3 ≤ 9 + ju:=hdu);(have hks:tms t1.ks ≤ 4:=(by rw [tm_eq,← tms_eq] at hk1;exact hk1));(clear hcu hdu);(refine Qp (fun H5=>H5 b = some [.list ys.length (cat cY ys),.int .i64 p4] ∧ H5 u = some ([.int .i64 t0.k,.int .i64 t0.v,li cX t0.ks,.int .i64 t1.k,.int .i64 t1.v,li cX t1.ks,.int .i64 t2.k,.int .i64 t2.v,li cX t2.ks] ++ zrP ju .any)) ⟨by simp [upd,ub,zS ub,g5],by simp [upd,ub,zS ub,cat3]⟩ fun H5 ⟨v1,v2⟩=>?_);(have hmm:∀ c,(0 ≤ (Zk t1.k t1.v t1.ks (p4 + 1) c).2 ∧ p4 + 1 ≤ (Zk t1.k t1.v t1.ks (p4 + 1) c).2) ∧ (Zk t1.k t1.v t1.ks (p4 + 1) c).2 ≤ p4 + 3 ∧ tms (Zk t1.k t1.v t1.ks (p4 + 1) c).1.ks ≤ 5:=(fun c=>by have z0:=zaun t1.k t1.v t1.ks (by omega) (p4 + 1) c;generalize Zk t1.k t1.v t1.ks (p4 + 1) c = z at *;obtain ⟨z1,z2,z3⟩:=z0;simp only [Jn] at z1;rw [tm_eq,← tms_eq] at z1;exact ⟨⟨by omega,by omega⟩,by omega,by omega⟩)));refine Qc (id:=9) Vw [] (by kernel_rfl) ?_;simp [-zg,-zd,↓Qb,↓Qa,go_sem,v1,v2,hl,ub,zS ub,(show 0 ≤ p4 by omega),(show p4 ≤ 1000000 by omega),(show 0 ≤ p4 + 1 by omega),(show p4 + 1 ≤ 1000000 by omega)]
 | refine Qc (id:=11) Vw [] (by kernel_rfl) ?_;simp [-zg,-zd,↓Qb,↓Qa,go_sem,ub,zS ub,(show (2:Int) ≤ (cu:Int) by omega)];try (refine Zz 2 (b:=u) (all:=[.int .i64 t0.k,.int .i64 t0.v,li cX t0.ks,.int .i64 t1.k,.int .i64 t1.v,li cX t1.ks,.int .i64 t2.k,.int .i64 t2.v,li cX t2.ks] ++ zrP ju .any) rfl (by simp [upd,ub,v2]) (by omega) (by simp <;> omega) (by simp <;> omega) ?_)
 | refine Qc (id:=13) Vw [] (by kernel_rfl) ?_;simp [-zg,-zd,↓Qb,↓Qa,go_sem,v1,v2,hl,ub,zS ub,(show 0 ≤ p4 by omega),(show p4 ≤ 1000000 by omega),(show 0 ≤ p4 + 1 by omega),(show p4 + 1 ≤ 1000000 by omega),(show 0 ≤ p4 + 1 + 1 by omega),(show p4 + 1 + 1 ≤ 1000000 by omega),(show 0 ≤ p4 + 1 + 1 + 1 by omega),(show p4 + 1 + 1 + 1 ≤ 1000000 by omega),(show 0 ≤ p4 + 1 + 1 + 1 + 1 by omega),(show p4 + 1 + 1 + 1 + 1 ≤ 1000000 by omega),(show 0 ≤ p4 + 1 + 1 + 1 + 1 + 1 by omega),(show p4 + 1 + 1 + 1 + 1 + 1 ≤ 1000000 by omega),(show p4 + 1 + 2 ≤ 1000000 by omega),(show tms t1.ks ≤ 100 by omega),(fun c=>(hmm c).1.1),(fun c=>(show (Zk t1.k t1.v t1.ks (p4 + 1) c).2 + 2 ≤ 1000000 from by have:=(hmm c).2.1;omega)),(fun c=>(show tms (Zk t1.k t1.v t1.ks (p4 + 1) c).1.ks ≤ 100 from by have:=(hmm c).2.2;omega))];try ((intro c13 c14);(have z0:=hmm c13);(generalize Zk t1.k t1.v t1.ks (p4 + 1) c13 = z at *);(obtain ⟨zt,zp⟩:=z);(dsimp only at *);(have x0:=zaun zt.k zt.v zt.ks (by have:=z0.2.2;omega) zp c14);(generalize Zk zt.k zt.v zt.ks zp c14 = x at *);(obtain ⟨m1,p5⟩:=x);(dsimp only at *);(have hp5:p ≤ p5 ∧ p5 ≤ p + 23:=(by have:=x0.2.1;have:=x0.2.2;have:=z0.1.2;have:=z0.2.1;omega));(refine Qp (fun H6=>H6 b = some [.list ys.length (cat cY ys),.int .i64 p5] ∧ H6 u = some ([.int .i64 t0.k,.int .i64 t0.v,li cX t0.ks,.int .i64 m1.k,.int .i64 m1.v,li cX m1.ks,.int .i64 t2.k,.int .i64 t2.v,li cX t2.ks] ++ zrP ju .any)) ⟨by simp [upd,ub,zS ub],by simp [upd,ub,zS ub,li]⟩ fun H6 ⟨w6,w7⟩=>?_))
 | ((first | (have hp6:=hp5;skip) | ((obtain ⟨m1,hm1⟩:∃ m1,m1 = t1:=⟨_,rfl⟩);(obtain ⟨p5,hp5⟩:∃ p5,p5 = p4 + 1:=⟨_,rfl⟩);(refine Qp (fun H6=>H6 b = some [.list ys.length (cat cY ys),.int .i64 p5] ∧ H6 u = some ([.int .i64 t0.k,.int .i64 t0.v,li cX t0.ks,.int .i64 m1.k,.int .i64 m1.v,li cX m1.ks,.int .i64 t2.k,.int .i64 t2.v,li cX t2.ks] ++ zrP ju .any)) ⟨by simp [upd,ub,zS ub,hp5],by simp [upd,ub,zS ub,hm1,v2]⟩ fun H6 ⟨w6,w7⟩=>?_)));(refine Zz 3 (b:=u) (all:=[.int .i64 t0.k,.int .i64 t0.v,li cX t0.ks,.int .i64 m1.k,.int .i64 m1.v,li cX m1.ks,.int .i64 t2.k,.int .i64 t2.v,li cX t2.ks] ++ zrP ju .any) rfl w7 (by omega) (by simp <;> omega) (by simp <;> omega) ?_));refine Qc (id:=14) Vw [] (by kernel_rfl) ?_;simp [-zg,-zd,↓Qb,↓Qa,go_sem,w6,w7,ub,zS ub]
 | (refine Qe (id:=0) (Qw (ι:=List Tree × Nat × Int × Hp) (fun q:List Tree × Nat × Int × Hp=>⟨(upd (upd (upd (fun _=>.any) 0 (.ptr b 0)) 3 (.fr 3 q.1.length (cat cX q.1))) 4 (.int .i64 q.2.1)),q.2.2.2⟩) (fun q=>q.2.1 ≤ 3 ∧ q.1.length = q.2.1 ∧ (p ≤ q.2.2.1 ∧ q.2.2.1 ≤ p + 6 * q.2.1) ∧ (∀ t ∈ q.1,tm t ≤ 4) ∧ q.2.2.2 b = some [.list ys.length (cat cY ys),.int .i64 q.2.2.1]) (fun q=>3 - q.2.1) (([],0,p,upd (fun _=>none) b (some [.list ys.length (cat cY ys),.int .i64 p]))) ?_ ?_ ?_);exact ⟨by dsimp only;omega,rfl,by dsimp only;omega,by simp,by simp [upd]⟩;((repeat' (first | exact Qg (by assumption) | exact Qi | refine Qf ?_ ?_ | refine Qh ?_)) <;> simp [-zg,-zd,↓Qb,↓Qa,go_sem,Xb]);rintro q ⟨g1,g2,g3,g4,g5⟩)
 | (refine ⟨(q.1 ++ [t],q.2.1 + 1,p3,H2),⟨by dsimp only;omega,by simp;omega,by dsimp only;omega,snoc_tm g4 ht4,y1⟩,by first | omega | (simp;done) | (simp;omega),?_⟩;((repeat' (first | exact Qg (by assumption) | exact Qi | refine Qf ?_ ?_ | refine Qh ?_)) <;> simp [-zg,-zd,↓Qb,↓Qa,go_sem,Xk,Xg,cX_eq,li]))
 | (refine Qe ?_)
 | (refine Qs ?_;simp [-zg,-zd,↓Qb,↓Qa,go_sem])
 | (refine Qr ?_;simp [-zg,-zd,↓Qb,↓Qa,go_sem])
 | (refine Qq ?_;try simp [-zg,-zd,↓Qb,↓Qa,go_sem,Tryz.results95])
 | (intro hx;refine zA ?_)
 | (intro hx;change retR _ _ _ _ _)
 | (refine ⟨?_,?_⟩ <;> refine zA ?_)
 | (intro hx;constructor <;> intro hs)
 | (constructor <;> intro hs)
 | (refine ⟨?_,fun hs=>?_⟩;refine zA ?_)
 | (refine ⟨fun hs=>?_,?_⟩;rotate_left;refine zA ?_;rotate_left)
 | (refine Qj ?_;simp [-zg,-zd,↓Qb,↓Qa,go_sem];try first | (refine ⟨?_,?_⟩ <;> refine zA ?_) | (refine ⟨fun cz=>?_,fun cz=>?_⟩ <;> (try simp [B_iff,B_not] at cz)))
 | (refine Qc Vw [] (by kernel_rfl) ?_;simp [-zg,-zd,↓Qb,↓Qa,go_sem])
 | fail))
  all_goals (first
 | (refine zaqi _ _ _ ([t0,t1]) (p4 + 1) ?_ ?_ ?_ ?_;(first | exact Or.inl rfl | exact Or.inr rfl);(focus (simp [-zg,-zd,↓Qb,↓Qa,go_sem,Tryz.results95,ub,zS ub,v1,Xe,cX_eq,li,dat,Qz,Xb];done));(focus ((simp [Ug]);done));(focus (refine ⟨?_,?_⟩ <;> omega)))
 | (refine zaqi _ _ _ ([t0,m1,t2]) (p5) ?_ ?_ ?_ ?_;(first | exact Or.inl rfl | exact Or.inr rfl);(focus (simp [-zg,-zd,↓Qb,↓Qa,go_sem,Tryz.results95,ub,zS ub,w6,Xe,cX_eq,li,dat,Qz,Xb];done));(focus ((simp [Ug]);done));(focus (refine ⟨?_,?_⟩ <;> omega)))
 | skip)
@[go_sem] def l8LabelsC:Con:=.rel fun args H=>match args with
  | [.ptr b 0]=>match H b with
    | some [.list m cs,.int .i64 p]=>((Is cY m cs) ∧ (m ≤ 2000) ∧ (0 ≤ p) ∧ (p + 23 ≤ 1000000),fun c=>(zacf (Vi p c).1,upd H b (some [.list m cs,.int .i64 (Vi p c).2])))
    | _=>(False,fun _=>(.any,H))
  | _=>(False,fun _=>(.any,H))
theorem l8LabelsC_ok:ConOk Tryz.prog 95 l8LabelsC:=by
  refine ⟨Qo Tryz.func95 (by decide) rfl,fun args H h=>?_⟩
  revert h
  dsimp only
  split
  · split
    · rename_i hH
      intro h
      obtain ⟨⟨ys,rfl,rfl⟩,hl,h0_,hp_⟩:=h
      try simp only [Qm] at *
      exact SpecR.enc ((l8Labels_spec ys _ _ hl h0_ hp_ ).frame hH) fun c=>Prod.ext (zaqj  _ _).2.symm rfl
    · intro h;exact h.elim
  · intro h
    exact h.elim
end
end Go.Proofs.YtiilmjojffjhlaaGreatDoor.Vm

