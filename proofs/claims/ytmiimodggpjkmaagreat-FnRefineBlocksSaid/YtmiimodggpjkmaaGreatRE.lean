/-
  Letters of states, blocks of letters, the bisimulation: what is drawn from them. No conditions.
-/
import Derived.Test.YtmiimodggpjkmaaGreatE18
import Derived.Test.YtmiimodggpjkmaaGreatRD
import Derived.Test.YtmiimodggpjkmaaGreatRD
namespace Go.Proofs.YtmiimodggpjkmaaGreat.Vm
open Go
open Nat renaming sub_pos_of_lt → zsP
open List renaming getD_eq_getElem?_getD → zg,drop_one → zd
noncomputable section
set_option linter.unusedVariables false
set_option linter.unusedSimpArgs false
set_option maxRecDepth 200000

@[go_sem] def Γm0:FuncId → Con:=ext Γe34 29 zach
theorem Γm0_ok:∀ g,ConOk Tryz.prog g (Γm0 g):=Qn Γe34_ok zadz

@[go_sem] def Γm1:FuncId → Con:=ext Γm0 13 zacg
theorem Wu:∀ g,ConOk Tryz.prog g (Γm1 g):=Qn Γm0_ok zady

def LabOk (xs:List Tree):Prop:=xs.length = 3 ∧ ∀ i,i < xs.length → ExprOk (nth xs i)
theorem lab_res {xs:List Tree} {i:Nat} (hu:AllTill (fun i=>ExprOk (nth xs i)) i) (h:xs.length ≤ i):decide ((xs.length:Int) = 3) = Vm.B (LabOk xs):=by
  by_cases h3:(xs.length:Int) = 3
  · rw [decide_eq_true h3,B_yes (show LabOk xs from ⟨by omega,fun j hj=>hu j (by omega)⟩)]
  · rw [decide_eq_false h3,B_no (fun h:LabOk xs=>h3 (by have:=h.1;omega))]

theorem zamr (xs:List Tree)  : Pure Tryz.prog 96 [li cX xs] (.bool (B (LabOk xs))):=by
  refine Pure.of_walk Tryz.func96 rfl (by simp [Tryz.f96]) (by simp [-zd,go_sem]) fun B hK=>?_
  (repeat' (first
 | refine Qt ?_
 | (refine Zm 0 rfl fun hm=>?_);refine Qc (id:=0) Wu [] (by kernel_rfl) ?_;simp [-zg,-zd,↓Qb,↓Qa,go_sem]
 | refine Qc (id:=1) Wu [] (by kernel_rfl) ?_;simp [-zg,-zd,↓Qb,↓Qa,go_sem]
 | refine Qc (id:=2) Wu [] (by kernel_rfl) ?_;simp [-zg,-zd,↓Qb,↓Qa,go_sem]
 | refine Qc (id:=4) Wu [] (by kernel_rfl) ?_;simp [-zg,-zd,↓Qb,↓Qa,go_sem,c7,Qe c7,zsP c7,Tree.eta]
 | refine Qc (id:=5) Wu [] (by kernel_rfl) ?_;simp [-zg,-zd,↓Qb,↓Qa,go_sem]
 | refine Qc (id:=3) Wu [] (by kernel_rfl) ?_;simp [-zg,-zd,↓Qb,↓Qa,go_sem,wrapS (k:=i) (by omega)]
 | refine Qc (id:=6) Wu [] (by kernel_rfl) ?_;simp [-zg,-zd,↓Qb,↓Qa,go_sem]
 | refine Qd (c:=.tmp 7) ?_;simp [-zg,-zd,↓Qb,↓Qa,go_sem];try first | (refine ⟨?_,?_⟩ <;> refine zA ?_) | (refine ⟨fun c7=>?_,fun c7=>?_⟩ <;> (try simp [B_iff,B_not] at c7))
 | refine Qd (c:=.tmp 15) ?_;simp [-zg,-zd,↓Qb,↓Qa,go_sem];try first | (refine ⟨?_,?_⟩ <;> refine zA ?_) | (refine ⟨fun c15=>?_,fun c15=>?_⟩ <;> (try simp [B_iff,B_not] at c15))
 | (refine Qg (id:=0) (Qx (ι:=Nat) (fun i:Nat=>⟨(upd (upd (fun _=>.any) 0 (li cX xs)) 3 (.int .i64 i)),fun _=>none⟩) (fun i=>i ≤ xs.length ∧ AllTill (fun i=>ExprOk (nth xs i)) i) (fun i=>xs.length - i) (0) ?_ ?_ ?_);exact ⟨Nat.zero_le _,.zero _⟩;((repeat' (first | exact Qh (by assumption) | exact Qj | refine Qk ?_ ?_ | refine Qi ?_)) <;> simp [-zg,-zd,↓Qb,↓Qa,go_sem]);rintro i ⟨hi,hu⟩)
 | (refine ⟨i + 1,⟨by omega,hu.succ c15⟩,by first | omega | (simp;done) | (simp;omega),?_⟩;((repeat' (first | exact Qh (by assumption) | exact Qj | refine Qk ?_ ?_ | refine Qi ?_)) <;> simp [-zg,-zd,↓Qb,↓Qa,go_sem]))
 | (refine Qg ?_)
 | (refine Qs ?_;simp [-zg,-zd,↓Qb,↓Qa,go_sem])
 | (refine Qr ?_;simp [-zg,-zd,↓Qb,↓Qa,go_sem])
 | (refine Qq ?_;simp [-zg,-zd,↓Qb,↓Qa,go_sem,Tryz.results96])
 | (intro hx;refine zA ?_)
 | (refine ⟨?_,?_⟩ <;> refine zA ?_)
 | (intro hx;constructor <;> intro hs)
 | (constructor <;> intro hs)
 | (refine ⟨?_,fun hs=>?_⟩;refine zA ?_)
 | (refine ⟨fun hs=>?_,?_⟩;rotate_left;refine zA ?_;rotate_left)))
  all_goals (first
 | (intro h;exact c15 (h.2 i c7))
 | exact lab_res hu c7
 | skip)
@[go_sem] def zacs:Con:=.pure fun
  | [.list n_xs c_xs]=>((Is cX n_xs c_xs),.bool (B (LabOk (de cX c_xs))))
  | _=>(False,.any)
theorem zaha:ConOk Tryz.prog 96 zacs:=by
  refine ⟨Qo Tryz.func96 (by decide) rfl,fun args h=>?_⟩
  revert h
  dsimp only
  split
  · intro h
    obtain ⟨xs,rfl,rfl⟩:=h
    try simp only [Qm] at *
    exact ⟨zamr xs,by simp [go_sem]⟩
  · intro h
    exact h.elim
@[go_sem] def Γm2:FuncId → Con:=ext Γm1 96 zacs
theorem Ur:∀ g,ConOk Tryz.prog g (Γm2 g):=Qn Wu zaha

@[go_sem] def zacb:Int → D:=fun x=>.int .i64 x
def zaji (a1:List Int) (a2:List Int) (xs:List Tree):Int → Prop:=fun _=>True
def zaeg (a1:List Int) (a2:List Int) (xs:List Tree) (c:Any):Int:=sel (zaji a1 a2 xs) (0) c
theorem l8Letter_ret (a1:List Int) (a2:List Int) (xs:List Tree) {e_:Exit} {S_:St} (x:Int) (he_:e_ = .ret ∨ e_ = .normal)
    (h1:(Qf Tryz.prog S_ Tryz.f104.results.toList).1 ∧ resD (Qf Tryz.prog S_ Tryz.f104.results.toList).2.1 = zacb x) (hg:zaji a1 a2 xs x) :
    retR Tryz.prog Tryz.f104 (fun c=>(zacb (zaeg a1 a2 xs c),fun _=>none)) e_ S_:=Xy (enc:=zacb) x he_ h1 hg
theorem l8Letter_pure (a1:List Int) (a2:List Int) (xs:List Tree) (hL:LabOk xs) (hv:ValsOk a2):PureR Tryz.prog 104 [.st [li cI a1,li cI a2],li cX xs] (fun c=>zacb (zaeg a1 a2 xs c)):=by
  refine PureR.of_walk Tryz.func104 rfl (by simp [Tryz.f104]) (fun c=>by simp [-zd,go_sem]) fun B hK=>?_
  (repeat' (first
 | refine Qt ?_
 | refine Qc (id:=0) Ur [] (by kernel_rfl) ?_;simp [-zg,-zd,↓Qb,↓Qa,go_sem];try (refine Xe 2 ?_;simp [go_sem])
 | refine Qc (id:=1) Ur [] (by kernel_rfl) ?_;simp [-zg,-zd,↓Qb,↓Qa,go_sem]
 | refine Qc (id:=2) Ur [] (by kernel_rfl) ?_;simp [-zg,-zd,↓Qb,↓Qa,go_sem]
 | refine Qc (id:=3) Ur [] (by kernel_rfl) ?_;simp [-zg,-zd,↓Qb,↓Qa,go_sem]
 | refine Xm (id:=5) Ur mixed [] [] (by kernel_rfl) (by kernel_rfl) (by simp [-zg,-zd,↓Qb,↓Qa,go_sem,c10,Qe c10,zsP c10,hv,(hL.2 q.1 c10).well,Tree.eta]) ?_;simp [-zg,-zd,↓Qb,↓Qa,go_sem,c10,Qe c10,zsP c10,hv,(hL.2 q.1 c10).well,Tree.eta];try (intro c5;have h5:=zahq (nth xs q.1).k (nth xs q.1).v (nth xs q.1).ks a2 c5;generalize Zw (nth xs q.1).k (nth xs q.1).v (nth xs q.1).ks a2 c5 = z at *)
 | refine Qc (id:=6) Ur [] (by kernel_rfl) ?_;simp [-zg,-zd,↓Qb,↓Qa,go_sem]
 | (first | (have d20:¬ _ = (0:Int):=c20;obtain ⟨v2,hv2⟩:∃ v2,v2 = bitsD BinOp.or IntKind.i64 q.2 (IntKind.i64.wrap (2 ^ min (IntKind.u64.wrap (q.1:Int)).toNat 64)):=⟨_,rfl⟩) | (obtain ⟨v2,hv2⟩:∃ v2,v2 = q.2:=⟨_,rfl⟩));refine Qc (id:=4) Ur [] (by kernel_rfl) ?_;simp [-zg,-zd,↓Qb,↓Qa,go_sem,wrapS (k:=q.1) (by have:=hL.1;omega)]
 | refine Qc (id:=7) Ur [] (by kernel_rfl) ?_;simp [-zg,-zd,↓Qb,↓Qa,go_sem]
 | refine Qd (c:=.tmp 10) ?_;simp [-zg,-zd,↓Qb,↓Qa,go_sem];try first | (refine ⟨?_,?_⟩ <;> refine zA ?_) | (refine ⟨fun c10=>?_,fun c10=>?_⟩ <;> (try simp [B_iff,B_not] at c10))
 | refine Qd (c:=.tmp 20) ?_;simp [-zg,-zd,↓Qb,↓Qa,go_sem];try first | (refine ⟨?_,?_⟩ <;> refine zA ?_) | (refine ⟨fun c20=>?_,fun c20=>?_⟩ <;> (try simp [B_iff,B_not] at c20))
 | (refine Qg (id:=0) (Qx (ι:=Nat × Int) (fun q:Nat × Int=>⟨(upd (upd (upd (upd (fun _=>.any) 1 (li cX xs)) 2 (.pd [li cI a1,li cI a2])) 5 (.int .i64 q.2)) 6 (.int .i64 q.1)),fun _=>none⟩) (fun q=>q.1 ≤ xs.length) (fun q=>xs.length - q.1) ((0,0)) ?_ ?_ ?_);exact Nat.zero_le _;((repeat' (first | exact Qh (by assumption) | exact Qj | refine Qk ?_ ?_ | refine Qi ?_)) <;> simp [-zg,-zd,↓Qb,↓Qa,go_sem]);rintro q hi)
 | (refine ⟨(q.1 + 1,v2),by dsimp only;omega,by first | omega | (simp;done) | (simp;omega),?_⟩;((repeat' (first | exact Qh (by assumption) | exact Qj | refine Qk ?_ ?_ | refine Qi ?_)) <;> simp [-zg,-zd,↓Qb,↓Qa,go_sem,hv2]))
 | (refine Qg ?_)
 | (refine Qs ?_;simp [-zg,-zd,↓Qb,↓Qa,go_sem])
 | (refine Qr ?_;simp [-zg,-zd,↓Qb,↓Qa,go_sem])
 | (refine Qq ?_;try simp [-zg,-zd,↓Qb,↓Qa,go_sem,Tryz.results104])
 | (intro hx;refine zA ?_)
 | (intro hx;change retR _ _ _ _ _)
 | (refine ⟨?_,?_⟩ <;> refine zA ?_)
 | (intro hx;constructor <;> intro hs)
 | (constructor <;> intro hs)
 | (refine ⟨?_,fun hs=>?_⟩;refine zA ?_)
 | (refine ⟨fun hs=>?_,?_⟩;rotate_left;refine zA ?_;rotate_left)))
  all_goals (first
 | (refine l8Letter_ret _ _ _ (q.2) ?_ ?_ ?_;(first | exact Or.inl rfl | exact Or.inr rfl);(focus (simp [-zg,-zd,↓Qb,↓Qa,go_sem,Tryz.results104];done));(focus ((trivial);done)))
 | skip)
@[go_sem] def l8LetterC:Con:=.prel fun
  | [.st [.list n_a1 c_a1,.list n_a2 c_a2],.list n_xs c_xs]=>((Is cI n_a1 c_a1) ∧ (Is cI n_a2 c_a2) ∧ (Is cX n_xs c_xs) ∧ (LabOk (de cX c_xs)) ∧ (ValsOk (de cI c_a2)),fun c=>zacb (zaeg (de cI c_a1) (de cI c_a2) (de cX c_xs) c))
  | _=>(False,fun _=>.any)
theorem l8LetterC_ok:ConOk Tryz.prog 104 l8LetterC:=by
  refine ⟨Qo Tryz.func104 (by decide) rfl,fun args h=>?_⟩
  revert h
  dsimp only
  split
  · intro h
    obtain ⟨⟨a1,rfl,rfl⟩,⟨a2,rfl,rfl⟩,⟨xs,rfl,rfl⟩,hL,hv⟩:=h
    try simp only [Qm] at *
    exact ⟨l8Letter_pure a1 a2 xs hL hv,fun c=>by simp [go_sem]⟩
  · intro h
    exact h.elim
@[go_sem] def Γm3:FuncId → Con:=ext Γm2 104 l8LetterC
theorem Wt:∀ g,ConOk Tryz.prog g (Γm3 g):=Qn Ur l8LetterC_ok

@[go_sem] def zabn:List Int → D:=fun x=>fr 1 cI x
def zaax (a:List Ints2) (b:List (List Int)) (xs:List Tree):List Int → Prop:=fun x=>x.length = a.length
def zack (a:List Ints2) (b:List (List Int)) (xs:List Tree) (c:Any):List Int:=sel (zaax a b xs) (List.replicate a.length 0) c
theorem l8Letters_ok (a:List Ints2) (b:List (List Int)) (xs:List Tree) (hL:LabOk xs) (hG:GraphOk a b) (c:Any):zaax a b xs (zack a b xs c):=Xz (p:=zaax a b xs) (x0:=List.replicate a.length 0) (by simp [zaax]) c
theorem l8Letters_ret (a:List Ints2) (b:List (List Int)) (xs:List Tree) {e_:Exit} {S_:St} (x:List Int) (he_:e_ = .ret ∨ e_ = .normal)
    (h1:(Qf Tryz.prog S_ Tryz.f97.results.toList).1 ∧ resD (Qf Tryz.prog S_ Tryz.f97.results.toList).2.1 = zabn x) (hg:zaax a b xs x) :
    retR Tryz.prog Tryz.f97 (fun c=>(zabn (zack a b xs c),fun _=>none)) e_ S_:=Xy (enc:=zabn) x he_ h1 hg
theorem l8Letters_pure (a:List Ints2) (b:List (List Int)) (xs:List Tree) (hL:LabOk xs) (hG:GraphOk a b):PureR Tryz.prog 97 [.st [li cP a,li cL b],li cX xs] (fun c=>zabn (zack a b xs c)):=by
  refine PureR.of_walk Tryz.func97 rfl (by simp [Tryz.f97]) (fun c=>by simp [-zd,go_sem]) fun B hK=>?_
  (repeat' (first
 | refine Qt ?_
 | refine Qc (id:=0) Wt [] (by kernel_rfl) ?_;simp [-zg,-zd,↓Qb,↓Qa,go_sem];try (refine Xe 2 ?_;simp [go_sem])
 | refine Qc (id:=1) Wt [] (by kernel_rfl) ?_;simp [-zg,-zd,↓Qb,↓Qa,go_sem]
 | refine Qc (id:=2) Wt [] (by kernel_rfl) ?_;simp [-zg,-zd,↓Qb,↓Qa,go_sem]
 | refine Qc (id:=3) Wt [] (by kernel_rfl) ?_;simp [-zg,-zd,↓Qb,↓Qa,go_sem]
 | ((have hvv:=hG.2.2.2.1 q.2 c12);(have ha60:=hG.2.1));refine Qc (id:=5) Wt [] (by kernel_rfl) ?_;simp [-zg,-zd,↓Qb,↓Qa,go_sem,c12,Qe c12,zsP c12,hL,hvv,(show q.1.length ≤ 9223372036854775806 by omega),(show 2 * (q.1.length + 1) * 8 ≤ 281474976710656 by omega),(show q.1.length + 1 ≤ 9223372036854775807 by omega),zanz];try (intro c5;generalize zaeg (nth a q.2).1 (nth a q.2).2 xs c5 = z at *)
 | refine Qc (id:=4) Wt [] (by kernel_rfl) ?_;simp [-zg,-zd,↓Qb,↓Qa,go_sem,wrapS (k:=q.2) (by have:=hG.2.1;omega)]
 | refine Qc (id:=6) Wt [] (by kernel_rfl) ?_;simp [-zg,-zd,↓Qb,↓Qa,go_sem]
 | refine Qd (c:=.tmp 12) ?_;simp [-zg,-zd,↓Qb,↓Qa,go_sem];try first | (refine ⟨?_,?_⟩ <;> refine zA ?_) | (refine ⟨fun c12=>?_,fun c12=>?_⟩ <;> (try simp [B_iff,B_not] at c12))
 | (refine Qg (id:=0) (Qx (ι:=List Int × Nat) (fun q:List Int × Nat=>⟨(upd (upd (upd (upd (fun _=>.any) 1 (li cX xs)) 2 (.pd [li cP a,li cL b])) 5 (.fr 1 q.1.length (cat cI q.1))) 6 (.int .i64 q.2)),fun _=>none⟩) (fun q=>q.2 ≤ a.length ∧ q.1.length = q.2) (fun q=>a.length - q.2) (([],0)) ?_ ?_ ?_);exact ⟨Nat.zero_le _,rfl⟩;((repeat' (first | exact Qh (by assumption) | exact Qj | refine Qk ?_ ?_ | refine Qi ?_)) <;> simp [-zg,-zd,↓Qb,↓Qa,go_sem,Xl]);rintro q ⟨g1,g2⟩)
 | (refine ⟨(q.1 ++ [z],q.2 + 1),⟨by dsimp only;omega,by simp;omega⟩,by first | omega | (simp;done) | (simp;omega),?_⟩;((repeat' (first | exact Qh (by assumption) | exact Qj | refine Qk ?_ ?_ | refine Qi ?_)) <;> simp [-zg,-zd,↓Qb,↓Qa,go_sem,Xk,Xi]))
 | (refine Qg ?_)
 | (refine Qs ?_;simp [-zg,-zd,↓Qb,↓Qa,go_sem])
 | (refine Qr ?_;simp [-zg,-zd,↓Qb,↓Qa,go_sem])
 | (refine Qq ?_;try simp [-zg,-zd,↓Qb,↓Qa,go_sem,Tryz.results97])
 | (intro hx;refine zA ?_)
 | (intro hx;change retR _ _ _ _ _)
 | (refine ⟨?_,?_⟩ <;> refine zA ?_)
 | (intro hx;constructor <;> intro hs)
 | (constructor <;> intro hs)
 | (refine ⟨?_,fun hs=>?_⟩;refine zA ?_)
 | (refine ⟨fun hs=>?_,?_⟩;rotate_left;refine zA ?_;rotate_left)))
  all_goals (first
 | (refine l8Letters_ret _ _ _ (q.1) ?_ ?_ ?_;(first | exact Or.inl rfl | exact Or.inr rfl);(focus (simp [-zg,-zd,↓Qb,↓Qa,go_sem,Tryz.results97];done));(focus ((simp only [zaax];omega);done)))
 | skip)
@[go_sem] def zald:Con:=.prel fun
  | [.st [.list n_a c_a,.list n_b c_b],.list n_xs c_xs]=>((Is cP n_a c_a) ∧ (Is cL n_b c_b) ∧ (Is cX n_xs c_xs) ∧ (LabOk (de cX c_xs)) ∧ (GraphOk (de cP c_a) (de cL c_b)),fun c=>zabn (zack (de cP c_a) (de cL c_b) (de cX c_xs) c))
  | _=>(False,fun _=>.any)
theorem l8LettersC_ok:ConOk Tryz.prog 97 zald:=by
  refine ⟨Qo Tryz.func97 (by decide) rfl,fun args h=>?_⟩
  revert h
  dsimp only
  split
  · intro h
    obtain ⟨⟨a,rfl,rfl⟩,⟨b,rfl,rfl⟩,⟨xs,rfl,rfl⟩,hL,hG⟩:=h
    try simp only [Qm] at *
    exact ⟨l8Letters_pure a b xs hL hG,fun c=>by simp [go_sem]⟩
  · intro h
    exact h.elim
@[go_sem] def Γm4:FuncId → Con:=ext Γm3 97 zald
theorem Γm4_ok:∀ g,ConOk Tryz.prog g (Γm4 g):=Qn Wt l8LettersC_ok

@[go_sem] def zaaz:List Int × Bool → D:=fun x=>.tup [fr 1 cI x.1,.bool x.2]
def zaae (a:List Ints2) (b:List (List Int)) (xs:List Tree):List Int × Bool → Prop:=fun x=>x.2 = true → GraphOk a b ∧ x.1.length = a.length
def zabw (a:List Ints2) (b:List (List Int)) (xs:List Tree) (c:Any):List Int × Bool:=sel (zaae a b xs) (([],false)) c
theorem LabelGraph_ok (a:List Ints2) (b:List (List Int)) (xs:List Tree)  (c:Any):zaae a b xs (zabw a b xs c):=Xz (p:=zaae a b xs) (x0:=([],false)) (by simp [zaae]) c
theorem zahx (a:List Ints2) (b:List (List Int)) (xs:List Tree) {e_:Exit} {S_:St} (x:List Int × Bool) (he_:e_ = .ret ∨ e_ = .normal)
    (h1:(Qf Tryz.prog S_ Tryz.f85.results.toList).1 ∧ resD (Qf Tryz.prog S_ Tryz.f85.results.toList).2.1 = zaaz x) (hg:zaae a b xs x) :
    retR Tryz.prog Tryz.f85 (fun c=>(zaaz (zabw a b xs c),fun _=>none)) e_ S_:=Xy (enc:=zaaz) x he_ h1 hg
theorem zanq (a:List Ints2) (b:List (List Int)) (xs:List Tree)  : PureR Tryz.prog 85 [.st [li cP a,li cL b],li cX xs] (fun c=>zaaz (zabw a b xs c)):=by
  refine PureR.of_walk Tryz.func85 rfl (by simp [Tryz.f85]) (fun c=>by simp [-zd,go_sem]) fun B hK=>?_
  (repeat' (first
 | refine Qt ?_
 | refine Qc (id:=0) Γm4_ok [] (by kernel_rfl) ?_;simp [-zg,-zd,↓Qb,↓Qa,go_sem];try (refine Xe 2 ?_;simp [go_sem])
 | refine Qc (id:=1) Γm4_ok [9] (by kernel_rfl) ?_;simp [-zg,-zd,↓Qb,↓Qa,go_sem];try (refine ⟨fun s1a=>?_,fun s1a=>?_⟩ <;> (try simp [B_iff,B_not] at s1a) <;> try (refine ⟨fun s1b=>?_,fun s1b=>?_⟩ <;> (try simp [B_iff,B_not] at s1b)))
 | refine Qc (id:=2) Γm4_ok [] (by kernel_rfl) ?_;simp [-zg,-zd,↓Qb,↓Qa,go_sem]
 | ((have hG:GraphOk a b:=by simp_all);(have hL:LabOk xs:=by simp_all));refine Qc (id:=3) Γm4_ok [] (by kernel_rfl) ?_;simp [-zg,-zd,↓Qb,↓Qa,go_sem,hG,hL];try (intro c3;have h3:=l8Letters_ok a b xs hL hG c3;generalize zack a b xs c3 = z at *)
 | refine Qd (c:=.tmp 13) ?_;simp [-zg,-zd,↓Qb,↓Qa,go_sem];try first | (refine ⟨?_,?_⟩ <;> refine zA ?_) | (refine ⟨fun c13=>?_,fun c13=>?_⟩ <;> (try simp [B_iff,B_not] at c13))
 | (refine Qg ?_)
 | (refine Qs ?_;simp [-zg,-zd,↓Qb,↓Qa,go_sem])
 | (refine Qr ?_;simp [-zg,-zd,↓Qb,↓Qa,go_sem])
 | (refine Qq ?_;try simp [-zg,-zd,↓Qb,↓Qa,go_sem,Tryz.results85])
 | (intro hx;refine zA ?_)
 | (intro hx;change retR _ _ _ _ _)
 | (refine ⟨?_,?_⟩ <;> refine zA ?_)
 | (intro hx;constructor <;> intro hs)
 | (constructor <;> intro hs)
 | (refine ⟨?_,fun hs=>?_⟩;refine zA ?_)
 | (refine ⟨fun hs=>?_,?_⟩;rotate_left;refine zA ?_;rotate_left)))
  all_goals (first
 | (refine zahx _ _ _ (([],false)) ?_ ?_ ?_;(first | exact Or.inl rfl | exact Or.inr rfl);(focus (simp [-zg,-zd,↓Qb,↓Qa,go_sem,Tryz.results85];done));(focus ((simp [zaae]);done)))
 | (refine zahx _ _ _ ((z,true)) ?_ ?_ ?_;(first | exact Or.inl rfl | exact Or.inr rfl);(focus (simp [-zg,-zd,↓Qb,↓Qa,go_sem,Tryz.results85];done));(focus ((intro _;exact ⟨hG,h3⟩);done)))
 | skip)
@[go_sem] def zajb:Con:=.prel fun
  | [.st [.list n_a c_a,.list n_b c_b],.list n_xs c_xs]=>((Is cP n_a c_a) ∧ (Is cL n_b c_b) ∧ (Is cX n_xs c_xs),fun c=>zaaz (zabw (de cP c_a) (de cL c_b) (de cX c_xs) c))
  | _=>(False,fun _=>.any)
theorem LabelGraphC_ok:ConOk Tryz.prog 85 zajb:=by
  refine ⟨Qo Tryz.func85 (by decide) rfl,fun args h=>?_⟩
  revert h
  dsimp only
  split
  · intro h
    obtain ⟨⟨a,rfl,rfl⟩,⟨b,rfl,rfl⟩,⟨xs,rfl,rfl⟩⟩:=h
    try simp only [Qm] at *
    exact ⟨zanq a b xs ,fun c=>by simp [go_sem]⟩
  · intro h
    exact h.elim
@[go_sem] def Γm5:FuncId → Con:=ext Γm4 85 zajb
theorem Jx:∀ g,ConOk Tryz.prog g (Γm5 g):=Qn Γm4_ok LabelGraphC_ok

@[go_sem] def zaap:List Int × Bool → D:=fun x=>.tup [fr 1 cI x.1,.bool x.2]
def zaab (a:List Ints2) (b:List (List Int)) (xs:List Tree):List Int × Bool → Prop:=fun x=>x.2 = true → GraphOk a b ∧ ∃ K,x.1 = numK K ∧ K.length = a.length
def zabd (a:List Ints2) (b:List (List Int)) (xs:List Tree) (c:Any):List Int × Bool:=sel (zaab a b xs) (([],false)) c
theorem LabelBlocks_ok (a:List Ints2) (b:List (List Int)) (xs:List Tree)  (c:Any):zaab a b xs (zabd a b xs c):=Xz (p:=zaab a b xs) (x0:=([],false)) (by simp [zaab]) c
theorem zagb (a:List Ints2) (b:List (List Int)) (xs:List Tree) {e_:Exit} {S_:St} (x:List Int × Bool) (he_:e_ = .ret ∨ e_ = .normal)
    (h1:(Qf Tryz.prog S_ Tryz.f64.results.toList).1 ∧ resD (Qf Tryz.prog S_ Tryz.f64.results.toList).2.1 = zaap x) (hg:zaab a b xs x) :
    retR Tryz.prog Tryz.f64 (fun c=>(zaap (zabd a b xs c),fun _=>none)) e_ S_:=Xy (enc:=zaap) x he_ h1 hg
theorem zams (a:List Ints2) (b:List (List Int)) (xs:List Tree)  : PureR Tryz.prog 64 [.st [li cP a,li cL b],li cX xs] (fun c=>zaap (zabd a b xs c)):=by
  refine PureR.of_walk Tryz.func64 rfl (by simp [Tryz.f64]) (fun c=>by simp [-zd,go_sem]) fun B hK=>?_
  (repeat' (first
 | refine Qt ?_
 | refine Qc (id:=0) Jx [] (by kernel_rfl) ?_;simp [-zg,-zd,↓Qb,↓Qa,go_sem];try (refine Xe 2 ?_;simp [go_sem])
 | refine Qc (id:=1) Jx [] (by kernel_rfl) ?_;simp [-zg,-zd,↓Qb,↓Qa,go_sem];try (intro c1;have h1:=LabelGraph_ok a b xs c1;generalize zabw a b xs c1 = z at *;obtain ⟨ll,ok⟩:=z;simp only [zaae] at h1;refine Xe 6 ?_;simp [go_sem])
 | refine Qc (id:=2) Jx [] (by kernel_rfl) ?_;simp [-zg,-zd,↓Qb,↓Qa,go_sem]
 | refine Qc (id:=3) Jx [] (by kernel_rfl) ?_;simp [-zg,-zd,↓Qb,↓Qa,go_sem]
 | ((obtain ⟨hG,hll⟩:=h1 (by simp_all));(have ha60:=hG.2.1));refine Qc (id:=4) Jx [] (by kernel_rfl) ?_;simp [-zg,-zd,↓Qb,↓Qa,go_sem]
 | refine Qc (id:=5) Jx [] (by kernel_rfl) ?_;simp [-zg,-zd,↓Qb,↓Qa,go_sem]
 | refine Qc (id:=6) Jx [] (by kernel_rfl) ?_;simp [-zg,-zd,↓Qb,↓Qa,go_sem]
 | ((have e8:cat oL ((ll.map fun x=>[x]).take i) ++ [.fr 1 1 [.int .i64 (nth ll i)]] = cat oL ((ll.map fun x=>[x]).take (i + 1)):=(by rw [← List.map_take,← List.map_take,List.take_succ_eq_append_getElem c23,← Xa c23,List.map_append,Xk];rfl)));refine Qc (id:=8) Jx [] (by kernel_rfl) ?_;simp [-zg,-zd,↓Qb,↓Qa,go_sem,c23,Qe c23,zsP c23,e8,(show i ≤ 9223372036854775806 by omega),(show 2 * (i + 1) * 24 ≤ 281474976710656 by omega),(show i + 1 ≤ 9223372036854775807 by omega)]
 | refine Qc (id:=7) Jx [] (by kernel_rfl) ?_;simp [-zg,-zd,↓Qb,↓Qa,go_sem,wrapS (k:=i) (by omega)]
 | ((obtain rfl:i = ll.length:=by omega);(refine Xe 8 ?_);(have hT:(ll.map fun x=>[x]).take ll.length = ll.map fun x=>[x]:=(by rw [List.take_of_length_le];simp)));refine Qc (id:=9) Jx [] (by kernel_rfl) ?_;simp [-zg,-zd,↓Qb,↓Qa,go_sem,(show ll.length ≤ 1048577 by omega),hT]
 | refine Qd (c:=.tmp 17) ?_;simp [-zg,-zd,↓Qb,↓Qa,go_sem];try first | (refine ⟨?_,?_⟩ <;> refine zA ?_) | (refine ⟨fun c17=>?_,fun c17=>?_⟩ <;> (try simp [B_iff,B_not] at c17))
 | refine Qd (c:=.tmp 23) ?_;simp [-zg,-zd,↓Qb,↓Qa,go_sem];try first | (refine ⟨?_,?_⟩ <;> refine zA ?_) | (refine ⟨fun c23=>?_,fun c23=>?_⟩ <;> (try simp [B_iff,B_not] at c23))
 | (refine Qg (id:=0) (Qx (ι:=Nat) (fun i:Nat=>⟨(upd (upd (upd (fun _=>.any) 6 (li cI ll)) 8 (.fr 1 i (cat oL ((ll.map fun x=>[x]).take i)))) 9 (.int .i64 i)),fun _=>none⟩) (fun i=>i ≤ ll.length) (fun i=>ll.length - i) (0) ?_ ?_ ?_);exact Nat.zero_le _;((repeat' (first | exact Qh (by assumption) | exact Qj | refine Qk ?_ ?_ | refine Qi ?_)) <;> simp [-zg,-zd,↓Qb,↓Qa,go_sem,Xl]);rintro i hi)
 | (refine ⟨i + 1,by omega,by first | omega | (simp;done) | (simp;omega),?_⟩;((repeat' (first | exact Qh (by assumption) | exact Qj | refine Qk ?_ ?_ | refine Qi ?_)) <;> simp [-zg,-zd,↓Qb,↓Qa,go_sem,e8]))
 | (refine Qg ?_)
 | (refine Qs ?_;simp [-zg,-zd,↓Qb,↓Qa,go_sem])
 | (refine Qr ?_;simp [-zg,-zd,↓Qb,↓Qa,go_sem])
 | (refine Qq ?_;try simp [-zg,-zd,↓Qb,↓Qa,go_sem,Tryz.results64])
 | (intro hx;refine zA ?_)
 | (intro hx;change retR _ _ _ _ _)
 | (refine ⟨?_,?_⟩ <;> refine zA ?_)
 | (intro hx;constructor <;> intro hs)
 | (constructor <;> intro hs)
 | (refine ⟨?_,fun hs=>?_⟩;refine zA ?_)
 | (refine ⟨fun hs=>?_,?_⟩;rotate_left;refine zA ?_;rotate_left)))
  all_goals (first
 | (refine zagb _ _ _ (([],false)) ?_ ?_ ?_;(first | exact Or.inl rfl | exact Or.inr rfl);(focus (simp [-zg,-zd,↓Qb,↓Qa,go_sem,Tryz.results64];done));(focus ((simp [zaab]);done)))
 | (refine zagb _ _ _ ((numK (ll.map fun x=>[x]),true)) ?_ ?_ ?_;(first | exact Or.inl rfl | exact Or.inr rfl);(focus (simp [-zg,-zd,↓Qb,↓Qa,go_sem,Tryz.results64,hT];done));(focus ((intro _;exact ⟨hG,_,rfl,by simp [hll]⟩);done)))
 | skip)
@[go_sem] def zahb:Con:=.prel fun
  | [.st [.list n_a c_a,.list n_b c_b],.list n_xs c_xs]=>((Is cP n_a c_a) ∧ (Is cL n_b c_b) ∧ (Is cX n_xs c_xs),fun c=>zaap (zabd (de cP c_a) (de cL c_b) (de cX c_xs) c))
  | _=>(False,fun _=>.any)
theorem zanr:ConOk Tryz.prog 64 zahb:=by
  refine ⟨Qo Tryz.func64 (by decide) rfl,fun args h=>?_⟩
  revert h
  dsimp only
  split
  · intro h
    obtain ⟨⟨a,rfl,rfl⟩,⟨b,rfl,rfl⟩,⟨xs,rfl,rfl⟩⟩:=h
    try simp only [Qm] at *
    exact ⟨zams a b xs ,fun c=>by simp [go_sem]⟩
  · intro h
    exact h.elim
@[go_sem] def Γm6:FuncId → Con:=ext Γm5 64 zahb
theorem Uq:∀ g,ConOk Tryz.prog g (Γm6 g):=Qn Jx zanr

theorem GraphOk.ref {a:List Ints2} {b:List (List Int)} (h:GraphOk a b):RefOk b a.length:=by
  obtain ⟨h1,h2,h3,h4,h5⟩:=h
  refine ⟨h3,fun j hj=>?_⟩
  have hd:=(h5 j (by omega)).2
  have hl:=hd.len
  exact ⟨by omega,fun k hk=>⟨(hd.at hk).1,(hd.at hk).2.1⟩⟩

@[go_sem] def Wb:List Int × Bool → D:=fun x=>.tup [li cI x.1,.bool x.2]
theorem zajv (x:List Int × Bool):dat (Wb x) = Wb x:=by simp [go_sem]
def Wa (a:List Ints2) (b:List (List Int)) (xs:List Tree):List Int × Bool → Prop:=fun x=>x.1.length ≤ 60
def zacj (a:List Ints2) (b:List (List Int)) (xs:List Tree) (x:(List Int × Bool) × D):Prop:=Wa a b xs x.1 ∧ dat x.2 = Wb x.1
def zabe (a:List Ints2) (b:List (List Int)) (xs:List Tree) (c:Any):(List Int × Bool) × D:=sel (zacj a b xs) ((([],false):List Int × Bool),Wb (([],false))) c
def zadi (a:List Ints2) (b:List (List Int)) (xs:List Tree) (c:Any):List Int × Bool:=(zabe a b xs c).1
theorem zafm (a:List Ints2) (b:List (List Int)) (xs:List Tree)  (c:Any):zacj a b xs (zabe a b xs c):=by
  have hx:Wa a b xs (([],false)):=by simp [Wa]
  exact Xz (p:=zacj a b xs) (x0:=((([],false):List Int × Bool),Wb (([],false)))) ⟨hx,zajv _⟩ c
theorem zanv (a:List Ints2) (b:List (List Int)) (xs:List Tree)  (c:Any):Wa a b xs (zadi a b xs c):=(zafm a b xs  c).1
theorem zafl (a:List Ints2) (b:List (List Int)) (xs:List Tree) {e_:Exit} {S_:St} (x:List Int × Bool) (he_:e_ = .ret ∨ e_ = .normal)
    (h1:(Qf Tryz.prog S_ Tryz.f43.results.toList).1 ∧ dat (resD (Qf Tryz.prog S_ Tryz.f43.results.toList).2.1) = Wb x) (hg:Wa a b xs x) :
    retR Tryz.prog Tryz.f43 (fun c=>((zabe a b xs c).2,fun _=>none)) e_ S_ :=
  Xy (good:=zacj a b xs) (enc:=fun x:(List Int × Bool) × D=>x.2) (x,resD (Qf Tryz.prog S_ Tryz.f43.results.toList).2.1) he_ ⟨h1.1,rfl⟩ ⟨hg,h1.2⟩
set_option maxHeartbeats 1000000 in
theorem zaju (a:List Ints2) (b:List (List Int)) (xs:List Tree)  : SpecR Tryz.prog 43 [.st [li cP a,li cL b],li cX xs] (fun _=>none) (fun c=>((zabe a b xs c).2,fun _=>none)):=by
  refine SpecR.of_walk Tryz.func43 rfl (by simp [Tryz.f43]) fun B=>?_
  (repeat' (first
 | refine Qt ?_
 | refine Qc (id:=0) Uq [] (by kernel_rfl) ?_;simp [-zg,-zd,↓Qb,↓Qa,go_sem];try (refine Xe 2 ?_;simp [go_sem])
 | refine Qc (id:=1) Uq [] (by kernel_rfl) ?_;simp [-zg,-zd,↓Qb,↓Qa,go_sem];try (intro c1;have h1:=LabelBlocks_ok a b xs c1;generalize zabd a b xs c1 = z at *;obtain ⟨ll,ok⟩:=z;simp only [zaab] at h1;rcases ok with _ | _;rotate_left 1;(obtain ⟨hG,K0,hK0,hK1⟩:=h1 rfl);all_goals (refine Xe 6 ?_;simp [go_sem]))
 | refine Qc (id:=2) Uq [] (by kernel_rfl) ?_;simp [-zg,-zd,↓Qb,↓Qa,go_sem]
 | refine Qc (id:=3) Uq [] (by kernel_rfl) ?_;simp [-zg,-zd,↓Qb,↓Qa,go_sem]
 | ((have hrk:RefOk b (numK K).length:=(by rw [Up,hk];exact hG.ref));(have hnk:(numK K).length ≤ 1048576:=(by rw [Up,hk];have:=hG.2.1;omega)));refine Qc (id:=4) Uq [] (by kernel_rfl) ?_;simp [-zg,-zd,↓Qb,↓Qa,go_sem,hrk,hnk];try (refine Xe 8 ?_;simp [go_sem])
 | refine Qc (id:=5) Uq [] (by kernel_rfl) ?_;simp [-zg,-zd,↓Qb,↓Qa,go_sem]
 | refine Qc (id:=6) Uq [] (by kernel_rfl) ?_;simp [-zg,-zd,↓Qb,↓Qa,go_sem]
 | ((have hmm:=refE_more b K c23);(have hkf:=zagu b (numK K) K.length));refine Qc (id:=7) Uq [] (by kernel_rfl) ?_;simp [-zg,-zd,↓Qb,↓Qa,go_sem]
 | refine Qd (c:=.tmp 16) ?_;simp [-zg,-zd,↓Qb,↓Qa,go_sem];try first | (refine ⟨?_,?_⟩ <;> refine zA ?_) | (refine ⟨fun c16=>?_,fun c16=>?_⟩ <;> (try simp [B_iff,B_not] at c16))
 | refine Qd (c:=.tmp 23) ?_;simp [-zg,-zd,↓Qb,↓Qa,go_sem];try first | (refine ⟨?_,?_⟩ <;> refine zA ?_) | (refine ⟨fun c23=>?_,fun c23=>?_⟩ <;> (try simp [B_iff,B_not] at c23))
 | (refine Qg (id:=0) (Qx (ι:=List (List Int)) (fun K:List (List Int)=>⟨(upd (upd (fun _=>.any) 2 (.pd [li cP a,li cL b])) 6 (li cI (numK K))),fun _=>none⟩) (fun K=>K.length = a.length) (fun K=>K.length - blkN K) (K0) ?_ ?_ ?_);exact hK1;((repeat' (first | exact Qh (by assumption) | exact Qj | refine Qk ?_ ?_ | refine Qi ?_)) <;> simp [-zg,-zd,↓Qb,↓Qa,go_sem,hK0]);rintro K hk)
 | (refine ⟨keyF b (numK K) K.length,(hkf.trans hk),by first | omega | (simp;done) | (simp;omega),?_⟩;((repeat' (first | exact Qh (by assumption) | exact Qj | refine Qk ?_ ?_ | refine Qi ?_)) <;> simp [-zg,-zd,↓Qb,↓Qa,go_sem,refE_num]))
 | (refine Qg ?_)
 | (refine Qs ?_;simp [-zg,-zd,↓Qb,↓Qa,go_sem])
 | (refine Qr ?_;simp [-zg,-zd,↓Qb,↓Qa,go_sem])
 | (refine Qq ?_;try simp [-zg,-zd,↓Qb,↓Qa,go_sem,Tryz.results43])
 | (intro hx;refine zA ?_)
 | (intro hx;change retR _ _ _ _ _)
 | (refine ⟨?_,?_⟩ <;> refine zA ?_)
 | (intro hx;constructor <;> intro hs)
 | (constructor <;> intro hs)
 | (refine ⟨?_,fun hs=>?_⟩;refine zA ?_)
 | (refine ⟨fun hs=>?_,?_⟩;rotate_left;refine zA ?_;rotate_left)))
  all_goals (first
 | (refine zafl _ _ _ (([],false)) ?_ ?_ ?_;(first | exact Or.inl rfl | exact Or.inr rfl);(focus (simp [-zg,-zd,↓Qb,↓Qa,go_sem,Tryz.results43];done));(focus ((simp [Wa]);done)))
 | (refine zafl _ _ _ ((numK K,true)) ?_ ?_ ?_;(first | exact Or.inl rfl | exact Or.inr rfl);(focus (simp [-zg,-zd,↓Qb,↓Qa,go_sem,Tryz.results43];done));(focus ((simp only [Wa,Up];have:=hG.2.1;omega);done)))
 | skip)
@[go_sem] def zafn:Con:=.rel fun args H=>match args with
  | [.st [.list n_a c_a,.list n_b c_b],.list n_xs c_xs]=>((Is cP n_a c_a) ∧ (Is cL n_b c_b) ∧ (Is cX n_xs c_xs),fun c=>(Wb (zadi (de cP c_a) (de cL c_b) (de cX c_xs) c),H))
  | _=>(False,fun _=>(.any,H))
theorem zamv:ConOk Tryz.prog 43 zafn:=by
  refine ⟨Qo Tryz.func43 (by decide) rfl,fun args H h=>?_⟩
  revert h
  dsimp only
  split
  · intro h
    obtain ⟨⟨a,rfl,rfl⟩,⟨b,rfl,rfl⟩,⟨xs,rfl,rfl⟩⟩:=h
    try simp only [Qm] at *
    exact SpecR.enc ((SpecR.frame0 (zaju a b xs ) (H:=H)).shut) fun c=>Prod.ext (zafm _ _ _  c).2.symm rfl
  · intro h
    exact h.elim
@[go_sem] def Γm7:FuncId → Con:=ext Γm6 43 zafn
theorem Vr:∀ g,ConOk Tryz.prog g (Γm7 g):=Qn Uq zamv

end
end Go.Proofs.YtmiimodggpjkmaaGreat.Vm

