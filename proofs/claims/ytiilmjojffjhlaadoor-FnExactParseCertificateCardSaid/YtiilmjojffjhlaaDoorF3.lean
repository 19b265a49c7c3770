import Derived.Test.YtiilmjojffjhlaaDoorCat
/-
  Lists of numbers: the walks of the functions of the law's own kit. No conditions.
-/
namespace Go.Proofs.YtiilmjojffjhlaaDoor.Vm
open Go
open Nat renaming sub_pos_of_lt → zsP
open List renaming getD_eq_getElem?_getD → zg,drop_one → zd
noncomputable section
set_option linter.unusedVariables false
set_option linter.unusedSimpArgs false
set_option maxRecDepth 200000

def NoneTill (p:Nat → Bool) (k:Nat):Prop:=∀ i,i < k → p i = false
theorem NoneTill.zero (p:Nat → Bool):NoneTill p 0:=fun _ h=>absurd h (by omega)
theorem NoneTill.succ {p:Nat → Bool} {k:Nat} (h:NoneTill p k) (e:p k = false):NoneTill p (k + 1):=fun i hi=>by
  rcases Nat.lt_or_ge i k with h1 | h1
  · exact h i h1
  · obtain rfl:i = k:=by omega
    exact e
def neAt {α:Type} [DecidableEq α] [Inhabited α] (xs ys:List α) (i:Nat):Bool:=!decide (nth xs i = nth ys i)
theorem eq_of_none {α:Type} [DecidableEq α] [Inhabited α] {xs ys:List α} {k:Nat} (hl:xs.length = ys.length) (h:NoneTill (neAt xs ys) k) (hk:xs.length ≤ k):xs = ys:=by
  apply List.ext_getElem hl
  intro i h1 h2
  have:=h i (by omega)
  simp [neAt,Qs h1,Qs h2] at this
  exact this
theorem in_pure (n:Int) (lo:Int) (hi:Int)  : Pure Tryd.prog 25 [.int .i64 n,.int .i64 lo,.int .i64 hi] (.bool (decide (lo ≤ n) && decide (n ≤ hi))):=by
  refine Pure.of_walk Tryd.func25 rfl (by simp [Tryd.f25]) (by simp [-zd,go_sem]) fun B hK=>?_
  (repeat' (first
 | refine Xe ?_
 | refine Qd (id:=0) Γ0_ok [] (by kernel_rfl) ?_;simp [-zg,-zd,↓Qb,↓Qa,go_sem]
 | refine Qd (id:=1) Γ0_ok [10] (by kernel_rfl) ?_;simp [-zg,-zd,↓Qb,↓Qa,go_sem];try (refine ⟨fun s1a=>?_,fun s1a=>?_⟩ <;> (try simp [B_iff,B_not] at s1a) <;> try (refine ⟨fun s1b=>?_,fun s1b=>?_⟩ <;> (try simp [B_iff,B_not] at s1b)))
 | (refine Qq ?_)
 | (refine Xd ?_;simp [-zg,-zd,↓Qb,↓Qa,go_sem])
 | (refine Xc ?_;simp [-zg,-zd,↓Qb,↓Qa,go_sem])
 | (refine Xf ?_;simp [-zg,-zd,↓Qb,↓Qa,go_sem,Tryd.results25])
 | (intro hx;refine zA ?_)
 | (refine ⟨?_,?_⟩ <;> refine zA ?_)
 | (intro hx;constructor <;> intro hs)
 | (constructor <;> intro hs)
 | (refine ⟨?_,fun hs=>?_⟩;refine zA ?_)
 | (refine ⟨fun hs=>?_,?_⟩;rotate_left;refine zA ?_;rotate_left)))
  all_goals (first
 | (intros;omega)
 | skip)
@[go_sem] def in_pureC:Con:=.pure fun
  | [.int .i64 n,.int .i64 lo,.int .i64 hi]=>(True,.bool (decide (lo ≤ n) && decide (n ≤ hi)))
  | _=>(False,.any)
theorem in_pureC_ok:ConOk Tryd.prog 25 in_pureC:=by
  refine ⟨Qz Tryd.func25 (by decide) rfl,fun args h=>?_⟩
  revert h
  dsimp only
  split
  · intro h
    skip
    skip
    exact ⟨in_pure _ _ _,by simp [go_sem]⟩
  · intro h
    exact h.elim
@[go_sem] def Γin:FuncId → Con:=ext Γ0 25 in_pureC
theorem Γin_ok:∀ g,ConOk Tryd.prog g (Γin g):=Xn Γ0_ok in_pureC_ok

@[go_sem] def Γ1:FuncId → Con:=Γin
theorem Γ1_ok:∀ g,ConOk Tryd.prog g (Γ1 g):=Γin_ok

theorem eqIntS_pure (xs:List Int) (ys:List Int)  : Pure Tryd.prog 15 [li cI xs,li cI ys] (.bool (decide (xs = ys))):=by
  refine Pure.of_walk Tryd.func15 rfl (by simp [Tryd.f15]) (by simp [-zd,go_sem]) fun B hK=>?_
  (repeat' (first
 | refine Xe ?_
 | (refine AW_len 0 rfl fun hm=>?_);refine Qd (id:=0) Γ1_ok [] (by kernel_rfl) ?_;simp [-zg,-zd,↓Qb,↓Qa,go_sem]
 | refine Qd (id:=1) Γ1_ok [] (by kernel_rfl) ?_;simp [-zg,-zd,↓Qb,↓Qa,go_sem]
 | refine Qd (id:=2) Γ1_ok [] (by kernel_rfl) ?_;simp [-zg,-zd,↓Qb,↓Qa,go_sem]
 | refine Qd (id:=3) Γ1_ok [] (by kernel_rfl) ?_;simp [-zg,-zd,↓Qb,↓Qa,go_sem]
 | refine Qd (id:=4) Γ1_ok [] (by kernel_rfl) ?_;simp [-zg,-zd,↓Qb,↓Qa,go_sem]
 | (have cy:k < ys.length:=by omega);refine AW_region_draw (id:=6) Γ1_ok mixed [] [5] (by kernel_rfl) (by kernel_rfl) (by simp [-zg,-zd,↓Qb,↓Qa,go_sem,c14,Xw c14,zsP c14,cy,Xw cy,zsP cy]) ?_;simp [-zg,-zd,↓Qb,↓Qa,go_sem,c14,Xw c14,zsP c14,cy,Xw cy,zsP cy]
 | refine Qd (id:=7) Γ1_ok [] (by kernel_rfl) ?_;simp [-zg,-zd,↓Qb,↓Qa,go_sem]
 | refine Qd (id:=5) Γ1_ok [] (by kernel_rfl) ?_;simp [-zg,-zd,↓Qb,↓Qa,go_sem,wrapS (k:=k) (by omega)]
 | refine Qd (id:=8) Γ1_ok [] (by kernel_rfl) ?_;simp [-zg,-zd,↓Qb,↓Qa,go_sem]
 | refine Qm (c:=.tmp 10) ?_;simp [-zg,-zd,↓Qb,↓Qa,go_sem];try first | (refine ⟨?_,?_⟩ <;> refine zA ?_) | (refine ⟨fun c10=>?_,fun c10=>?_⟩ <;> (try simp [B_iff,B_not] at c10))
 | refine Qm (c:=.tmp 14) ?_;simp [-zg,-zd,↓Qb,↓Qa,go_sem];try first | (refine ⟨?_,?_⟩ <;> refine zA ?_) | (refine ⟨fun c14=>?_,fun c14=>?_⟩ <;> (try simp [B_iff,B_not] at c14))
 | refine Qm (c:=.tmp 25) ?_;simp [-zg,-zd,↓Qb,↓Qa,go_sem];try first | (refine ⟨?_,?_⟩ <;> refine zA ?_) | (refine ⟨fun c25=>?_,fun c25=>?_⟩ <;> (try simp [B_iff,B_not] at c25))
 | (refine Qq (id:=0) (zaec (ι:=Nat) (fun k:Nat=>⟨(upd (upd (upd (fun _=>.any) 0 (li cI xs)) 1 (li cI ys)) 5 (.int .i64 k)),fun _=>none⟩) (fun k=>k ≤ xs.length ∧ NoneTill (neAt xs ys) k) (fun k=>xs.length - k) (0) ?_ ?_ ?_);exact ⟨Nat.zero_le _,.zero _⟩;((repeat' (first | exact Xi (by assumption) | exact Xk | refine Xm ?_ ?_ | refine Xj ?_)) <;> simp [-zg,-zd,↓Qb,↓Qa,go_sem]);rintro k ⟨hk,ht⟩)
 | (refine ⟨k + 1,⟨by omega,ht.succ (by simp [neAt,c25])⟩,by first | omega | (simp;done) | (simp;omega),?_⟩;((repeat' (first | exact Xi (by assumption) | exact Xk | refine Xm ?_ ?_ | refine Xj ?_)) <;> simp [-zg,-zd,↓Qb,↓Qa,go_sem]))
 | (refine Qq ?_)
 | (refine Xd ?_;simp [-zg,-zd,↓Qb,↓Qa,go_sem])
 | (refine Xc ?_;simp [-zg,-zd,↓Qb,↓Qa,go_sem])
 | (refine Xf ?_;simp [-zg,-zd,↓Qb,↓Qa,go_sem,Tryd.results15])
 | (intro hx;refine zA ?_)
 | (refine ⟨?_,?_⟩ <;> refine zA ?_)
 | (intro hx;constructor <;> intro hs)
 | (constructor <;> intro hs)
 | (refine ⟨?_,fun hs=>?_⟩;refine zA ?_)
 | (refine ⟨fun hs=>?_,?_⟩;rotate_left;refine zA ?_;rotate_left)))
  all_goals (first
 | (rintro rfl;simp at c10;done)
 | (rintro rfl;exact c25 rfl)
 | exact eq_of_none (by omega) ht (by omega)
 | skip)
@[go_sem] def zabs:Con:=.pure fun
  | [.list n_xs c_xs,.list n_ys c_ys]=>((Is cI n_xs c_xs) ∧ (Is cI n_ys c_ys),.bool (decide ((de cI c_xs) = (de cI c_ys))))
  | _=>(False,.any)
theorem zaem:ConOk Tryd.prog 15 zabs:=by
  refine ⟨Qz Tryd.func15 (by decide) rfl,fun args h=>?_⟩
  revert h
  dsimp only
  split
  · intro h
    obtain ⟨⟨xs,rfl,rfl⟩,⟨ys,rfl,rfl⟩⟩:=h
    try simp only [Xt] at *
    exact ⟨eqIntS_pure xs ys,by simp [go_sem]⟩
  · intro h
    exact h.elim
@[go_sem] def Γ2:FuncId → Con:=ext Γ1 15 zabs
theorem Γ2_ok:∀ g,ConOk Tryd.prog g (Γ2 g):=Xn Γ1_ok zaem

@[go_sem] def Γ3:FuncId → Con:=Γ2
theorem Γ3_ok:∀ g,ConOk Tryd.prog g (Γ3 g):=Γ2_ok

def msum {α:Type} (m:α → Nat) (xs:List α) (k:Nat):Nat:=((xs.take k).map m).sum
section
variable {α:Type} {m:α → Nat}
@[go_sem] theorem msum_zero (xs:List α):msum m xs 0 = 0:=by simp [msum]
end
def AllTill (p:Nat → Prop) (k:Nat):Prop:=∀ i,i < k → p i
theorem AllTill.zero (p:Nat → Prop):AllTill p 0:=fun _ h=>absurd h (by omega)
theorem AllTill.succ {p:Nat → Prop} {k:Nat} (h:AllTill p k) (e:p k):AllTill p (k + 1):=fun i hi=>by
  rcases Nat.lt_or_ge i k with h1 | h1
  · exact h i h1
  · obtain rfl:i = k:=by omega
    exact e
section
variable {α:Type} [Inhabited α] {p:α → Bool} {xs:List α} {k:Nat}
theorem mem_nth {x:α}:(x ∈ xs) = (∃ i,i < xs.length ∧ nth xs i = x):=by
  rw [eq_iff_iff]
  constructor
  · intro h
    obtain ⟨i,hi,rfl⟩:=List.getElem_of_mem h
    exact ⟨i,hi,Qs hi⟩
  · rintro ⟨i,hi,rfl⟩;exact nth_mem hi
theorem nth_take {j:Nat} (h:j < k):nth (xs.take k) j = nth xs j:=by simp [nth,List.getD_eq_getElem?_getD,List.getElem?_take,h]
end


@[go_sem] def Γ4:FuncId → Con:=Γ3
theorem Γ4_ok:∀ g,ConOk Tryd.prog g (Γ4 g):=Γ3_ok

@[go_sem] def Γ5:FuncId → Con:=Γ4
theorem Γ5_ok:∀ g,ConOk Tryd.prog g (Γ5 g):=Γ4_ok

@[go_sem] def Γ6:FuncId → Con:=Γ5
theorem Γ6_ok:∀ g,ConOk Tryd.prog g (Γ6 g):=Γ5_ok

@[go_sem] def Γ7:FuncId → Con:=Γ6
theorem Γ7_ok:∀ g,ConOk Tryd.prog g (Γ7 g):=Γ6_ok

@[go_sem] def Γ8:FuncId → Con:=Γ7
theorem Γ8_ok:∀ g,ConOk Tryd.prog g (Γ8 g):=Γ7_ok

@[go_sem] def Γ9:FuncId → Con:=Γ8
theorem Γ9_ok:∀ g,ConOk Tryd.prog g (Γ9 g):=Γ8_ok

@[go_sem] def Γ10:FuncId → Con:=Γ9
theorem Γ10_ok:∀ g,ConOk Tryd.prog g (Γ10 g):=Γ9_ok

@[go_sem] def Γ11:FuncId → Con:=Γ10
theorem Γ11_ok:∀ g,ConOk Tryd.prog g (Γ11 g):=Γ10_ok

@[go_sem] def Γ12:FuncId → Con:=Γ11
theorem Γ12_ok:∀ g,ConOk Tryd.prog g (Γ12 g):=Γ11_ok


@[go_sem] def Γ13:FuncId → Con:=Γ12
theorem Γ13_ok:∀ g,ConOk Tryd.prog g (Γ13 g):=Γ12_ok

@[go_sem] def Γ14:FuncId → Con:=Γ13
theorem Γ14_ok:∀ g,ConOk Tryd.prog g (Γ14 g):=Γ13_ok

@[go_sem] def Γ15:FuncId → Con:=Γ14
theorem Γ15_ok:∀ g,ConOk Tryd.prog g (Γ15 g):=Γ14_ok

@[go_sem] def Γ16:FuncId → Con:=Γ15
theorem Γ16_ok:∀ g,ConOk Tryd.prog g (Γ16 g):=Γ15_ok

@[go_sem] def Γ17:FuncId → Con:=Γ16
theorem Γ17_ok:∀ g,ConOk Tryd.prog g (Γ17 g):=Γ16_ok

@[go_sem] def Γ18:FuncId → Con:=Γ17
theorem Γ18_ok:∀ g,ConOk Tryd.prog g (Γ18 g):=Γ17_ok

@[go_sem] def Γ19:FuncId → Con:=Γ18
theorem Γ19_ok:∀ g,ConOk Tryd.prog g (Γ19 g):=Γ18_ok

@[go_sem] def Γ20:FuncId → Con:=Γ19
theorem Γ20_ok:∀ g,ConOk Tryd.prog g (Γ20 g):=Γ19_ok

@[go_sem] def Γ21:FuncId → Con:=Γ20
theorem Γ21_ok:∀ g,ConOk Tryd.prog g (Γ21 g):=Γ20_ok

@[go_sem] def Γ22:FuncId → Con:=Γ21
theorem Γ22_ok:∀ g,ConOk Tryd.prog g (Γ22 g):=Γ21_ok

@[go_sem] def Γ23:FuncId → Con:=Γ22
theorem Γ23_ok:∀ g,ConOk Tryd.prog g (Γ23 g):=Γ22_ok
end
end Go.Proofs.YtiilmjojffjhlaaDoor.Vm

