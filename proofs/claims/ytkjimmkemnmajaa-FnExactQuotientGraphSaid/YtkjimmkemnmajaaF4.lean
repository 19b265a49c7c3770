/-
  Valid graphs, both ways. No conditions.
-/
import Derived.Test.YtkjimmkemnmajaaF3
namespace Go.Proofs.Ytkjimmkemnmajaa.Vm
open Go
open Nat renaming sub_pos_of_lt → zsP
open List renaming getD_eq_getElem?_getD → zg,drop_one → zd
noncomputable section
set_option linter.unusedVariables false
set_option linter.unusedSimpArgs false
set_option maxRecDepth 200000

def ValsOk (xs:List Int):Prop:=xs.length = 3 ∧ ∀ i,i < xs.length → 0 ≤ nth xs i ∧ nth xs i ≤ 3
def Dist (xs:List Int) (n:Int):Prop:=∀ i,i < xs.length → 0 ≤ nth xs i ∧ nth xs i ≤ n - 1 ∧ ¬ nth xs i ∈ xs.take i
theorem pigeon:∀ (n:Nat) (xs:List Int),xs.Nodup → (∀ x ∈ xs,0 ≤ x ∧ x < n) → xs.length ≤ n
  | 0,xs,_,h=>by
    cases xs with
    | nil=>simp
    | cons x xs=>have:=h x (by simp);omega
  | n + 1,xs,hn,h=>by
    have:=pigeon n (xs.erase n) (hn.erase _) fun x hx=>by
      have h1:=h x (List.mem_of_mem_erase hx)
      have h2:x ≠ n:=fun e=>by subst e;exact (List.Nodup.not_mem_erase hn) hx
      omega
    rw [List.length_erase] at this
    split at this <;> omega
theorem Dist.nodup {xs:List Int} {n:Int} (h:Dist xs n):xs.Nodup:=by
  rw [List.nodup_iff_pairwise_ne,List.pairwise_iff_getElem]
  intro i j hi hj hij e
  have:=(h j hj).2.2
  apply this
  rw [Jx]
  exact ⟨i,by simp;omega,by rw [zafy hij,Qt hi,Qt hj,e]⟩
theorem Dist.len {xs:List Int} {n:Nat} (h:Dist xs n):xs.length ≤ n :=
  pigeon n xs h.nodup fun x hx=>by
    rw [Jx] at hx
    obtain ⟨i,hi,rfl⟩:=hx
    have:=h i hi
    omega
def GraphOk (a:List Ints2) (b:List (List Int)):Prop :=
  1 ≤ a.length ∧ a.length ≤ 60 ∧ b.length = a.length ∧ (∀ i,i < a.length → ValsOk (nth a i).2) ∧ ∀ i,i < b.length → 1 ≤ (nth b i).length ∧ Dist (nth b i) a.length

theorem l1Vals_pure (xs:List Int)  : Pure Try.prog 208 [li cI xs] (.bool (B (ValsOk xs))):=by
  refine Pure.of_walk Try.func208 rfl (by simp [Try.f208]) (by simp [-zd,go_sem]) fun B hK=>?_
  (repeat' (first
 | refine Qr ?_
 | (refine Xn 0 rfl fun hm=>?_);refine Qc (id:=0) Ju [] (by kernel_rfl) ?_;simp [-zg,-zd,↓Qb,↓Qa,go_sem]
 | refine Qc (id:=1) Ju [] (by kernel_rfl) ?_;simp [-zg,-zd,↓Qb,↓Qa,go_sem]
 | refine Qc (id:=2) Ju [] (by kernel_rfl) ?_;simp [-zg,-zd,↓Qb,↓Qa,go_sem]
 | refine Qc (id:=4) Ju [15] (by kernel_rfl) ?_;simp [-zg,-zd,↓Qb,↓Qa,go_sem,c7,Qh c7,zsP c7];try (refine ⟨fun s4a=>?_,fun s4a=>?_⟩ <;> (try simp [B_iff,B_not] at s4a) <;> try (refine ⟨fun s4b=>?_,fun s4b=>?_⟩ <;> (try simp [B_iff,B_not] at s4b)))
 | refine Qc (id:=5) Ju [] (by kernel_rfl) ?_;simp [-zg,-zd,↓Qb,↓Qa,go_sem]
 | refine Qc (id:=3) Ju [] (by kernel_rfl) ?_;simp [-zg,-zd,↓Qb,↓Qa,go_sem,wrapS (k:=k) (by omega)]
 | refine Qc (id:=6) Ju [] (by kernel_rfl) ?_;simp [-zg,-zd,↓Qb,↓Qa,go_sem]
 | refine Qe (c:=.tmp 7) ?_;simp [-zg,-zd,↓Qb,↓Qa,go_sem];try first | (refine ⟨?_,?_⟩ <;> refine zA ?_) | (refine ⟨fun c7=>?_,fun c7=>?_⟩ <;> (try simp [B_iff,B_not] at c7))
 | refine Qe (c:=.tmp 21) ?_;simp [-zg,-zd,↓Qb,↓Qa,go_sem];try first | (refine ⟨?_,?_⟩ <;> refine zA ?_) | (refine ⟨fun c21=>?_,fun c21=>?_⟩ <;> (try simp [B_iff,B_not] at c21))
 | (refine Qf (id:=0) (Xa (ι:=Nat) (fun k:Nat=>⟨(upd (upd (fun _=>.any) 0 (li cI xs)) 3 (.int .i64 k)),fun _=>none⟩) (fun k=>k ≤ xs.length ∧ AllTill (fun i=>0 ≤ nth xs i ∧ nth xs i ≤ 3) k) (fun k=>xs.length - k) (0) ?_ ?_ ?_);exact ⟨Nat.zero_le _,.zero _⟩;((repeat' (first | exact Qi (by assumption) | exact Qk | refine Ql ?_ ?_ | refine Qj ?_)) <;> simp [-zg,-zd,↓Qb,↓Qa,go_sem]);rintro k ⟨hk,ht⟩)
 | (refine ⟨k + 1,⟨by omega,ht.succ (by omega)⟩,by first | omega | (simp;done) | (simp;omega),?_⟩;((repeat' (first | exact Qi (by assumption) | exact Qk | refine Ql ?_ ?_ | refine Qj ?_)) <;> simp [-zg,-zd,↓Qb,↓Qa,go_sem]))
 | (refine Qf ?_)
 | (refine Qp ?_;simp [-zg,-zd,↓Qb,↓Qa,go_sem])
 | (refine Qo ?_;simp [-zg,-zd,↓Qb,↓Qa,go_sem])
 | (refine Qs ?_;simp [-zg,-zd,↓Qb,↓Qa,go_sem,Try.results208])
 | (intro hx;refine zA ?_)
 | (refine ⟨?_,?_⟩ <;> refine zA ?_)
 | (intro hx;constructor <;> intro hs)
 | (constructor <;> intro hs)
 | (refine ⟨?_,fun hs=>?_⟩;refine zA ?_)
 | (refine ⟨fun hs=>?_,?_⟩;rotate_left;refine zA ?_;rotate_left)))
  all_goals (first
 | (rintro ⟨_,h⟩;have:=h k c7;omega)
 | (rw [Bool.eq_iff_iff,B_iff,decide_eq_true_eq];exact ⟨fun h=>⟨by omega,fun i hi=>ht i (by omega)⟩,fun h=>by have:=h.1;omega⟩)
 | skip)
@[go_sem] def zadh:Con:=.pure fun
  | [.list n_xs c_xs]=>((Is cI n_xs c_xs),.bool (B (ValsOk (de cI c_xs))))
  | _=>(False,.any)
theorem zahh:ConOk Try.prog 208 zadh:=by
  refine ⟨Qm Try.func208 (by decide) rfl,fun args h=>?_⟩
  revert h
  dsimp only
  split
  · intro h
    obtain ⟨xs,rfl,rfl⟩:=h
    try simp only [Qu] at *
    exact ⟨l1Vals_pure xs,by simp [go_sem]⟩
  · intro h
    exact h.elim
@[go_sem] def Γ24:FuncId → Con:=ext Γ23 208 zadh
theorem Jt:∀ g,ConOk Try.prog g (Γ24 g):=Qq Ju zahh

theorem l4In_pure (xs:List Int) (n:Int)  : Pure Try.prog 97 [li cI xs,.int .i64 n] (.bool (B (n ∈ xs))):=by
  refine Pure.of_walk Try.func97 rfl (by simp [Try.f97]) (by simp [-zd,go_sem]) fun B hK=>?_
  (repeat' (first
 | refine Qr ?_
 | (refine Xn 0 rfl fun hm=>?_);refine Qc (id:=0) Jt [] (by kernel_rfl) ?_;simp [-zg,-zd,↓Qb,↓Qa,go_sem]
 | refine Qc (id:=1) Jt [] (by kernel_rfl) ?_;simp [-zg,-zd,↓Qb,↓Qa,go_sem]
 | refine Qc (id:=2) Jt [] (by kernel_rfl) ?_;simp [-zg,-zd,↓Qb,↓Qa,go_sem]
 | refine Qc (id:=4) Jt [] (by kernel_rfl) ?_;simp [-zg,-zd,↓Qb,↓Qa,go_sem,c9,Qh c9,zsP c9]
 | refine Qc (id:=5) Jt [] (by kernel_rfl) ?_;simp [-zg,-zd,↓Qb,↓Qa,go_sem]
 | refine Qc (id:=3) Jt [] (by kernel_rfl) ?_;simp [-zg,-zd,↓Qb,↓Qa,go_sem,wrapS (k:=k) (by omega)]
 | refine Qc (id:=6) Jt [] (by kernel_rfl) ?_;simp [-zg,-zd,↓Qb,↓Qa,go_sem]
 | refine Qe (c:=.tmp 9) ?_;simp [-zg,-zd,↓Qb,↓Qa,go_sem];try first | (refine ⟨?_,?_⟩ <;> refine zA ?_) | (refine ⟨fun c9=>?_,fun c9=>?_⟩ <;> (try simp [B_iff,B_not] at c9))
 | refine Qe (c:=.tmp 17) ?_;simp [-zg,-zd,↓Qb,↓Qa,go_sem];try first | (refine ⟨?_,?_⟩ <;> refine zA ?_) | (refine ⟨fun c17=>?_,fun c17=>?_⟩ <;> (try simp [B_iff,B_not] at c17))
 | (refine Qf (id:=0) (Xa (ι:=Nat) (fun k:Nat=>⟨(upd (upd (upd (fun _=>.any) 0 (li cI xs)) 1 (.int .i64 n)) 5 (.int .i64 k)),fun _=>none⟩) (fun k=>k ≤ xs.length ∧ AllTill (fun i=>¬ nth xs i = n) k) (fun k=>xs.length - k) (0) ?_ ?_ ?_);exact ⟨Nat.zero_le _,.zero _⟩;((repeat' (first | exact Qi (by assumption) | exact Qk | refine Ql ?_ ?_ | refine Qj ?_)) <;> simp [-zg,-zd,↓Qb,↓Qa,go_sem]);rintro k ⟨hk,ht⟩)
 | (refine ⟨k + 1,⟨by omega,ht.succ (by omega)⟩,by first | omega | (simp;done) | (simp;omega),?_⟩;((repeat' (first | exact Qi (by assumption) | exact Qk | refine Ql ?_ ?_ | refine Qj ?_)) <;> simp [-zg,-zd,↓Qb,↓Qa,go_sem]))
 | (refine Qf ?_)
 | (refine Qp ?_;simp [-zg,-zd,↓Qb,↓Qa,go_sem])
 | (refine Qo ?_;simp [-zg,-zd,↓Qb,↓Qa,go_sem])
 | (refine Qs ?_;simp [-zg,-zd,↓Qb,↓Qa,go_sem,Try.results97])
 | (intro hx;refine zA ?_)
 | (refine ⟨?_,?_⟩ <;> refine zA ?_)
 | (intro hx;constructor <;> intro hs)
 | (constructor <;> intro hs)
 | (refine ⟨?_,fun hs=>?_⟩;refine zA ?_)
 | (refine ⟨fun hs=>?_,?_⟩;rotate_left;refine zA ?_;rotate_left)))
  all_goals (first
 | (rw [Jx];exact ⟨k,c9,by omega⟩)
 | (rw [Jx];rintro ⟨i,h1,h2⟩;exact ht i (by omega) h2)
 | skip)
@[go_sem] def zagc:Con:=.pure fun
  | [.list n_xs c_xs,.int .i64 n]=>((Is cI n_xs c_xs),.bool (B (n ∈ (de cI c_xs))))
  | _=>(False,.any)
theorem l4In_pureC_ok:ConOk Try.prog 97 zagc:=by
  refine ⟨Qm Try.func97 (by decide) rfl,fun args h=>?_⟩
  revert h
  dsimp only
  split
  · intro h
    obtain ⟨xs,rfl,rfl⟩:=h
    try simp only [Qu] at *
    exact ⟨l4In_pure xs _,by simp [go_sem]⟩
  · intro h
    exact h.elim
@[go_sem] def Γ25:FuncId → Con:=ext Γ24 97 zagc
theorem Γ25_ok:∀ g,ConOk Try.prog g (Γ25 g):=Qq Jt l4In_pureC_ok

def Zb (n:Int):Bool:=!(decide (0 ≤ n) && decide (n ≤ 3))
theorem find_small {xs:List Int}:(0 ≤ findI Zb xs) = ¬ ∀ i,i < xs.length → 0 ≤ nth xs i ∧ nth xs i ≤ 3:=by
  rw [findI_ge,eq_iff_iff]
  constructor
  · rintro ⟨i,h,e⟩ k
    have:=k i h
    simp [Zb] at e
    omega
  · intro h
    apply Classical.byContradiction;intro h2
    apply h;intro i hi
    apply Classical.byContradiction;intro h3
    exact h2 ⟨i,hi,by simp [Zb];omega⟩

theorem valsOk1_pure (n:Int)  : Pure Try.prog 202 [.int .i64 n] (.bool (Zb n)):=by
  refine Pure.of_walk Try.func202 rfl (by simp [Try.f202]) (by simp [-zd,go_sem]) fun B hK=>?_
  (repeat' (first
 | refine Qr ?_
 | refine Qc (id:=0) Γ25_ok [] (by kernel_rfl) ?_;simp [-zg,-zd,↓Qb,↓Qa,go_sem,Zb]
 | refine Qc (id:=1) Γ25_ok [] (by kernel_rfl) ?_;simp [-zg,-zd,↓Qb,↓Qa,go_sem,Zb]
 | (refine Qf ?_)
 | (refine Qp ?_;simp [-zg,-zd,↓Qb,↓Qa,go_sem])
 | (refine Qo ?_;simp [-zg,-zd,↓Qb,↓Qa,go_sem])
 | (refine Qs ?_;simp [-zg,-zd,↓Qb,↓Qa,go_sem,Try.results202,Zb])
 | (intro hx;refine zA ?_)
 | (refine ⟨?_,?_⟩ <;> refine zA ?_)
 | (intro hx;constructor <;> intro hs)
 | (constructor <;> intro hs)
 | (refine ⟨?_,fun hs=>?_⟩;refine zA ?_)
 | (refine ⟨fun hs=>?_,?_⟩;rotate_left;refine zA ?_;rotate_left)))
@[go_sem] def zabx:Con:=.pure fun
  | [.int .i64 n]=>(True,.bool (Zb n))
  | _=>(False,.any)
theorem zaff:ConOk Try.prog 202 zabx:=by
  refine ⟨Qm Try.func202 (by decide) rfl,fun args h=>?_⟩
  revert h
  dsimp only
  split
  · intro h
    skip
    skip
    exact ⟨valsOk1_pure _,by simp [go_sem]⟩
  · intro h
    exact h.elim
@[go_sem] def Γ26:FuncId → Con:=ext Γ25 202 zabx
theorem Jl:∀ g,ConOk Try.prog g (Γ26 g):=Qq Γ25_ok zaff

theorem index118_pure (xs:List Int)   : Pure Try.prog 235 [li cI xs,.fn 202 []] (.int .i64 (findI (Zb) xs)):=by
  refine Pure.of_walk Try.func235 rfl (by simp [Try.f235]) (by simp [-zd,go_sem]) fun B hK=>?_
  (repeat' (first
 | refine Qr ?_
 | (refine Xn 0 rfl fun hm=>?_);refine Qc (id:=0) Jl [] (by kernel_rfl) ?_;simp [-zg,-zd,↓Qb,↓Qa,go_sem]
 | refine Qc (id:=1) Jl [] (by kernel_rfl) ?_;simp [-zg,-zd,↓Qb,↓Qa,go_sem]
 | refine Qc (id:=2) Jl [] (by kernel_rfl) ?_;simp [-zg,-zd,↓Qb,↓Qa,go_sem]
 | refine Qc (id:=3) Jl [] (by kernel_rfl) ?_;simp [-zg,-zd,↓Qb,↓Qa,go_sem]
 | refine Qc (id:=4) Jl [] (by kernel_rfl) ?_;simp [-zg,-zd,↓Qb,↓Qa,go_sem,c9,Qh c9,zsP c9]
 | refine Qc (id:=5) Jl [] (by kernel_rfl) ?_;simp [-zg,-zd,↓Qb,↓Qa,go_sem]
 | refine Qc (id:=6) Jl [] (by kernel_rfl) ?_;simp [-zg,-zd,↓Qb,↓Qa,go_sem,wrapS (k:=k) (by omega)]
 | refine Qc (id:=7) Jl [] (by kernel_rfl) ?_;simp [-zg,-zd,↓Qb,↓Qa,go_sem]
 | refine Qe (c:=.tmp 9) ?_;simp [-zg,-zd,↓Qb,↓Qa,go_sem];try first | (refine ⟨?_,?_⟩ <;> refine zA ?_) | (refine ⟨fun c9=>?_,fun c9=>?_⟩ <;> (try simp [B_iff,B_not] at c9))
 | refine Qe (c:=.tmp 16) ?_;simp [-zg,-zd,↓Qb,↓Qa,go_sem];try first | (refine ⟨?_,?_⟩ <;> refine zA ?_) | (refine ⟨fun c16=>?_,fun c16=>?_⟩ <;> (try simp [B_iff,B_not] at c16))
 | (refine Qf (id:=0) (Xa (ι:=Nat) (fun k:Nat=>⟨(upd (upd (upd (upd (upd (fun _=>.any) 0 (li cI xs)) 1 (.fn 202 [])) 6 (li cI xs)) 7 (.int .i64 xs.length)) 8 (.int .i64 k)),fun _=>none⟩) (fun k=>k ≤ xs.length ∧ NoneTill (fun i=>(Zb) (nth xs i)) k) (fun k=>xs.length - k) (0) ?_ ?_ ?_);exact ⟨Nat.zero_le _,.zero _⟩;((repeat' (first | exact Qi (by assumption) | exact Qk | refine Ql ?_ ?_ | refine Qj ?_)) <;> simp [-zg,-zd,↓Qb,↓Qa,go_sem]);rintro k ⟨hk,ht⟩)
 | (refine ⟨k + 1,⟨by omega,ht.succ (by simp_all)⟩,by first | omega | (simp;done) | (simp;omega),?_⟩;((repeat' (first | exact Qi (by assumption) | exact Qk | refine Ql ?_ ?_ | refine Qj ?_)) <;> simp [-zg,-zd,↓Qb,↓Qa,go_sem]))
 | (refine Qf ?_)
 | (refine Qp ?_;simp [-zg,-zd,↓Qb,↓Qa,go_sem])
 | (refine Qo ?_;simp [-zg,-zd,↓Qb,↓Qa,go_sem])
 | (refine Qs ?_;simp [-zg,-zd,↓Qb,↓Qa,go_sem,Try.results235])
 | (intro hx;refine zA ?_)
 | (refine ⟨?_,?_⟩ <;> refine zA ?_)
 | (intro hx;constructor <;> intro hs)
 | (constructor <;> intro hs)
 | (refine ⟨?_,fun hs=>?_⟩;refine zA ?_)
 | (refine ⟨fun hs=>?_,?_⟩;rotate_left;refine zA ?_;rotate_left)))
  all_goals (first
 | (rw [zagj ht c9 (by simp_all)])
 | (rw [zady ht (by omega)])
 | skip)
@[go_sem] def zabn:Con:=.pure fun
  | [.list n_xs c_xs,.fn 202 []]=>((Is cI n_xs c_xs),.int .i64 (findI (Zb) (de cI c_xs)))
  | _=>(False,.any)
theorem zaer:ConOk Try.prog 235 zabn:=by
  refine ⟨Qm Try.func235 (by decide) rfl,fun args h=>?_⟩
  revert h
  dsimp only
  split
  · intro h
    obtain ⟨xs,rfl,rfl⟩:=h
    try simp only [Qu] at *
    exact ⟨index118_pure xs ,by simp [go_sem]⟩
  · intro h
    exact h.elim
@[go_sem] def Γ27:FuncId → Con:=ext Γ26 235 zabn
theorem Γ27_ok:∀ g,ConOk Try.prog g (Γ27 g):=Qq Jl zaer

theorem zaei (xs:List Int)   : Pure Try.prog 201 [li cI xs,.fn 202 []] (.bool (decide (0 ≤ findI Zb xs))):=by
  refine Pure.of_walk Try.func201 rfl (by simp [Try.f201]) (by simp [-zd,go_sem]) fun B hK=>?_
  (repeat' (first
 | refine Qr ?_
 | refine Qc (id:=0) Γ27_ok [] (by kernel_rfl) ?_;simp [-zg,-zd,↓Qb,↓Qa,go_sem]
 | refine Qc (id:=1) Γ27_ok [] (by kernel_rfl) ?_;simp [-zg,-zd,↓Qb,↓Qa,go_sem]
 | (refine Qf ?_)
 | (refine Qp ?_;simp [-zg,-zd,↓Qb,↓Qa,go_sem])
 | (refine Qo ?_;simp [-zg,-zd,↓Qb,↓Qa,go_sem])
 | (refine Qs ?_;simp [-zg,-zd,↓Qb,↓Qa,go_sem,Try.results201])
 | (intro hx;refine zA ?_)
 | (refine ⟨?_,?_⟩ <;> refine zA ?_)
 | (intro hx;constructor <;> intro hs)
 | (constructor <;> intro hs)
 | (refine ⟨?_,fun hs=>?_⟩;refine zA ?_)
 | (refine ⟨fun hs=>?_,?_⟩;rotate_left;refine zA ?_;rotate_left)))
@[go_sem] def zaai:Con:=.pure fun
  | [.list n_xs c_xs,.fn 202 []]=>((Is cI n_xs c_xs),.bool (decide (0 ≤ findI Zb (de cI c_xs))))
  | _=>(False,.any)
theorem zacn:ConOk Try.prog 201 zaai:=by
  refine ⟨Qm Try.func201 (by decide) rfl,fun args h=>?_⟩
  revert h
  dsimp only
  split
  · intro h
    obtain ⟨xs,rfl,rfl⟩:=h
    try simp only [Qu] at *
    exact ⟨zaei xs ,by simp [go_sem]⟩
  · intro h
    exact h.elim
@[go_sem] def Γ28:FuncId → Con:=ext Γ27 201 zaai
theorem Γ28_ok:∀ g,ConOk Try.prog g (Γ28 g):=Qq Γ27_ok zacn

theorem valsOk_pure (xs:List Int)  : Pure Try.prog 155 [li cI xs] (.bool (B (ValsOk xs))):=by
  refine Pure.of_walk Try.func155 rfl (by simp [Try.f155]) (by simp [-zd,go_sem]) fun B hK=>?_
  (repeat' (first
 | refine Qr ?_
 | refine Qc (id:=0) Γ28_ok [] (by kernel_rfl) ?_;simp [-zg,-zd,↓Qb,↓Qa,go_sem]
 | refine Qc (id:=1) Γ28_ok [6] (by kernel_rfl) ?_;simp [-zg,-zd,↓Qb,↓Qa,go_sem];try (refine ⟨fun s1a=>?_,fun s1a=>?_⟩ <;> (try simp [B_iff,B_not] at s1a) <;> try (refine ⟨fun s1b=>?_,fun s1b=>?_⟩ <;> (try simp [B_iff,B_not] at s1b)))
 | (refine Qf ?_)
 | (refine Qp ?_;simp [-zg,-zd,↓Qb,↓Qa,go_sem])
 | (refine Qo ?_;simp [-zg,-zd,↓Qb,↓Qa,go_sem])
 | (refine Qs ?_;simp [-zg,-zd,↓Qb,↓Qa,go_sem,Try.results155])
 | (intro hx;refine zA ?_)
 | (refine ⟨?_,?_⟩ <;> refine zA ?_)
 | (intro hx;constructor <;> intro hs)
 | (constructor <;> intro hs)
 | (refine ⟨?_,fun hs=>?_⟩;refine zA ?_)
 | (refine ⟨fun hs=>?_,?_⟩;rotate_left;refine zA ?_;rotate_left)))
  all_goals (first
 | (intro h;have:=h.1;omega)
 | (rw [Bool.eq_iff_iff,decide_eq_true_eq,find_small,Bool.not_eq_true',B_not];exact ⟨fun h k=>h k.2,fun h k=>h ⟨by omega,k⟩⟩)
 | skip)
@[go_sem] def zacw:Con:=.pure fun
  | [.list n_xs c_xs]=>((Is cI n_xs c_xs),.bool (B (ValsOk (de cI c_xs))))
  | _=>(False,.any)
theorem zagx:ConOk Try.prog 155 zacw:=by
  refine ⟨Qm Try.func155 (by decide) rfl,fun args h=>?_⟩
  revert h
  dsimp only
  split
  · intro h
    obtain ⟨xs,rfl,rfl⟩:=h
    try simp only [Qu] at *
    exact ⟨valsOk_pure xs,by simp [go_sem]⟩
  · intro h
    exact h.elim
@[go_sem] def Γ29:FuncId → Con:=ext Γ28 155 zacw
theorem Γ29_ok:∀ g,ConOk Try.prog g (Γ29 g):=Qq Γ28_ok zagx

def Xy (s:Ints2):Bool:=!B (ValsOk s.2)

theorem zagg (a:List Int) (b:List Int)  : Pure Try.prog 154 [.st [li cI a,li cI b]] (.bool (Xy (a,b))):=by
  refine Pure.of_walk Try.func154 rfl (by simp [Try.f154]) (by simp [-zd,go_sem]) fun B hK=>?_
  (repeat' (first
 | refine Qr ?_
 | refine Qc (id:=0) Γ29_ok [] (by kernel_rfl) ?_;simp [-zg,-zd,↓Qb,↓Qa,go_sem,Xy];try (refine Xg hK 1 ?_;simp [go_sem])
 | refine Qc (id:=1) Γ29_ok [] (by kernel_rfl) ?_;simp [-zg,-zd,↓Qb,↓Qa,go_sem,Xy]
 | (refine Qf ?_)
 | (refine Qp ?_;simp [-zg,-zd,↓Qb,↓Qa,go_sem])
 | (refine Qo ?_;simp [-zg,-zd,↓Qb,↓Qa,go_sem])
 | (refine Qs ?_;simp [-zg,-zd,↓Qb,↓Qa,go_sem,Try.results154,Xy])
 | (intro hx;refine zA ?_)
 | (refine ⟨?_,?_⟩ <;> refine zA ?_)
 | (intro hx;constructor <;> intro hs)
 | (constructor <;> intro hs)
 | (refine ⟨?_,fun hs=>?_⟩;refine zA ?_)
 | (refine ⟨fun hs=>?_,?_⟩;rotate_left;refine zA ?_;rotate_left)))
@[go_sem] def zaaq:Con:=.pure fun
  | [.st [.list n_a c_a,.list n_b c_b]]=>((Is cI n_a c_a) ∧ (Is cI n_b c_b),.bool (Xy ((de cI c_a),(de cI c_b))))
  | _=>(False,.any)
theorem zado:ConOk Try.prog 154 zaaq:=by
  refine ⟨Qm Try.func154 (by decide) rfl,fun args h=>?_⟩
  revert h
  dsimp only
  split
  · intro h
    obtain ⟨⟨a,rfl,rfl⟩,⟨b,rfl,rfl⟩⟩:=h
    try simp only [Qu] at *
    exact ⟨zagg a b,by simp [go_sem]⟩
  · intro h
    exact h.elim
@[go_sem] def Γ30:FuncId → Con:=ext Γ29 154 zaaq
theorem Jk:∀ g,ConOk Try.prog g (Γ30 g):=Qq Γ29_ok zado

theorem zahi (xs:List Ints2)   : Pure Try.prog 200 [li cP xs,.fn 154 []] (.int .i64 (findI (Xy) xs)):=by
  refine Pure.of_walk Try.func200 rfl (by simp [Try.f200]) (by simp [-zd,go_sem]) fun B hK=>?_
  (repeat' (first
 | refine Qr ?_
 | (refine Xn 0 rfl fun hm=>?_);refine Qc (id:=0) Jk [] (by kernel_rfl) ?_;simp [-zg,-zd,↓Qb,↓Qa,go_sem]
 | refine Qc (id:=1) Jk [] (by kernel_rfl) ?_;simp [-zg,-zd,↓Qb,↓Qa,go_sem]
 | refine Qc (id:=2) Jk [] (by kernel_rfl) ?_;simp [-zg,-zd,↓Qb,↓Qa,go_sem]
 | refine Qc (id:=3) Jk [] (by kernel_rfl) ?_;simp [-zg,-zd,↓Qb,↓Qa,go_sem]
 | refine Qc (id:=4) Jk [] (by kernel_rfl) ?_;simp [-zg,-zd,↓Qb,↓Qa,go_sem,c9,Qh c9,zsP c9]
 | refine Qc (id:=5) Jk [] (by kernel_rfl) ?_;simp [-zg,-zd,↓Qb,↓Qa,go_sem]
 | refine Qc (id:=6) Jk [] (by kernel_rfl) ?_;simp [-zg,-zd,↓Qb,↓Qa,go_sem,wrapS (k:=k) (by omega)]
 | refine Qc (id:=7) Jk [] (by kernel_rfl) ?_;simp [-zg,-zd,↓Qb,↓Qa,go_sem]
 | refine Qe (c:=.tmp 9) ?_;simp [-zg,-zd,↓Qb,↓Qa,go_sem];try first | (refine ⟨?_,?_⟩ <;> refine zA ?_) | (refine ⟨fun c9=>?_,fun c9=>?_⟩ <;> (try simp [B_iff,B_not] at c9))
 | refine Qe (c:=.tmp 16) ?_;simp [-zg,-zd,↓Qb,↓Qa,go_sem];try first | (refine ⟨?_,?_⟩ <;> refine zA ?_) | (refine ⟨fun c16=>?_,fun c16=>?_⟩ <;> (try simp [B_iff,B_not] at c16))
 | (refine Qf (id:=0) (Xa (ι:=Nat) (fun k:Nat=>⟨(upd (upd (upd (upd (upd (fun _=>.any) 0 (li cP xs)) 1 (.fn 154 [])) 6 (li cP xs)) 7 (.int .i64 xs.length)) 8 (.int .i64 k)),fun _=>none⟩) (fun k=>k ≤ xs.length ∧ NoneTill (fun i=>(Xy) (nth xs i)) k) (fun k=>xs.length - k) (0) ?_ ?_ ?_);exact ⟨Nat.zero_le _,.zero _⟩;((repeat' (first | exact Qi (by assumption) | exact Qk | refine Ql ?_ ?_ | refine Qj ?_)) <;> simp [-zg,-zd,↓Qb,↓Qa,go_sem]);rintro k ⟨hk,ht⟩)
 | (refine ⟨k + 1,⟨by omega,ht.succ (by simp_all)⟩,by first | omega | (simp;done) | (simp;omega),?_⟩;((repeat' (first | exact Qi (by assumption) | exact Qk | refine Ql ?_ ?_ | refine Qj ?_)) <;> simp [-zg,-zd,↓Qb,↓Qa,go_sem]))
 | (refine Qf ?_)
 | (refine Qp ?_;simp [-zg,-zd,↓Qb,↓Qa,go_sem])
 | (refine Qo ?_;simp [-zg,-zd,↓Qb,↓Qa,go_sem])
 | (refine Qs ?_;simp [-zg,-zd,↓Qb,↓Qa,go_sem,Try.results200])
 | (intro hx;refine zA ?_)
 | (refine ⟨?_,?_⟩ <;> refine zA ?_)
 | (intro hx;constructor <;> intro hs)
 | (constructor <;> intro hs)
 | (refine ⟨?_,fun hs=>?_⟩;refine zA ?_)
 | (refine ⟨fun hs=>?_,?_⟩;rotate_left;refine zA ?_;rotate_left)))
  all_goals (first
 | (rw [zagj ht c9 (by simp_all)])
 | (rw [zady ht (by omega)])
 | skip)
@[go_sem] def zaay:Con:=.pure fun
  | [.list n_xs c_xs,.fn 154 []]=>((Is cP n_xs c_xs),.int .i64 (findI (Xy) (de cP c_xs)))
  | _=>(False,.any)
theorem zadv:ConOk Try.prog 200 zaay:=by
  refine ⟨Qm Try.func200 (by decide) rfl,fun args h=>?_⟩
  revert h
  dsimp only
  split
  · intro h
    obtain ⟨xs,rfl,rfl⟩:=h
    try simp only [Qu] at *
    exact ⟨zahi xs ,by simp [go_sem]⟩
  · intro h
    exact h.elim
@[go_sem] def Γ31:FuncId → Con:=ext Γ30 200 zaay
theorem Γ31_ok:∀ g,ConOk Try.prog g (Γ31 g):=Qq Jk zadv

theorem zaeh (xs:List Ints2)   : Pure Try.prog 153 [li cP xs,.fn 154 []] (.bool (decide (0 ≤ findI Xy xs))):=by
  refine Pure.of_walk Try.func153 rfl (by simp [Try.f153]) (by simp [-zd,go_sem]) fun B hK=>?_
  (repeat' (first
 | refine Qr ?_
 | refine Qc (id:=0) Γ31_ok [] (by kernel_rfl) ?_;simp [-zg,-zd,↓Qb,↓Qa,go_sem]
 | refine Qc (id:=1) Γ31_ok [] (by kernel_rfl) ?_;simp [-zg,-zd,↓Qb,↓Qa,go_sem]
 | (refine Qf ?_)
 | (refine Qp ?_;simp [-zg,-zd,↓Qb,↓Qa,go_sem])
 | (refine Qo ?_;simp [-zg,-zd,↓Qb,↓Qa,go_sem])
 | (refine Qs ?_;simp [-zg,-zd,↓Qb,↓Qa,go_sem,Try.results153])
 | (intro hx;refine zA ?_)
 | (refine ⟨?_,?_⟩ <;> refine zA ?_)
 | (intro hx;constructor <;> intro hs)
 | (constructor <;> intro hs)
 | (refine ⟨?_,fun hs=>?_⟩;refine zA ?_)
 | (refine ⟨fun hs=>?_,?_⟩;rotate_left;refine zA ?_;rotate_left)))
@[go_sem] def zaah:Con:=.pure fun
  | [.list n_xs c_xs,.fn 154 []]=>((Is cP n_xs c_xs),.bool (decide (0 ≤ findI Xy (de cP c_xs))))
  | _=>(False,.any)
theorem zacm:ConOk Try.prog 153 zaah:=by
  refine ⟨Qm Try.func153 (by decide) rfl,fun args h=>?_⟩
  revert h
  dsimp only
  split
  · intro h
    obtain ⟨xs,rfl,rfl⟩:=h
    try simp only [Qu] at *
    exact ⟨zaeh xs ,by simp [go_sem]⟩
  · intro h
    exact h.elim
@[go_sem] def Γ32:FuncId → Con:=ext Γ31 153 zaah
theorem Jj:∀ g,ConOk Try.prog g (Γ32 g):=Qq Γ31_ok zacm

def isN (n:Int) (x:Int):Bool:=decide (n = x)
theorem findI_isN {n:Int} {xs:List Int}:(0 ≤ findI (isN n) xs) = (n ∈ xs):=by
  rw [findI_ge,Jx];simp only [isN,decide_eq_true_eq]
  rw [eq_iff_iff];exact ⟨fun ⟨i,h,e⟩=>⟨i,h,e.symm⟩,fun ⟨i,h,e⟩=>⟨i,h,e.symm⟩⟩

theorem index_pure (xs:List Int) (n:Int)  : Pure Try.prog 101 [li cI xs,.int .i64 n] (.int .i64 (findI (isN n) xs)):=by
  refine Pure.of_walk Try.func101 rfl (by simp [Try.f101]) (by simp [-zd,go_sem]) fun B hK=>?_
  (repeat' (first
 | refine Qr ?_
 | (refine Xn 0 rfl fun hm=>?_);refine Qc (id:=0) Jj [] (by kernel_rfl) ?_;simp [-zg,-zd,↓Qb,↓Qa,go_sem]
 | refine Qc (id:=1) Jj [] (by kernel_rfl) ?_;simp [-zg,-zd,↓Qb,↓Qa,go_sem]
 | refine Qc (id:=2) Jj [] (by kernel_rfl) ?_;simp [-zg,-zd,↓Qb,↓Qa,go_sem]
 | refine Qc (id:=3) Jj [] (by kernel_rfl) ?_;simp [-zg,-zd,↓Qb,↓Qa,go_sem]
 | refine Qc (id:=4) Jj [] (by kernel_rfl) ?_;simp [-zg,-zd,↓Qb,↓Qa,go_sem,c9,Qh c9,zsP c9]
 | refine Qc (id:=5) Jj [] (by kernel_rfl) ?_;simp [-zg,-zd,↓Qb,↓Qa,go_sem]
 | refine Qc (id:=6) Jj [] (by kernel_rfl) ?_;simp [-zg,-zd,↓Qb,↓Qa,go_sem,wrapS (k:=k) (by omega)]
 | refine Qc (id:=7) Jj [] (by kernel_rfl) ?_;simp [-zg,-zd,↓Qb,↓Qa,go_sem]
 | refine Qe (c:=.tmp 9) ?_;simp [-zg,-zd,↓Qb,↓Qa,go_sem];try first | (refine ⟨?_,?_⟩ <;> refine zA ?_) | (refine ⟨fun c9=>?_,fun c9=>?_⟩ <;> (try simp [B_iff,B_not] at c9))
 | refine Qe (c:=.tmp 16) ?_;simp [-zg,-zd,↓Qb,↓Qa,go_sem];try first | (refine ⟨?_,?_⟩ <;> refine zA ?_) | (refine ⟨fun c16=>?_,fun c16=>?_⟩ <;> (try simp [B_iff,B_not] at c16))
 | (refine Qf (id:=0) (Xa (ι:=Nat) (fun k:Nat=>⟨(upd (upd (upd (upd (upd (fun _=>.any) 0 (li cI xs)) 1 (.int .i64 n)) 6 (li cI xs)) 7 (.int .i64 xs.length)) 8 (.int .i64 k)),fun _=>none⟩) (fun k=>k ≤ xs.length ∧ NoneTill (fun i=>isN n (nth xs i)) k) (fun k=>xs.length - k) (0) ?_ ?_ ?_);exact ⟨Nat.zero_le _,.zero _⟩;((repeat' (first | exact Qi (by assumption) | exact Qk | refine Ql ?_ ?_ | refine Qj ?_)) <;> simp [-zg,-zd,↓Qb,↓Qa,go_sem]);rintro k ⟨hk,ht⟩)
 | (refine ⟨k + 1,⟨by omega,ht.succ (by simp_all [isN])⟩,by first | omega | (simp;done) | (simp;omega),?_⟩;((repeat' (first | exact Qi (by assumption) | exact Qk | refine Ql ?_ ?_ | refine Qj ?_)) <;> simp [-zg,-zd,↓Qb,↓Qa,go_sem]))
 | (refine Qf ?_)
 | (refine Qp ?_;simp [-zg,-zd,↓Qb,↓Qa,go_sem])
 | (refine Qo ?_;simp [-zg,-zd,↓Qb,↓Qa,go_sem])
 | (refine Qs ?_;simp [-zg,-zd,↓Qb,↓Qa,go_sem,Try.results101])
 | (intro hx;refine zA ?_)
 | (refine ⟨?_,?_⟩ <;> refine zA ?_)
 | (intro hx;constructor <;> intro hs)
 | (constructor <;> intro hs)
 | (refine ⟨?_,fun hs=>?_⟩;refine zA ?_)
 | (refine ⟨fun hs=>?_,?_⟩;rotate_left;refine zA ?_;rotate_left)))
  all_goals (first
 | (rw [zagj ht c9 (by simp_all [isN])])
 | (rw [zady ht (by omega)])
 | skip)
@[go_sem] def zaec:Con:=.pure fun
  | [.list n_xs c_xs,.int .i64 n]=>((Is cI n_xs c_xs),.int .i64 (findI (isN n) (de cI c_xs)))
  | _=>(False,.any)
theorem index_pureC_ok:ConOk Try.prog 101 zaec:=by
  refine ⟨Qm Try.func101 (by decide) rfl,fun args h=>?_⟩
  revert h
  dsimp only
  split
  · intro h
    obtain ⟨xs,rfl,rfl⟩:=h
    try simp only [Qu] at *
    exact ⟨index_pure xs _,by simp [go_sem]⟩
  · intro h
    exact h.elim
@[go_sem] def Γ33:FuncId → Con:=ext Γ32 101 zaec
theorem Γ33_ok:∀ g,ConOk Try.prog g (Γ33 g):=Qq Jj index_pureC_ok

theorem contains_pure (xs:List Int) (n:Int)  : Pure Try.prog 103 [li cI xs,.int .i64 n] (.bool (B (n ∈ xs))):=by
  refine Pure.of_walk Try.func103 rfl (by simp [Try.f103]) (by simp [-zd,go_sem]) fun B hK=>?_
  (repeat' (first
 | refine Qr ?_
 | refine Qc (id:=0) Γ33_ok [] (by kernel_rfl) ?_;simp [-zg,-zd,↓Qb,↓Qa,go_sem,findI_isN]
 | refine Qc (id:=1) Γ33_ok [] (by kernel_rfl) ?_;simp [-zg,-zd,↓Qb,↓Qa,go_sem,findI_isN]
 | (refine Qf ?_)
 | (refine Qp ?_;simp [-zg,-zd,↓Qb,↓Qa,go_sem])
 | (refine Qo ?_;simp [-zg,-zd,↓Qb,↓Qa,go_sem])
 | (refine Qs ?_;simp [-zg,-zd,↓Qb,↓Qa,go_sem,Try.results103,findI_isN])
 | (intro hx;refine zA ?_)
 | (refine ⟨?_,?_⟩ <;> refine zA ?_)
 | (intro hx;constructor <;> intro hs)
 | (constructor <;> intro hs)
 | (refine ⟨?_,fun hs=>?_⟩;refine zA ?_)
 | (refine ⟨fun hs=>?_,?_⟩;rotate_left;refine zA ?_;rotate_left)))
  all_goals (rw [Bool.eq_iff_iff,B_iff,decide_eq_true_eq])
@[go_sem] def zabr:Con:=.pure fun
  | [.list n_xs c_xs,.int .i64 n]=>((Is cI n_xs c_xs),.bool (B (n ∈ (de cI c_xs))))
  | _=>(False,.any)
theorem zaeu:ConOk Try.prog 103 zabr:=by
  refine ⟨Qm Try.func103 (by decide) rfl,fun args h=>?_⟩
  revert h
  dsimp only
  split
  · intro h
    obtain ⟨xs,rfl,rfl⟩:=h
    try simp only [Qu] at *
    exact ⟨contains_pure xs _,by simp [go_sem]⟩
  · intro h
    exact h.elim
@[go_sem] def Γ34:FuncId → Con:=ext Γ33 103 zabr
theorem Ji:∀ g,ConOk Try.prog g (Γ34 g):=Qq Γ33_ok zaeu

theorem distinct_pure (xs:List Int) (n:Int) (h0:0 ≤ n) (h1:n ≤ 9223372036854775807):Pure Try.prog 158 [li cI xs,.int .i64 n] (.bool (B (Dist xs n))):=by
  refine Pure.of_walk Try.func158 rfl (by simp [Try.f158]) (by simp [-zd,go_sem]) fun B hK=>?_
  (repeat' (first
 | refine Qr ?_
 | (refine Xn 0 rfl fun hm=>?_);refine Qc (id:=0) Ji [] (by kernel_rfl) ?_;simp [-zg,-zd,↓Qb,↓Qa,go_sem]
 | refine Qc (id:=1) Ji [] (by kernel_rfl) ?_;simp [-zg,-zd,↓Qb,↓Qa,go_sem]
 | refine Qc (id:=2) Ji [] (by kernel_rfl) ?_;simp [-zg,-zd,↓Qb,↓Qa,go_sem]
 | refine Qc (id:=3) Ji [] (by kernel_rfl) ?_;simp [-zg,-zd,↓Qb,↓Qa,go_sem,c10,Qh c10,zsP c10]
 | refine Qc (id:=4) Ji [19] (by kernel_rfl) ?_;simp [-zg,-zd,↓Qb,↓Qa,go_sem,c10,Qh c10,zsP c10,Zv (x:=n - 1) (by omega) (by omega),Nat.le_of_lt c10];try (refine ⟨fun s4a=>?_,fun s4a=>?_⟩ <;> (try simp [B_iff,B_not] at s4a) <;> try (refine ⟨fun s4b=>?_,fun s4b=>?_⟩ <;> (try simp [B_iff,B_not] at s4b)))
 | refine Qc (id:=5) Ji [] (by kernel_rfl) ?_;simp [-zg,-zd,↓Qb,↓Qa,go_sem]
 | refine Qc (id:=6) Ji [] (by kernel_rfl) ?_;simp [-zg,-zd,↓Qb,↓Qa,go_sem,wrapS (k:=k) (by omega)]
 | refine Qc (id:=7) Ji [] (by kernel_rfl) ?_;simp [-zg,-zd,↓Qb,↓Qa,go_sem]
 | refine Qe (c:=.tmp 10) ?_;simp [-zg,-zd,↓Qb,↓Qa,go_sem];try first | (refine ⟨?_,?_⟩ <;> refine zA ?_) | (refine ⟨fun c10=>?_,fun c10=>?_⟩ <;> (try simp [B_iff,B_not] at c10))
 | refine Qe (c:=.tmp 25) ?_;simp [-zg,-zd,↓Qb,↓Qa,go_sem];try first | (refine ⟨?_,?_⟩ <;> refine zA ?_) | (refine ⟨fun c25=>?_,fun c25=>?_⟩ <;> (try simp [B_iff,B_not] at c25))
 | (refine Qf (id:=0) (Xa (ι:=Nat) (fun k:Nat=>⟨(upd (upd (upd (upd (upd (fun _=>.any) 0 (li cI xs)) 1 (.int .i64 n)) 7 (li cI xs)) 8 (.int .i64 xs.length)) 9 (.int .i64 k)),fun _=>none⟩) (fun k=>k ≤ xs.length ∧ AllTill (fun i=>0 ≤ nth xs i ∧ nth xs i ≤ n - 1 ∧ ¬ nth xs i ∈ xs.take i) k) (fun k=>xs.length - k) (0) ?_ ?_ ?_);exact ⟨Nat.zero_le _,.zero _⟩;((repeat' (first | exact Qi (by assumption) | exact Qk | refine Ql ?_ ?_ | refine Qj ?_)) <;> simp [-zg,-zd,↓Qb,↓Qa,go_sem]);rintro k ⟨hk,ht⟩)
 | (refine ⟨k + 1,⟨by omega,ht.succ ⟨by omega,by omega,c25⟩⟩,by first | omega | (simp;done) | (simp;omega),?_⟩;((repeat' (first | exact Qi (by assumption) | exact Qk | refine Ql ?_ ?_ | refine Qj ?_)) <;> simp [-zg,-zd,↓Qb,↓Qa,go_sem]))
 | (refine Qf ?_)
 | (refine Qp ?_;simp [-zg,-zd,↓Qb,↓Qa,go_sem])
 | (refine Qo ?_;simp [-zg,-zd,↓Qb,↓Qa,go_sem])
 | (refine Qs ?_;simp [-zg,-zd,↓Qb,↓Qa,go_sem,Try.results158])
 | (intro hx;refine zA ?_)
 | (refine ⟨?_,?_⟩ <;> refine zA ?_)
 | (intro hx;constructor <;> intro hs)
 | (constructor <;> intro hs)
 | (refine ⟨?_,fun hs=>?_⟩;refine zA ?_)
 | (refine ⟨fun hs=>?_,?_⟩;rotate_left;refine zA ?_;rotate_left)))
  all_goals (first
 | (intro h;obtain ⟨h1,h2,h3⟩:=h k c10;omega)
 | (intro h;exact (h k c10).2.2 c25)
 | exact fun i hi=>ht i (by omega)
 | skip)
@[go_sem] def zabq:Con:=.pure fun
  | [.list n_xs c_xs,.int .i64 n]=>((Is cI n_xs c_xs) ∧ (0 ≤ n) ∧ (n ≤ 9223372036854775807),.bool (B (Dist (de cI c_xs) n)))
  | _=>(False,.any)
theorem zaet:ConOk Try.prog 158 zabq:=by
  refine ⟨Qm Try.func158 (by decide) rfl,fun args h=>?_⟩
  revert h
  dsimp only
  split
  · intro h
    obtain ⟨⟨xs,rfl,rfl⟩,h0,h1⟩:=h
    try simp only [Qu] at *
    exact ⟨distinct_pure xs _ h0 h1,by simp [go_sem]⟩
  · intro h
    exact h.elim
@[go_sem] def Γ35:FuncId → Con:=ext Γ34 158 zabq
theorem Γ35_ok:∀ g,ConOk Try.prog g (Γ35 g):=Qq Ji zaet

def Zd (n:Int) (xs:List Int):Bool:=decide (xs.length = 0) || !B (Dist xs n)

theorem zagf (xs:List Int) (n:Int) (h0:0 ≤ n) (h1:n ≤ 9223372036854775807):Pure Try.prog 157 [li cI xs,.pd [.int .i64 n]] (.bool (Zd n xs)):=by
  refine Pure.of_walk Try.func157 rfl (by simp [Try.f157]) (by simp [-zd,go_sem]) fun B hK=>?_
  (repeat' (first
 | refine Qr ?_
 | refine Qc (id:=0) Γ35_ok [] (by kernel_rfl) ?_;simp [-zg,-zd,↓Qb,↓Qa,go_sem,Zd]
 | refine Qc (id:=1) Γ35_ok [7] (by kernel_rfl) ?_;simp [-zg,-zd,↓Qb,↓Qa,go_sem,h0,h1,Zd];try (refine ⟨fun s1a=>?_,fun s1a=>?_⟩ <;> (try simp [B_iff,B_not] at s1a) <;> try (refine ⟨fun s1b=>?_,fun s1b=>?_⟩ <;> (try simp [B_iff,B_not] at s1b)))
 | (refine Qf ?_)
 | (refine Qp ?_;simp [-zg,-zd,↓Qb,↓Qa,go_sem])
 | (refine Qo ?_;simp [-zg,-zd,↓Qb,↓Qa,go_sem])
 | (refine Qs ?_;simp [-zg,-zd,↓Qb,↓Qa,go_sem,Try.results157,Zd])
 | (intro hx;refine zA ?_)
 | (refine ⟨?_,?_⟩ <;> refine zA ?_)
 | (intro hx;constructor <;> intro hs)
 | (constructor <;> intro hs)
 | (refine ⟨?_,fun hs=>?_⟩;refine zA ?_)
 | (refine ⟨fun hs=>?_,?_⟩;rotate_left;refine zA ?_;rotate_left)))
  all_goals (first
 | exact .inl s1a
 | (intro h;exact absurd h s1a)
 | skip)
@[go_sem] def zaap:Con:=.pure fun
  | [.list n_xs c_xs,.pd [.int .i64 n]]=>((Is cI n_xs c_xs) ∧ (0 ≤ n) ∧ (n ≤ 9223372036854775807),.bool (Zd n (de cI c_xs)))
  | _=>(False,.any)
theorem zadn:ConOk Try.prog 157 zaap:=by
  refine ⟨Qm Try.func157 (by decide) rfl,fun args h=>?_⟩
  revert h
  dsimp only
  split
  · intro h
    obtain ⟨⟨xs,rfl,rfl⟩,h0,h1⟩:=h
    try simp only [Qu] at *
    exact ⟨zagf xs _ h0 h1,by simp [go_sem]⟩
  · intro h
    exact h.elim
@[go_sem] def Γ36:FuncId → Con:=ext Γ35 157 zaap
theorem Jh:∀ g,ConOk Try.prog g (Γ36 g):=Qq Γ35_ok zadn

theorem indexNext_pure (xs:List (List Int)) (n:Int) (h0:0 ≤ n) (h1:n ≤ 9223372036854775807):Pure Try.prog 203 [li cL xs,.fn 157 [.pd [.int .i64 n]]] (.int .i64 (findI (Zd n) xs)):=by
  refine Pure.of_walk Try.func203 rfl (by simp [Try.f203]) (by simp [-zd,go_sem]) fun B hK=>?_
  (repeat' (first
 | refine Qr ?_
 | (refine Xn 0 rfl fun hm=>?_);refine Qc (id:=0) Jh [] (by kernel_rfl) ?_;simp [-zg,-zd,↓Qb,↓Qa,go_sem]
 | refine Qc (id:=1) Jh [] (by kernel_rfl) ?_;simp [-zg,-zd,↓Qb,↓Qa,go_sem]
 | refine Qc (id:=2) Jh [] (by kernel_rfl) ?_;simp [-zg,-zd,↓Qb,↓Qa,go_sem]
 | refine Qc (id:=3) Jh [] (by kernel_rfl) ?_;simp [-zg,-zd,↓Qb,↓Qa,go_sem]
 | refine Qc (id:=4) Jh [] (by kernel_rfl) ?_;simp [-zg,-zd,↓Qb,↓Qa,go_sem,c9,Qh c9,zsP c9,h0,h1]
 | refine Qc (id:=5) Jh [] (by kernel_rfl) ?_;simp [-zg,-zd,↓Qb,↓Qa,go_sem]
 | refine Qc (id:=6) Jh [] (by kernel_rfl) ?_;simp [-zg,-zd,↓Qb,↓Qa,go_sem,wrapS (k:=k) (by omega)]
 | refine Qc (id:=7) Jh [] (by kernel_rfl) ?_;simp [-zg,-zd,↓Qb,↓Qa,go_sem]
 | refine Qe (c:=.tmp 9) ?_;simp [-zg,-zd,↓Qb,↓Qa,go_sem];try first | (refine ⟨?_,?_⟩ <;> refine zA ?_) | (refine ⟨fun c9=>?_,fun c9=>?_⟩ <;> (try simp [B_iff,B_not] at c9))
 | refine Qe (c:=.tmp 16) ?_;simp [-zg,-zd,↓Qb,↓Qa,go_sem];try first | (refine ⟨?_,?_⟩ <;> refine zA ?_) | (refine ⟨fun c16=>?_,fun c16=>?_⟩ <;> (try simp [B_iff,B_not] at c16))
 | (refine Qf (id:=0) (Xa (ι:=Nat) (fun k:Nat=>⟨(upd (upd (upd (upd (upd (fun _=>.any) 0 (li cL xs)) 1 (.fn 157 [.pd [.int .i64 n]])) 6 (li cL xs)) 7 (.int .i64 xs.length)) 8 (.int .i64 k)),fun _=>none⟩) (fun k=>k ≤ xs.length ∧ NoneTill (fun i=>(Zd n) (nth xs i)) k) (fun k=>xs.length - k) (0) ?_ ?_ ?_);exact ⟨Nat.zero_le _,.zero _⟩;((repeat' (first | exact Qi (by assumption) | exact Qk | refine Ql ?_ ?_ | refine Qj ?_)) <;> simp [-zg,-zd,↓Qb,↓Qa,go_sem]);rintro k ⟨hk,ht⟩)
 | (refine ⟨k + 1,⟨by omega,ht.succ (by simp_all)⟩,by first | omega | (simp;done) | (simp;omega),?_⟩;((repeat' (first | exact Qi (by assumption) | exact Qk | refine Ql ?_ ?_ | refine Qj ?_)) <;> simp [-zg,-zd,↓Qb,↓Qa,go_sem]))
 | (refine Qf ?_)
 | (refine Qp ?_;simp [-zg,-zd,↓Qb,↓Qa,go_sem])
 | (refine Qo ?_;simp [-zg,-zd,↓Qb,↓Qa,go_sem])
 | (refine Qs ?_;simp [-zg,-zd,↓Qb,↓Qa,go_sem,Try.results203])
 | (intro hx;refine zA ?_)
 | (refine ⟨?_,?_⟩ <;> refine zA ?_)
 | (intro hx;constructor <;> intro hs)
 | (constructor <;> intro hs)
 | (refine ⟨?_,fun hs=>?_⟩;refine zA ?_)
 | (refine ⟨fun hs=>?_,?_⟩;rotate_left;refine zA ?_;rotate_left)))
  all_goals (first
 | (rw [zagj ht c9 (by simp_all)])
 | (rw [zady ht (by omega)])
 | skip)
@[go_sem] def zabc:Con:=.pure fun
  | [.list n_xs c_xs,.fn 157 [.pd [.int .i64 n]]]=>((Is cL n_xs c_xs) ∧ (0 ≤ n) ∧ (n ≤ 9223372036854775807),.int .i64 (findI (Zd n) (de cL c_xs)))
  | _=>(False,.any)
theorem zaed:ConOk Try.prog 203 zabc:=by
  refine ⟨Qm Try.func203 (by decide) rfl,fun args h=>?_⟩
  revert h
  dsimp only
  split
  · intro h
    obtain ⟨⟨xs,rfl,rfl⟩,h0,h1⟩:=h
    try simp only [Qu] at *
    exact ⟨indexNext_pure xs _ h0 h1,by simp [go_sem]⟩
  · intro h
    exact h.elim
@[go_sem] def Γ37:FuncId → Con:=ext Γ36 203 zabc
theorem Γ37_ok:∀ g,ConOk Try.prog g (Γ37 g):=Qq Jh zaed

theorem zaev (xs:List (List Int)) (n:Int) (h0:0 ≤ n) (h1:n ≤ 9223372036854775807):Pure Try.prog 156 [li cL xs,.fn 157 [.pd [.int .i64 n]]] (.bool (decide (0 ≤ findI (Zd n) xs))):=by
  refine Pure.of_walk Try.func156 rfl (by simp [Try.f156]) (by simp [-zd,go_sem]) fun B hK=>?_
  (repeat' (first
 | refine Qr ?_
 | refine Qc (id:=0) Γ37_ok [] (by kernel_rfl) ?_;simp [-zg,-zd,↓Qb,↓Qa,go_sem]
 | refine Qc (id:=1) Γ37_ok [] (by kernel_rfl) ?_;simp [-zg,-zd,↓Qb,↓Qa,go_sem,h0,h1]
 | (refine Qf ?_)
 | (refine Qp ?_;simp [-zg,-zd,↓Qb,↓Qa,go_sem])
 | (refine Qo ?_;simp [-zg,-zd,↓Qb,↓Qa,go_sem])
 | (refine Qs ?_;simp [-zg,-zd,↓Qb,↓Qa,go_sem,Try.results156])
 | (intro hx;refine zA ?_)
 | (refine ⟨?_,?_⟩ <;> refine zA ?_)
 | (intro hx;constructor <;> intro hs)
 | (constructor <;> intro hs)
 | (refine ⟨?_,fun hs=>?_⟩;refine zA ?_)
 | (refine ⟨fun hs=>?_,?_⟩;rotate_left;refine zA ?_;rotate_left)))
@[go_sem] def zaam:Con:=.pure fun
  | [.list n_xs c_xs,.fn 157 [.pd [.int .i64 n]]]=>((Is cL n_xs c_xs) ∧ (0 ≤ n) ∧ (n ≤ 9223372036854775807),.bool (decide (0 ≤ findI (Zd n) (de cL c_xs))))
  | _=>(False,.any)
theorem zacv:ConOk Try.prog 156 zaam:=by
  refine ⟨Qm Try.func156 (by decide) rfl,fun args h=>?_⟩
  revert h
  dsimp only
  split
  · intro h
    obtain ⟨⟨xs,rfl,rfl⟩,h0,h1⟩:=h
    try simp only [Qu] at *
    exact ⟨zaev xs _ h0 h1,by simp [go_sem]⟩
  · intro h
    exact h.elim
@[go_sem] def Γ38:FuncId → Con:=ext Γ37 156 zaam
theorem Γ38_ok:∀ g,ConOk Try.prog g (Γ38 g):=Qq Γ37_ok zacv

theorem find_bad {a:List Ints2}:(0 ≤ findI Xy a) = ¬ ∀ i,i < a.length → ValsOk (nth a i).2:=by
  rw [findI_ge,eq_iff_iff]
  constructor
  · rintro ⟨i,h,e⟩ k
    simp [Xy,B_not] at e
    exact e (k i h)
  · intro h
    apply Classical.byContradiction;intro h2
    apply h;intro i hi
    apply Classical.byContradiction;intro h3
    exact h2 ⟨i,hi,by simp [Xy,B_not];exact h3⟩
theorem find_next {b:List (List Int)} {n:Int}:(0 ≤ findI (Zd n) b) = ¬ ∀ i,i < b.length → 1 ≤ (nth b i).length ∧ Dist (nth b i) n:=by
  rw [findI_ge,eq_iff_iff]
  constructor
  · rintro ⟨i,h,e⟩ k
    obtain ⟨k1,k2⟩:=k i h
    simp only [Zd,Bool.or_eq_true,decide_eq_true_eq,Bool.not_eq_true',B_not] at e
    rcases e with e | e
    · omega
    · exact e k2
  · intro h
    apply Classical.byContradiction;intro h2
    apply h;intro i hi
    apply Classical.byContradiction;intro h3
    refine h2 ⟨i,hi,?_⟩
    simp only [Zd,Bool.or_eq_true,decide_eq_true_eq,Bool.not_eq_true',B_not]
    rcases Nat.eq_zero_or_pos (nth b i).length with h4 | h4
    · exact .inl h4
    · exact .inr fun h5=>h3 ⟨h4,h5⟩

theorem zadw (a:List Ints2) (b:List (List Int))  : Pure Try.prog 65 [.st [li cP a,li cL b]] (.bool (B (GraphOk a b))):=by
  refine Pure.of_walk Try.func65 rfl (by simp [Try.f65]) (by simp [-zd,go_sem]) fun B hK=>?_
  (repeat' (first
 | refine Qr ?_
 | refine Qc (id:=0) Γ38_ok [] (by kernel_rfl) ?_;simp [-zg,-zd,↓Qb,↓Qa,go_sem];try (refine Xg hK 1 ?_;simp [go_sem])
 | (refine AW_lenP 1 0 ⟨rfl,rfl⟩ fun hm=>?_);refine Qc (id:=1) Γ38_ok [] (by kernel_rfl) ?_;simp [-zg,-zd,↓Qb,↓Qa,go_sem];try (refine Xg hK 3 ?_;simp [go_sem])
 | refine Qc (id:=2) Γ38_ok [9,16,22] (by kernel_rfl) ?_;simp [-zg,-zd,↓Qb,↓Qa,go_sem,(by omega:(a.length:Int) ≤ 9223372036854775807)];try (refine ⟨fun s2a=>?_,fun s2a=>?_⟩ <;> (try simp [B_iff,B_not] at s2a) <;> try (refine ⟨fun s2b=>?_,fun s2b=>?_⟩ <;> (try simp [B_iff,B_not] at s2b) <;> try (refine ⟨fun s2c=>?_,fun s2c=>?_⟩ <;> (try simp [B_iff,B_not] at s2c) <;> try (refine ⟨fun s2d=>?_,fun s2d=>?_⟩ <;> (try simp [B_iff,B_not] at s2d)))))
 | (refine Qf ?_)
 | (refine Qp ?_;simp [-zg,-zd,↓Qb,↓Qa,go_sem])
 | (refine Qo ?_;simp [-zg,-zd,↓Qb,↓Qa,go_sem])
 | (refine Qs ?_;simp [-zg,-zd,↓Qb,↓Qa,go_sem,Try.results65])
 | (intro hx;refine zA ?_)
 | (refine ⟨?_,?_⟩ <;> refine zA ?_)
 | (intro hx;constructor <;> intro hs)
 | (constructor <;> intro hs)
 | (refine ⟨?_,fun hs=>?_⟩;refine zA ?_)
 | (refine ⟨fun hs=>?_,?_⟩;rotate_left;refine zA ?_;rotate_left)))
  all_goals (first
 | (rintro ⟨g1,g2,g3,g4,g5⟩;omega)
 | (rintro ⟨g1,g2,g3,g4,g5⟩;have k:0 ≤ findI Xy a:=(by omega);rw [find_bad] at k;exact k g4)
 | (rw [Bool.eq_iff_iff,decide_eq_true_eq,find_next,Bool.not_eq_true',B_not];have hv:∀ i,i < a.length → ValsOk (nth a i).2:=(Classical.byContradiction fun k=>by rw [← find_bad] at k;omega);exact ⟨fun h k=>h k.2.2.2.2,fun h k=>h ⟨by omega,by omega,by omega,hv,k⟩⟩)
 | skip)
@[go_sem] def zaaf:Con:=.pure fun
  | [.st [.list n_a c_a,.list n_b c_b]]=>((Is cP n_a c_a) ∧ (Is cL n_b c_b),.bool (B (GraphOk (de cP c_a) (de cL c_b))))
  | _=>(False,.any)
theorem zabw:ConOk Try.prog 65 zaaf:=by
  refine ⟨Qm Try.func65 (by decide) rfl,fun args h=>?_⟩
  revert h
  dsimp only
  split
  · intro h
    obtain ⟨⟨a,rfl,rfl⟩,⟨b,rfl,rfl⟩⟩:=h
    try simp only [Qu] at *
    exact ⟨zadw a b,by simp [go_sem]⟩
  · intro h
    exact h.elim
@[go_sem] def Γ39:FuncId → Con:=ext Γ38 65 zaaf
theorem Xv:∀ g,ConOk Try.prog g (Γ39 g):=Qq Γ38_ok zabw

def NextTill (xs:List Int) (n k:Nat):Prop:=AllTill (fun i=>0 ≤ nth xs i ∧ nth xs i < n ∧ ¬ nth xs i ∈ xs.take i) k
theorem NextTill.dist {xs:List Int} {n k:Nat} (h:NextTill xs n k) (hk:xs.length ≤ k):Dist xs n:=fun i hi=>by obtain ⟨h1,h2,h3⟩:=h i (by omega);exact ⟨h1,by omega,h3⟩
theorem Dist.at {xs:List Int} {n:Nat} (h:Dist xs n) {k:Nat} (hk:k < xs.length):0 ≤ nth xs k ∧ nth xs k < n ∧ ¬ nth xs k ∈ xs.take k:=by obtain ⟨h1,h2,h3⟩:=h k hk;exact ⟨h1,by omega,h3⟩
def StateOk (a:List Ints2) (b:List (List Int)) (i:Nat):Prop:=1 ≤ (nth b i).length ∧ ValsOk (nth a i).2 ∧ Dist (nth b i) a.length
set_option maxHeartbeats 2000000 in

theorem zadr (a:List Ints2) (b:List (List Int))  : Pure Try.prog 172 [.st [li cP a,li cL b]] (.bool (B (GraphOk a b))):=by
  refine Pure.of_walk Try.func172 rfl (by simp [Try.f172]) (by simp [-zd,go_sem]) fun B hK=>?_
  (repeat' (first
 | refine Qr ?_
 | refine Qc (id:=0) Xv [] (by kernel_rfl) ?_;simp [-zg,-zd,↓Qb,↓Qa,go_sem];try (refine Xg hK 1 ?_;simp [go_sem])
 | refine Qc (id:=1) Xv [9,15] (by kernel_rfl) ?_;simp [-zg,-zd,↓Qb,↓Qa,go_sem];try (refine ⟨fun s1a=>?_,fun s1a=>?_⟩ <;> (try simp [B_iff,B_not] at s1a) <;> try (refine ⟨fun s1b=>?_,fun s1b=>?_⟩ <;> (try simp [B_iff,B_not] at s1b) <;> try (refine ⟨fun s1c=>?_,fun s1c=>?_⟩ <;> (try simp [B_iff,B_not] at s1c))))
 | refine Qc (id:=2) Xv [] (by kernel_rfl) ?_;simp [-zg,-zd,↓Qb,↓Qa,go_sem]
 | refine Qc (id:=3) Xv [] (by kernel_rfl) ?_;simp [-zg,-zd,↓Qb,↓Qa,go_sem]
 | refine Qc (id:=4) Xv [] (by kernel_rfl) ?_;simp [-zg,-zd,↓Qb,↓Qa,go_sem]
 | (have ci:i < a.length:=(by omega));refine Xw (id:=6) Xv mixed [38,50] [1] (by kernel_rfl) (by kernel_rfl) (by simp [-zg,-zd,↓Qb,↓Qa,go_sem,c28,Qh c28,zsP c28,ci,Qh ci,zsP ci]) ?_;simp [-zg,-zd,↓Qb,↓Qa,go_sem,c28,Qh c28,zsP c28,ci,Qh ci,zsP ci];try (refine ⟨fun s6a=>?_,fun s6a=>?_⟩ <;> (try simp [B_iff,B_not] at s6a) <;> try (refine ⟨fun s6b=>?_,fun s6b=>?_⟩ <;> (try simp [B_iff,B_not] at s6b) <;> try (refine ⟨fun s6c=>?_,fun s6c=>?_⟩ <;> (try simp [B_iff,B_not] at s6c))))
 | refine Qc (id:=7) Xv [] (by kernel_rfl) ?_;simp [-zg,-zd,↓Qb,↓Qa,go_sem]
 | refine Qc (id:=8) Xv [] (by kernel_rfl) ?_;simp [-zg,-zd,↓Qb,↓Qa,go_sem]
 | refine Qc (id:=9) Xv [] (by kernel_rfl) ?_;simp [-zg,-zd,↓Qb,↓Qa,go_sem,c28,Qh c28,zsP c28]
 | refine Xw (id:=11) Xv mixed [79,93] [1,3,4] (by kernel_rfl) (by kernel_rfl) (by simp [-zg,-zd,↓Qb,↓Qa,go_sem,c28,Qh c28,zsP c28,c67,Qh c67,zsP c67,Nat.le_of_lt c67]) ?_;simp [-zg,-zd,↓Qb,↓Qa,go_sem,c28,Qh c28,zsP c28,c67,Qh c67,zsP c67,Nat.le_of_lt c67];try (refine ⟨fun s11a=>?_,fun s11a=>?_⟩ <;> (try simp [B_iff,B_not] at s11a) <;> try (refine ⟨fun s11b=>?_,fun s11b=>?_⟩ <;> (try simp [B_iff,B_not] at s11b) <;> try (refine ⟨fun s11c=>?_,fun s11c=>?_⟩ <;> (try simp [B_iff,B_not] at s11c))))
 | refine Qc (id:=12) Xv [] (by kernel_rfl) ?_;simp [-zg,-zd,↓Qb,↓Qa,go_sem]
 | refine Qc (id:=10) Xv [] (by kernel_rfl) ?_;simp [-zg,-zd,↓Qb,↓Qa,go_sem,wrapS (k:=k) (by omega)]
 | refine Qc (id:=5) Xv [] (by kernel_rfl) ?_;simp [-zg,-zd,↓Qb,↓Qa,go_sem,wrapS (k:=i) (by omega)]
 | refine Qc (id:=13) Xv [] (by kernel_rfl) ?_;simp [-zg,-zd,↓Qb,↓Qa,go_sem]
 | refine Qe (c:=.tmp 23) ?_;simp [-zg,-zd,↓Qb,↓Qa,go_sem];try first | (refine ⟨?_,?_⟩ <;> refine zA ?_) | (refine ⟨fun c23=>?_,fun c23=>?_⟩ <;> (try simp [B_iff,B_not] at c23))
 | refine Qe (c:=.tmp 28) ?_;simp [-zg,-zd,↓Qb,↓Qa,go_sem];try first | (refine ⟨?_,?_⟩ <;> refine zA ?_) | (refine ⟨fun c28=>?_,fun c28=>?_⟩ <;> (try simp [B_iff,B_not] at c28))
 | refine Qe (c:=.tmp 59) ?_;simp [-zg,-zd,↓Qb,↓Qa,go_sem];try first | (refine ⟨?_,?_⟩ <;> refine zA ?_) | (refine ⟨fun c59=>?_,fun c59=>?_⟩ <;> (try simp [B_iff,B_not] at c59))
 | refine Qe (c:=.tmp 67) ?_;simp [-zg,-zd,↓Qb,↓Qa,go_sem];try first | (refine ⟨?_,?_⟩ <;> refine zA ?_) | (refine ⟨fun c67=>?_,fun c67=>?_⟩ <;> (try simp [B_iff,B_not] at c67))
 | refine Qe (c:=.tmp 110) ?_;simp [-zg,-zd,↓Qb,↓Qa,go_sem];try first | (refine ⟨?_,?_⟩ <;> refine zA ?_) | (refine ⟨fun c110=>?_,fun c110=>?_⟩ <;> (try simp [B_iff,B_not] at c110))
 | (refine Qf (id:=0) (Xa (ι:=Nat) (fun i:Nat=>⟨(upd (upd (fun _=>.any) 1 (.pd [li cP a,li cL b])) 3 (.int .i64 i)),fun _=>none⟩) (fun i=>i ≤ b.length ∧ AllTill (StateOk a b) i) (fun i=>b.length - i) (0) ?_ ?_ ?_);exact ⟨Nat.zero_le _,.zero _⟩;((repeat' (first | exact Qi (by assumption) | exact Qk | refine Ql ?_ ?_ | refine Qj ?_)) <;> simp [-zg,-zd,↓Qb,↓Qa,go_sem]);rintro i ⟨hi,hu⟩)
 | (refine ⟨i + 1,⟨by omega,hu.succ ⟨by omega,c59,ht.dist (by omega)⟩⟩,by first | omega | (simp;done) | (simp;omega),?_⟩;((repeat' (first | exact Qi (by assumption) | exact Qk | refine Ql ?_ ?_ | refine Qj ?_)) <;> simp [-zg,-zd,↓Qb,↓Qa,go_sem]))
 | (refine Qf (id:=2) (Xa (ι:=Nat) (fun k:Nat=>⟨(upd (upd (upd (fun _=>.any) 1 (.pd [li cP a,li cL b])) 3 (.int .i64 i)) 4 (.int .i64 k)),fun _=>none⟩) (fun k=>k ≤ (nth b i).length ∧ NextTill (nth b i) a.length k) (fun k=>(nth b i).length - k) (0) ?_ ?_ ?_);exact ⟨Nat.zero_le _,.zero _⟩;((repeat' (first | exact Qi (by assumption) | exact Qk | refine Ql ?_ ?_ | refine Qj ?_)) <;> simp [-zg,-zd,↓Qb,↓Qa,go_sem]);rintro k ⟨hk,ht⟩)
 | (refine ⟨k + 1,⟨by omega,ht.succ ⟨by omega,by omega,c110⟩⟩,by first | omega | (simp;done) | (simp;omega),?_⟩;((repeat' (first | exact Qi (by assumption) | exact Qk | refine Ql ?_ ?_ | refine Qj ?_)) <;> simp [-zg,-zd,↓Qb,↓Qa,go_sem]))
 | (refine Qf ?_)
 | (refine Qp ?_;simp [-zg,-zd,↓Qb,↓Qa,go_sem])
 | (refine Qo ?_;simp [-zg,-zd,↓Qb,↓Qa,go_sem])
 | (refine Qs ?_;simp [-zg,-zd,↓Qb,↓Qa,go_sem,Try.results172])
 | (intro hx;refine zA ?_)
 | (refine ⟨?_,?_⟩ <;> refine zA ?_)
 | (intro hx;constructor <;> intro hs)
 | (constructor <;> intro hs)
 | (refine ⟨?_,fun hs=>?_⟩;refine zA ?_)
 | (refine ⟨fun hs=>?_,?_⟩;rotate_left;refine zA ?_;rotate_left)))
  all_goals (first
 | (rintro ⟨g1,g2,g3,g4,g5⟩;omega)
 | (rintro ⟨g1,g2,g3,g4,g5⟩;obtain ⟨q1,q2⟩:=g5 i c28;have q3:=q2.len;omega)
 | (rintro ⟨g1,g2,g3,g4,g5⟩;exact c59 (g4 i ci))
 | (rintro ⟨g1,g2,g3,g4,g5⟩;obtain ⟨q1,q2⟩:=g5 i c28;obtain ⟨r1,r2,r3⟩:=q2.at c67;omega)
 | (rintro ⟨g1,g2,g3,g4,g5⟩;obtain ⟨q1,q2⟩:=g5 i c28;obtain ⟨r1,r2,r3⟩:=q2.at c67;exact r3 c110)
 | exact ⟨by omega,by omega,by omega,fun j hj=>(hu j (by omega)).2.1,fun j hj=>⟨(hu j (by omega)).1,(hu j (by omega)).2.2⟩⟩
 | skip)
@[go_sem] def zaac:Con:=.pure fun
  | [.st [.list n_a c_a,.list n_b c_b]]=>((Is cP n_a c_a) ∧ (Is cL n_b c_b),.bool (B (GraphOk (de cP c_a) (de cL c_b))))
  | _=>(False,.any)
theorem zabv:ConOk Try.prog 172 zaac:=by
  refine ⟨Qm Try.func172 (by decide) rfl,fun args h=>?_⟩
  revert h
  dsimp only
  split
  · intro h
    obtain ⟨⟨a,rfl,rfl⟩,⟨b,rfl,rfl⟩⟩:=h
    try simp only [Qu] at *
    exact ⟨zadr a b,by simp [go_sem]⟩
  · intro h
    exact h.elim
@[go_sem] def Γ40:FuncId → Con:=ext Γ39 172 zaac
theorem Γ40_ok:∀ g,ConOk Try.prog g (Γ40 g):=Qq Xv zabv

end
end Go.Proofs.Ytkjimmkemnmajaa.Vm

