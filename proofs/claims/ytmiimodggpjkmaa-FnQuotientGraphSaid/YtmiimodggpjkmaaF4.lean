/-
  Valid graphs, both ways. No conditions.
-/
import Derived.Test.YtmiimodggpjkmaaF3
namespace Go.Proofs.Ytmiimodggpjkmaa.Vm
open Go
open Nat renaming sub_pos_of_lt → zsP
open List renaming getD_eq_getElem?_getD → zg,drop_one → zd
noncomputable section
set_option linter.unusedVariables false
set_option linter.unusedSimpArgs false
set_option maxRecDepth 200000

def ValsOk (xs:List Int):Prop:=xs.length = 3 ∧ ∀ i,i < xs.length → 0 ≤ nth xs i ∧ nth xs i ≤ 3
def Dist (xs:List Int) (n:Int):Prop:=∀ i,i < xs.length → 0 ≤ nth xs i ∧ nth xs i ≤ n - 1 ∧ ¬ nth xs i ∈ xs.take i
theorem pigeon:∀ (n:Nat) (xs:List Int),xs.Nodup → (∀ x ∈ xs,0 ≤ x ∧ x < n) → xs.length ≤ n
  | 0,xs,_,h=>by
    cases xs with
    | nil=>simp
    | cons x xs=>have:=h x (by simp);omega
  | n + 1,xs,hn,h=>by
    have:=pigeon n (xs.erase n) (hn.erase _) fun x hx=>by
      have h1:=h x (List.mem_of_mem_erase hx)
      have h2:x ≠ n:=fun e=>by subst e;exact (List.Nodup.not_mem_erase hn) hx
      omega
    rw [List.length_erase] at this
    split at this <;> omega
theorem Dist.nodup {xs:List Int} {n:Int} (h:Dist xs n):xs.Nodup:=by
  rw [List.nodup_iff_pairwise_ne,List.pairwise_iff_getElem]
  intro i j hi hj hij e
  have:=(h j hj).2.2
  apply this
  rw [Zs]
  exact ⟨i,by simp;omega,by rw [Jo hij,Qv hi,Qv hj,e]⟩
theorem Dist.len {xs:List Int} {n:Nat} (h:Dist xs n):xs.length ≤ n :=
  pigeon n xs h.nodup fun x hx=>by
    rw [Zs] at hx
    obtain ⟨i,hi,rfl⟩:=hx
    have:=h i hi
    omega
def GraphOk (a:List Ints2) (b:List (List Int)):Prop :=
  1 ≤ a.length ∧ a.length ≤ 60 ∧ b.length = a.length ∧ (∀ i,i < a.length → ValsOk (nth a i).2) ∧ ∀ i,i < b.length → 1 ≤ (nth b i).length ∧ Dist (nth b i) a.length

theorem l1Vals_pure (xs:List Int)  : Pure Try.prog 140 [li cI xs] (.bool (B (ValsOk xs))):=by
  refine Pure.of_walk Try.func140 rfl (by simp [Try.f140]) (by simp [-zd,go_sem]) fun B hK=>?_
  (repeat' (first
 | refine Qs ?_
 | (refine Zn 0 rfl fun hm=>?_);refine Qc (id:=0) Xo [] (by kernel_rfl) ?_;simp [-zg,-zd,↓Qb,↓Qa,go_sem]
 | refine Qc (id:=1) Xo [] (by kernel_rfl) ?_;simp [-zg,-zd,↓Qb,↓Qa,go_sem]
 | refine Qc (id:=2) Xo [] (by kernel_rfl) ?_;simp [-zg,-zd,↓Qb,↓Qa,go_sem]
 | refine Qc (id:=4) Xo [15] (by kernel_rfl) ?_;simp [-zg,-zd,↓Qb,↓Qa,go_sem,c7,Qg c7,zsP c7];try (refine ⟨fun s4a=>?_,fun s4a=>?_⟩ <;> (try simp [B_iff,B_not] at s4a) <;> try (refine ⟨fun s4b=>?_,fun s4b=>?_⟩ <;> (try simp [B_iff,B_not] at s4b)))
 | refine Qc (id:=5) Xo [] (by kernel_rfl) ?_;simp [-zg,-zd,↓Qb,↓Qa,go_sem]
 | refine Qc (id:=3) Xo [] (by kernel_rfl) ?_;simp [-zg,-zd,↓Qb,↓Qa,go_sem,wrapS (k:=k) (by omega)]
 | refine Qc (id:=6) Xo [] (by kernel_rfl) ?_;simp [-zg,-zd,↓Qb,↓Qa,go_sem]
 | refine Qd (c:=.tmp 7) ?_;simp [-zg,-zd,↓Qb,↓Qa,go_sem];try first | (refine ⟨?_,?_⟩ <;> refine zA ?_) | (refine ⟨fun c7=>?_,fun c7=>?_⟩ <;> (try simp [B_iff,B_not] at c7))
 | refine Qd (c:=.tmp 21) ?_;simp [-zg,-zd,↓Qb,↓Qa,go_sem];try first | (refine ⟨?_,?_⟩ <;> refine zA ?_) | (refine ⟨fun c21=>?_,fun c21=>?_⟩ <;> (try simp [B_iff,B_not] at c21))
 | (refine Qe (id:=0) (Qy (ι:=Nat) (fun k:Nat=>⟨(upd (upd (fun _=>.any) 0 (li cI xs)) 3 (.int .i64 k)),fun _=>none⟩) (fun k=>k ≤ xs.length ∧ AllTill (fun i=>0 ≤ nth xs i ∧ nth xs i ≤ 3) k) (fun k=>xs.length - k) (0) ?_ ?_ ?_);exact ⟨Nat.zero_le _,.zero _⟩;((repeat' (first | exact Qh (by assumption) | exact Qj | refine Qk ?_ ?_ | refine Qi ?_)) <;> simp [-zg,-zd,↓Qb,↓Qa,go_sem]);rintro k ⟨hk,ht⟩)
 | (refine ⟨k + 1,⟨by omega,ht.succ (by omega)⟩,by first | omega | (simp;done) | (simp;omega),?_⟩;((repeat' (first | exact Qh (by assumption) | exact Qj | refine Qk ?_ ?_ | refine Qi ?_)) <;> simp [-zg,-zd,↓Qb,↓Qa,go_sem]))
 | (refine Qe ?_)
 | (refine Qr ?_;simp [-zg,-zd,↓Qb,↓Qa,go_sem])
 | (refine Qq ?_;simp [-zg,-zd,↓Qb,↓Qa,go_sem])
 | (refine Qp ?_;simp [-zg,-zd,↓Qb,↓Qa,go_sem,Try.results140])
 | (intro hx;refine zA ?_)
 | (refine ⟨?_,?_⟩ <;> refine zA ?_)
 | (intro hx;constructor <;> intro hs)
 | (constructor <;> intro hs)
 | (refine ⟨?_,fun hs=>?_⟩;refine zA ?_)
 | (refine ⟨fun hs=>?_,?_⟩;rotate_left;refine zA ?_;rotate_left)))
  all_goals (first
 | (rintro ⟨_,h⟩;have:=h k c7;omega)
 | (rw [Bool.eq_iff_iff,B_iff,decide_eq_true_eq];exact ⟨fun h=>⟨by omega,fun i hi=>ht i (by omega)⟩,fun h=>by have:=h.1;omega⟩)
 | skip)
@[go_sem] def zagx:Con:=.pure fun
  | [.list n_xs c_xs]=>((Is cI n_xs c_xs),.bool (B (ValsOk (de cI c_xs))))
  | _=>(False,.any)
theorem zaoi:ConOk Try.prog 140 zagx:=by
  refine ⟨Qn Try.func140 (by decide) rfl,fun args h=>?_⟩
  revert h
  dsimp only
  split
  · intro h
    obtain ⟨xs,rfl,rfl⟩:=h
    try simp only [Qo] at *
    exact ⟨l1Vals_pure xs,by simp [go_sem]⟩
  · intro h
    exact h.elim
@[go_sem] def Γ24:FuncId → Con:=ext Γ23 140 zagx
theorem Wz:∀ g,ConOk Try.prog g (Γ24 g):=Qm Xo zaoi

theorem l4In_pure (xs:List Int) (n:Int)  : Pure Try.prog 46 [li cI xs,.int .i64 n] (.bool (B (n ∈ xs))):=by
  refine Pure.of_walk Try.func46 rfl (by simp [Try.f46]) (by simp [-zd,go_sem]) fun B hK=>?_
  (repeat' (first
 | refine Qs ?_
 | (refine Zn 0 rfl fun hm=>?_);refine Qc (id:=0) Wz [] (by kernel_rfl) ?_;simp [-zg,-zd,↓Qb,↓Qa,go_sem]
 | refine Qc (id:=1) Wz [] (by kernel_rfl) ?_;simp [-zg,-zd,↓Qb,↓Qa,go_sem]
 | refine Qc (id:=2) Wz [] (by kernel_rfl) ?_;simp [-zg,-zd,↓Qb,↓Qa,go_sem]
 | refine Qc (id:=4) Wz [] (by kernel_rfl) ?_;simp [-zg,-zd,↓Qb,↓Qa,go_sem,c9,Qg c9,zsP c9]
 | refine Qc (id:=5) Wz [] (by kernel_rfl) ?_;simp [-zg,-zd,↓Qb,↓Qa,go_sem]
 | refine Qc (id:=3) Wz [] (by kernel_rfl) ?_;simp [-zg,-zd,↓Qb,↓Qa,go_sem,wrapS (k:=k) (by omega)]
 | refine Qc (id:=6) Wz [] (by kernel_rfl) ?_;simp [-zg,-zd,↓Qb,↓Qa,go_sem]
 | refine Qd (c:=.tmp 9) ?_;simp [-zg,-zd,↓Qb,↓Qa,go_sem];try first | (refine ⟨?_,?_⟩ <;> refine zA ?_) | (refine ⟨fun c9=>?_,fun c9=>?_⟩ <;> (try simp [B_iff,B_not] at c9))
 | refine Qd (c:=.tmp 17) ?_;simp [-zg,-zd,↓Qb,↓Qa,go_sem];try first | (refine ⟨?_,?_⟩ <;> refine zA ?_) | (refine ⟨fun c17=>?_,fun c17=>?_⟩ <;> (try simp [B_iff,B_not] at c17))
 | (refine Qe (id:=0) (Qy (ι:=Nat) (fun k:Nat=>⟨(upd (upd (upd (fun _=>.any) 0 (li cI xs)) 1 (.int .i64 n)) 5 (.int .i64 k)),fun _=>none⟩) (fun k=>k ≤ xs.length ∧ AllTill (fun i=>¬ nth xs i = n) k) (fun k=>xs.length - k) (0) ?_ ?_ ?_);exact ⟨Nat.zero_le _,.zero _⟩;((repeat' (first | exact Qh (by assumption) | exact Qj | refine Qk ?_ ?_ | refine Qi ?_)) <;> simp [-zg,-zd,↓Qb,↓Qa,go_sem]);rintro k ⟨hk,ht⟩)
 | (refine ⟨k + 1,⟨by omega,ht.succ (by omega)⟩,by first | omega | (simp;done) | (simp;omega),?_⟩;((repeat' (first | exact Qh (by assumption) | exact Qj | refine Qk ?_ ?_ | refine Qi ?_)) <;> simp [-zg,-zd,↓Qb,↓Qa,go_sem]))
 | (refine Qe ?_)
 | (refine Qr ?_;simp [-zg,-zd,↓Qb,↓Qa,go_sem])
 | (refine Qq ?_;simp [-zg,-zd,↓Qb,↓Qa,go_sem])
 | (refine Qp ?_;simp [-zg,-zd,↓Qb,↓Qa,go_sem,Try.results46])
 | (intro hx;refine zA ?_)
 | (refine ⟨?_,?_⟩ <;> refine zA ?_)
 | (intro hx;constructor <;> intro hs)
 | (constructor <;> intro hs)
 | (refine ⟨?_,fun hs=>?_⟩;refine zA ?_)
 | (refine ⟨fun hs=>?_,?_⟩;rotate_left;refine zA ?_;rotate_left)))
  all_goals (first
 | (rw [Zs];exact ⟨k,c9,by omega⟩)
 | (rw [Zs];rintro ⟨i,h1,h2⟩;exact ht i (by omega) h2)
 | skip)
@[go_sem] def zami:Con:=.pure fun
  | [.list n_xs c_xs,.int .i64 n]=>((Is cI n_xs c_xs),.bool (B (n ∈ (de cI c_xs))))
  | _=>(False,.any)
theorem l4In_pureC_ok:ConOk Try.prog 46 zami:=by
  refine ⟨Qn Try.func46 (by decide) rfl,fun args h=>?_⟩
  revert h
  dsimp only
  split
  · intro h
    obtain ⟨xs,rfl,rfl⟩:=h
    try simp only [Qo] at *
    exact ⟨l4In_pure xs _,by simp [go_sem]⟩
  · intro h
    exact h.elim
@[go_sem] def Γ25:FuncId → Con:=ext Γ24 46 zami
theorem Γ25_ok:∀ g,ConOk Try.prog g (Γ25 g):=Qm Wz l4In_pureC_ok

def Jh (n:Int):Bool:=!(decide (0 ≤ n) && decide (n ≤ 3))
theorem find_small {xs:List Int}:(0 ≤ findI Jh xs) = ¬ ∀ i,i < xs.length → 0 ≤ nth xs i ∧ nth xs i ≤ 3:=by
  rw [findI_ge,eq_iff_iff]
  constructor
  · rintro ⟨i,h,e⟩ k
    have:=k i h
    simp [Jh] at e
    omega
  · intro h
    apply Classical.byContradiction;intro h2
    apply h;intro i hi
    apply Classical.byContradiction;intro h3
    exact h2 ⟨i,hi,by simp [Jh];omega⟩

theorem valsOk1_pure (n:Int)  : Pure Try.prog 103 [.int .i64 n] (.bool (Jh n)):=by
  refine Pure.of_walk Try.func103 rfl (by simp [Try.f103]) (by simp [-zd,go_sem]) fun B hK=>?_
  (repeat' (first
 | refine Qs ?_
 | refine Qc (id:=0) Γ25_ok [] (by kernel_rfl) ?_;simp [-zg,-zd,↓Qb,↓Qa,go_sem,Jh]
 | refine Qc (id:=1) Γ25_ok [] (by kernel_rfl) ?_;simp [-zg,-zd,↓Qb,↓Qa,go_sem,Jh]
 | (refine Qe ?_)
 | (refine Qr ?_;simp [-zg,-zd,↓Qb,↓Qa,go_sem])
 | (refine Qq ?_;simp [-zg,-zd,↓Qb,↓Qa,go_sem])
 | (refine Qp ?_;simp [-zg,-zd,↓Qb,↓Qa,go_sem,Try.results103,Jh])
 | (intro hx;refine zA ?_)
 | (refine ⟨?_,?_⟩ <;> refine zA ?_)
 | (intro hx;constructor <;> intro hs)
 | (constructor <;> intro hs)
 | (refine ⟨?_,fun hs=>?_⟩;refine zA ?_)
 | (refine ⟨fun hs=>?_,?_⟩;rotate_left;refine zA ?_;rotate_left)))
@[go_sem] def zaew:Con:=.pure fun
  | [.int .i64 n]=>(True,.bool (Jh n))
  | _=>(False,.any)
theorem zalh:ConOk Try.prog 103 zaew:=by
  refine ⟨Qn Try.func103 (by decide) rfl,fun args h=>?_⟩
  revert h
  dsimp only
  split
  · intro h
    skip
    skip
    exact ⟨valsOk1_pure _,by simp [go_sem]⟩
  · intro h
    exact h.elim
@[go_sem] def Γ26:FuncId → Con:=ext Γ25 103 zaew
theorem Wc:∀ g,ConOk Try.prog g (Γ26 g):=Qm Γ25_ok zalh

theorem index118_pure (xs:List Int)   : Pure Try.prog 141 [li cI xs,.fn 103 []] (.int .i64 (findI (Jh) xs)):=by
  refine Pure.of_walk Try.func141 rfl (by simp [Try.f141]) (by simp [-zd,go_sem]) fun B hK=>?_
  (repeat' (first
 | refine Qs ?_
 | (refine Zn 0 rfl fun hm=>?_);refine Qc (id:=0) Wc [] (by kernel_rfl) ?_;simp [-zg,-zd,↓Qb,↓Qa,go_sem]
 | refine Qc (id:=1) Wc [] (by kernel_rfl) ?_;simp [-zg,-zd,↓Qb,↓Qa,go_sem]
 | refine Qc (id:=2) Wc [] (by kernel_rfl) ?_;simp [-zg,-zd,↓Qb,↓Qa,go_sem]
 | refine Qc (id:=3) Wc [] (by kernel_rfl) ?_;simp [-zg,-zd,↓Qb,↓Qa,go_sem]
 | refine Qc (id:=4) Wc [] (by kernel_rfl) ?_;simp [-zg,-zd,↓Qb,↓Qa,go_sem,c9,Qg c9,zsP c9]
 | refine Qc (id:=5) Wc [] (by kernel_rfl) ?_;simp [-zg,-zd,↓Qb,↓Qa,go_sem]
 | refine Qc (id:=6) Wc [] (by kernel_rfl) ?_;simp [-zg,-zd,↓Qb,↓Qa,go_sem,wrapS (k:=k) (by omega)]
 | refine Qc (id:=7) Wc [] (by kernel_rfl) ?_;simp [-zg,-zd,↓Qb,↓Qa,go_sem]
 | refine Qd (c:=.tmp 9) ?_;simp [-zg,-zd,↓Qb,↓Qa,go_sem];try first | (refine ⟨?_,?_⟩ <;> refine zA ?_) | (refine ⟨fun c9=>?_,fun c9=>?_⟩ <;> (try simp [B_iff,B_not] at c9))
 | refine Qd (c:=.tmp 16) ?_;simp [-zg,-zd,↓Qb,↓Qa,go_sem];try first | (refine ⟨?_,?_⟩ <;> refine zA ?_) | (refine ⟨fun c16=>?_,fun c16=>?_⟩ <;> (try simp [B_iff,B_not] at c16))
 | (refine Qe (id:=0) (Qy (ι:=Nat) (fun k:Nat=>⟨(upd (upd (upd (upd (upd (fun _=>.any) 0 (li cI xs)) 1 (.fn 103 [])) 6 (li cI xs)) 7 (.int .i64 xs.length)) 8 (.int .i64 k)),fun _=>none⟩) (fun k=>k ≤ xs.length ∧ NoneTill (fun i=>(Jh) (nth xs i)) k) (fun k=>xs.length - k) (0) ?_ ?_ ?_);exact ⟨Nat.zero_le _,.zero _⟩;((repeat' (first | exact Qh (by assumption) | exact Qj | refine Qk ?_ ?_ | refine Qi ?_)) <;> simp [-zg,-zd,↓Qb,↓Qa,go_sem]);rintro k ⟨hk,ht⟩)
 | (refine ⟨k + 1,⟨by omega,ht.succ (by simp_all)⟩,by first | omega | (simp;done) | (simp;omega),?_⟩;((repeat' (first | exact Qh (by assumption) | exact Qj | refine Qk ?_ ?_ | refine Qi ?_)) <;> simp [-zg,-zd,↓Qb,↓Qa,go_sem]))
 | (refine Qe ?_)
 | (refine Qr ?_;simp [-zg,-zd,↓Qb,↓Qa,go_sem])
 | (refine Qq ?_;simp [-zg,-zd,↓Qb,↓Qa,go_sem])
 | (refine Qp ?_;simp [-zg,-zd,↓Qb,↓Qa,go_sem,Try.results141])
 | (intro hx;refine zA ?_)
 | (refine ⟨?_,?_⟩ <;> refine zA ?_)
 | (intro hx;constructor <;> intro hs)
 | (constructor <;> intro hs)
 | (refine ⟨?_,fun hs=>?_⟩;refine zA ?_)
 | (refine ⟨fun hs=>?_,?_⟩;rotate_left;refine zA ?_;rotate_left)))
  all_goals (first
 | (rw [zajq ht c9 (by simp_all)])
 | (rw [zafj ht (by omega)])
 | skip)
@[go_sem] def zaeo:Con:=.pure fun
  | [.list n_xs c_xs,.fn 103 []]=>((Is cI n_xs c_xs),.int .i64 (findI (Jh) (de cI c_xs)))
  | _=>(False,.any)
theorem zakl:ConOk Try.prog 141 zaeo:=by
  refine ⟨Qn Try.func141 (by decide) rfl,fun args h=>?_⟩
  revert h
  dsimp only
  split
  · intro h
    obtain ⟨xs,rfl,rfl⟩:=h
    try simp only [Qo] at *
    exact ⟨index118_pure xs ,by simp [go_sem]⟩
  · intro h
    exact h.elim
@[go_sem] def Γ27:FuncId → Con:=ext Γ26 141 zaeo
theorem Γ27_ok:∀ g,ConOk Try.prog g (Γ27 g):=Qm Wc zakl

theorem zajt (xs:List Int)   : Pure Try.prog 102 [li cI xs,.fn 103 []] (.bool (decide (0 ≤ findI Jh xs))):=by
  refine Pure.of_walk Try.func102 rfl (by simp [Try.f102]) (by simp [-zd,go_sem]) fun B hK=>?_
  (repeat' (first
 | refine Qs ?_
 | refine Qc (id:=0) Γ27_ok [] (by kernel_rfl) ?_;simp [-zg,-zd,↓Qb,↓Qa,go_sem]
 | refine Qc (id:=1) Γ27_ok [] (by kernel_rfl) ?_;simp [-zg,-zd,↓Qb,↓Qa,go_sem]
 | (refine Qe ?_)
 | (refine Qr ?_;simp [-zg,-zd,↓Qb,↓Qa,go_sem])
 | (refine Qq ?_;simp [-zg,-zd,↓Qb,↓Qa,go_sem])
 | (refine Qp ?_;simp [-zg,-zd,↓Qb,↓Qa,go_sem,Try.results102])
 | (intro hx;refine zA ?_)
 | (refine ⟨?_,?_⟩ <;> refine zA ?_)
 | (intro hx;constructor <;> intro hs)
 | (constructor <;> intro hs)
 | (refine ⟨?_,fun hs=>?_⟩;refine zA ?_)
 | (refine ⟨fun hs=>?_,?_⟩;rotate_left;refine zA ?_;rotate_left)))
@[go_sem] def zabw:Con:=.pure fun
  | [.list n_xs c_xs,.fn 103 []]=>((Is cI n_xs c_xs),.bool (decide (0 ≤ findI Jh (de cI c_xs))))
  | _=>(False,.any)
theorem zafo:ConOk Try.prog 102 zabw:=by
  refine ⟨Qn Try.func102 (by decide) rfl,fun args h=>?_⟩
  revert h
  dsimp only
  split
  · intro h
    obtain ⟨xs,rfl,rfl⟩:=h
    try simp only [Qo] at *
    exact ⟨zajt xs ,by simp [go_sem]⟩
  · intro h
    exact h.elim
@[go_sem] def Γ28:FuncId → Con:=ext Γ27 102 zabw
theorem Γ28_ok:∀ g,ConOk Try.prog g (Γ28 g):=Qm Γ27_ok zafo

theorem valsOk_pure (xs:List Int)  : Pure Try.prog 53 [li cI xs] (.bool (B (ValsOk xs))):=by
  refine Pure.of_walk Try.func53 rfl (by simp [Try.f53]) (by simp [-zd,go_sem]) fun B hK=>?_
  (repeat' (first
 | refine Qs ?_
 | refine Qc (id:=0) Γ28_ok [] (by kernel_rfl) ?_;simp [-zg,-zd,↓Qb,↓Qa,go_sem]
 | refine Qc (id:=1) Γ28_ok [6] (by kernel_rfl) ?_;simp [-zg,-zd,↓Qb,↓Qa,go_sem];try (refine ⟨fun s1a=>?_,fun s1a=>?_⟩ <;> (try simp [B_iff,B_not] at s1a) <;> try (refine ⟨fun s1b=>?_,fun s1b=>?_⟩ <;> (try simp [B_iff,B_not] at s1b)))
 | (refine Qe ?_)
 | (refine Qr ?_;simp [-zg,-zd,↓Qb,↓Qa,go_sem])
 | (refine Qq ?_;simp [-zg,-zd,↓Qb,↓Qa,go_sem])
 | (refine Qp ?_;simp [-zg,-zd,↓Qb,↓Qa,go_sem,Try.results53])
 | (intro hx;refine zA ?_)
 | (refine ⟨?_,?_⟩ <;> refine zA ?_)
 | (intro hx;constructor <;> intro hs)
 | (constructor <;> intro hs)
 | (refine ⟨?_,fun hs=>?_⟩;refine zA ?_)
 | (refine ⟨fun hs=>?_,?_⟩;rotate_left;refine zA ?_;rotate_left)))
  all_goals (first
 | (intro h;have:=h.1;omega)
 | (rw [Bool.eq_iff_iff,decide_eq_true_eq,find_small,Bool.not_eq_true',B_not];exact ⟨fun h k=>h k.2,fun h k=>h ⟨by omega,k⟩⟩)
 | skip)
@[go_sem] def zagp:Con:=.pure fun
  | [.list n_xs c_xs]=>((Is cI n_xs c_xs),.bool (B (ValsOk (de cI c_xs))))
  | _=>(False,.any)
theorem zanw:ConOk Try.prog 53 zagp:=by
  refine ⟨Qn Try.func53 (by decide) rfl,fun args h=>?_⟩
  revert h
  dsimp only
  split
  · intro h
    obtain ⟨xs,rfl,rfl⟩:=h
    try simp only [Qo] at *
    exact ⟨valsOk_pure xs,by simp [go_sem]⟩
  · intro h
    exact h.elim
@[go_sem] def Γ29:FuncId → Con:=ext Γ28 53 zagp
theorem Γ29_ok:∀ g,ConOk Try.prog g (Γ29 g):=Qm Γ28_ok zanw

def Ja (s:Ints2):Bool:=!B (ValsOk s.2)

theorem zand (a:List Int) (b:List Int)  : Pure Try.prog 52 [.st [li cI a,li cI b]] (.bool (Ja (a,b))):=by
  refine Pure.of_walk Try.func52 rfl (by simp [Try.f52]) (by simp [-zd,go_sem]) fun B hK=>?_
  (repeat' (first
 | refine Qs ?_
 | refine Qc (id:=0) Γ29_ok [] (by kernel_rfl) ?_;simp [-zg,-zd,↓Qb,↓Qa,go_sem,Ja];try (refine Xb hK 1 ?_;simp [go_sem])
 | refine Qc (id:=1) Γ29_ok [] (by kernel_rfl) ?_;simp [-zg,-zd,↓Qb,↓Qa,go_sem,Ja]
 | (refine Qe ?_)
 | (refine Qr ?_;simp [-zg,-zd,↓Qb,↓Qa,go_sem])
 | (refine Qq ?_;simp [-zg,-zd,↓Qb,↓Qa,go_sem])
 | (refine Qp ?_;simp [-zg,-zd,↓Qb,↓Qa,go_sem,Try.results52,Ja])
 | (intro hx;refine zA ?_)
 | (refine ⟨?_,?_⟩ <;> refine zA ?_)
 | (intro hx;constructor <;> intro hs)
 | (constructor <;> intro hs)
 | (refine ⟨?_,fun hs=>?_⟩;refine zA ?_)
 | (refine ⟨fun hs=>?_,?_⟩;rotate_left;refine zA ?_;rotate_left)))
@[go_sem] def zact:Con:=.pure fun
  | [.st [.list n_a c_a,.list n_b c_b]]=>((Is cI n_a c_a) ∧ (Is cI n_b c_b),.bool (Ja ((de cI c_a),(de cI c_b))))
  | _=>(False,.any)
theorem zahg:ConOk Try.prog 52 zact:=by
  refine ⟨Qn Try.func52 (by decide) rfl,fun args h=>?_⟩
  revert h
  dsimp only
  split
  · intro h
    obtain ⟨⟨a,rfl,rfl⟩,⟨b,rfl,rfl⟩⟩:=h
    try simp only [Qo] at *
    exact ⟨zand a b,by simp [go_sem]⟩
  · intro h
    exact h.elim
@[go_sem] def Γ30:FuncId → Con:=ext Γ29 52 zact
theorem Wb:∀ g,ConOk Try.prog g (Γ30 g):=Qm Γ29_ok zahg

theorem zaok (xs:List Ints2)   : Pure Try.prog 101 [li cP xs,.fn 52 []] (.int .i64 (findI (Ja) xs)):=by
  refine Pure.of_walk Try.func101 rfl (by simp [Try.f101]) (by simp [-zd,go_sem]) fun B hK=>?_
  (repeat' (first
 | refine Qs ?_
 | (refine Zn 0 rfl fun hm=>?_);refine Qc (id:=0) Wb [] (by kernel_rfl) ?_;simp [-zg,-zd,↓Qb,↓Qa,go_sem]
 | refine Qc (id:=1) Wb [] (by kernel_rfl) ?_;simp [-zg,-zd,↓Qb,↓Qa,go_sem]
 | refine Qc (id:=2) Wb [] (by kernel_rfl) ?_;simp [-zg,-zd,↓Qb,↓Qa,go_sem]
 | refine Qc (id:=3) Wb [] (by kernel_rfl) ?_;simp [-zg,-zd,↓Qb,↓Qa,go_sem]
 | refine Qc (id:=4) Wb [] (by kernel_rfl) ?_;simp [-zg,-zd,↓Qb,↓Qa,go_sem,c9,Qg c9,zsP c9]
 | refine Qc (id:=5) Wb [] (by kernel_rfl) ?_;simp [-zg,-zd,↓Qb,↓Qa,go_sem]
 | refine Qc (id:=6) Wb [] (by kernel_rfl) ?_;simp [-zg,-zd,↓Qb,↓Qa,go_sem,wrapS (k:=k) (by omega)]
 | refine Qc (id:=7) Wb [] (by kernel_rfl) ?_;simp [-zg,-zd,↓Qb,↓Qa,go_sem]
 | refine Qd (c:=.tmp 9) ?_;simp [-zg,-zd,↓Qb,↓Qa,go_sem];try first | (refine ⟨?_,?_⟩ <;> refine zA ?_) | (refine ⟨fun c9=>?_,fun c9=>?_⟩ <;> (try simp [B_iff,B_not] at c9))
 | refine Qd (c:=.tmp 16) ?_;simp [-zg,-zd,↓Qb,↓Qa,go_sem];try first | (refine ⟨?_,?_⟩ <;> refine zA ?_) | (refine ⟨fun c16=>?_,fun c16=>?_⟩ <;> (try simp [B_iff,B_not] at c16))
 | (refine Qe (id:=0) (Qy (ι:=Nat) (fun k:Nat=>⟨(upd (upd (upd (upd (upd (fun _=>.any) 0 (li cP xs)) 1 (.fn 52 [])) 6 (li cP xs)) 7 (.int .i64 xs.length)) 8 (.int .i64 k)),fun _=>none⟩) (fun k=>k ≤ xs.length ∧ NoneTill (fun i=>(Ja) (nth xs i)) k) (fun k=>xs.length - k) (0) ?_ ?_ ?_);exact ⟨Nat.zero_le _,.zero _⟩;((repeat' (first | exact Qh (by assumption) | exact Qj | refine Qk ?_ ?_ | refine Qi ?_)) <;> simp [-zg,-zd,↓Qb,↓Qa,go_sem]);rintro k ⟨hk,ht⟩)
 | (refine ⟨k + 1,⟨by omega,ht.succ (by simp_all)⟩,by first | omega | (simp;done) | (simp;omega),?_⟩;((repeat' (first | exact Qh (by assumption) | exact Qj | refine Qk ?_ ?_ | refine Qi ?_)) <;> simp [-zg,-zd,↓Qb,↓Qa,go_sem]))
 | (refine Qe ?_)
 | (refine Qr ?_;simp [-zg,-zd,↓Qb,↓Qa,go_sem])
 | (refine Qq ?_;simp [-zg,-zd,↓Qb,↓Qa,go_sem])
 | (refine Qp ?_;simp [-zg,-zd,↓Qb,↓Qa,go_sem,Try.results101])
 | (intro hx;refine zA ?_)
 | (refine ⟨?_,?_⟩ <;> refine zA ?_)
 | (intro hx;constructor <;> intro hs)
 | (constructor <;> intro hs)
 | (refine ⟨?_,fun hs=>?_⟩;refine zA ?_)
 | (refine ⟨fun hs=>?_,?_⟩;rotate_left;refine zA ?_;rotate_left)))
  all_goals (first
 | (rw [zajq ht c9 (by simp_all)])
 | (rw [zafj ht (by omega)])
 | skip)
@[go_sem] def zadi:Con:=.pure fun
  | [.list n_xs c_xs,.fn 52 []]=>((Is cP n_xs c_xs),.int .i64 (findI (Ja) (de cP c_xs)))
  | _=>(False,.any)
theorem zaih:ConOk Try.prog 101 zadi:=by
  refine ⟨Qn Try.func101 (by decide) rfl,fun args h=>?_⟩
  revert h
  dsimp only
  split
  · intro h
    obtain ⟨xs,rfl,rfl⟩:=h
    try simp only [Qo] at *
    exact ⟨zaok xs ,by simp [go_sem]⟩
  · intro h
    exact h.elim
@[go_sem] def Γ31:FuncId → Con:=ext Γ30 101 zadi
theorem Γ31_ok:∀ g,ConOk Try.prog g (Γ31 g):=Qm Wb zaih

theorem zajs (xs:List Ints2)   : Pure Try.prog 51 [li cP xs,.fn 52 []] (.bool (decide (0 ≤ findI Ja xs))):=by
  refine Pure.of_walk Try.func51 rfl (by simp [Try.f51]) (by simp [-zd,go_sem]) fun B hK=>?_
  (repeat' (first
 | refine Qs ?_
 | refine Qc (id:=0) Γ31_ok [] (by kernel_rfl) ?_;simp [-zg,-zd,↓Qb,↓Qa,go_sem]
 | refine Qc (id:=1) Γ31_ok [] (by kernel_rfl) ?_;simp [-zg,-zd,↓Qb,↓Qa,go_sem]
 | (refine Qe ?_)
 | (refine Qr ?_;simp [-zg,-zd,↓Qb,↓Qa,go_sem])
 | (refine Qq ?_;simp [-zg,-zd,↓Qb,↓Qa,go_sem])
 | (refine Qp ?_;simp [-zg,-zd,↓Qb,↓Qa,go_sem,Try.results51])
 | (intro hx;refine zA ?_)
 | (refine ⟨?_,?_⟩ <;> refine zA ?_)
 | (intro hx;constructor <;> intro hs)
 | (constructor <;> intro hs)
 | (refine ⟨?_,fun hs=>?_⟩;refine zA ?_)
 | (refine ⟨fun hs=>?_,?_⟩;rotate_left;refine zA ?_;rotate_left)))
@[go_sem] def zabv:Con:=.pure fun
  | [.list n_xs c_xs,.fn 52 []]=>((Is cP n_xs c_xs),.bool (decide (0 ≤ findI Ja (de cP c_xs))))
  | _=>(False,.any)
theorem zafn:ConOk Try.prog 51 zabv:=by
  refine ⟨Qn Try.func51 (by decide) rfl,fun args h=>?_⟩
  revert h
  dsimp only
  split
  · intro h
    obtain ⟨xs,rfl,rfl⟩:=h
    try simp only [Qo] at *
    exact ⟨zajs xs ,by simp [go_sem]⟩
  · intro h
    exact h.elim
@[go_sem] def Γ32:FuncId → Con:=ext Γ31 51 zabv
theorem Wa:∀ g,ConOk Try.prog g (Γ32 g):=Qm Γ31_ok zafn

def isN (n:Int) (x:Int):Bool:=decide (n = x)
theorem findI_isN {n:Int} {xs:List Int}:(0 ≤ findI (isN n) xs) = (n ∈ xs):=by
  rw [findI_ge,Zs];simp only [isN,decide_eq_true_eq]
  rw [eq_iff_iff];exact ⟨fun ⟨i,h,e⟩=>⟨i,h,e.symm⟩,fun ⟨i,h,e⟩=>⟨i,h,e.symm⟩⟩

theorem index_pure (xs:List Int) (n:Int)  : Pure Try.prog 36 [li cI xs,.int .i64 n] (.int .i64 (findI (isN n) xs)):=by
  refine Pure.of_walk Try.func36 rfl (by simp [Try.f36]) (by simp [-zd,go_sem]) fun B hK=>?_
  (repeat' (first
 | refine Qs ?_
 | (refine Zn 0 rfl fun hm=>?_);refine Qc (id:=0) Wa [] (by kernel_rfl) ?_;simp [-zg,-zd,↓Qb,↓Qa,go_sem]
 | refine Qc (id:=1) Wa [] (by kernel_rfl) ?_;simp [-zg,-zd,↓Qb,↓Qa,go_sem]
 | refine Qc (id:=2) Wa [] (by kernel_rfl) ?_;simp [-zg,-zd,↓Qb,↓Qa,go_sem]
 | refine Qc (id:=3) Wa [] (by kernel_rfl) ?_;simp [-zg,-zd,↓Qb,↓Qa,go_sem]
 | refine Qc (id:=4) Wa [] (by kernel_rfl) ?_;simp [-zg,-zd,↓Qb,↓Qa,go_sem,c9,Qg c9,zsP c9]
 | refine Qc (id:=5) Wa [] (by kernel_rfl) ?_;simp [-zg,-zd,↓Qb,↓Qa,go_sem]
 | refine Qc (id:=6) Wa [] (by kernel_rfl) ?_;simp [-zg,-zd,↓Qb,↓Qa,go_sem,wrapS (k:=k) (by omega)]
 | refine Qc (id:=7) Wa [] (by kernel_rfl) ?_;simp [-zg,-zd,↓Qb,↓Qa,go_sem]
 | refine Qd (c:=.tmp 9) ?_;simp [-zg,-zd,↓Qb,↓Qa,go_sem];try first | (refine ⟨?_,?_⟩ <;> refine zA ?_) | (refine ⟨fun c9=>?_,fun c9=>?_⟩ <;> (try simp [B_iff,B_not] at c9))
 | refine Qd (c:=.tmp 16) ?_;simp [-zg,-zd,↓Qb,↓Qa,go_sem];try first | (refine ⟨?_,?_⟩ <;> refine zA ?_) | (refine ⟨fun c16=>?_,fun c16=>?_⟩ <;> (try simp [B_iff,B_not] at c16))
 | (refine Qe (id:=0) (Qy (ι:=Nat) (fun k:Nat=>⟨(upd (upd (upd (upd (upd (fun _=>.any) 0 (li cI xs)) 1 (.int .i64 n)) 6 (li cI xs)) 7 (.int .i64 xs.length)) 8 (.int .i64 k)),fun _=>none⟩) (fun k=>k ≤ xs.length ∧ NoneTill (fun i=>isN n (nth xs i)) k) (fun k=>xs.length - k) (0) ?_ ?_ ?_);exact ⟨Nat.zero_le _,.zero _⟩;((repeat' (first | exact Qh (by assumption) | exact Qj | refine Qk ?_ ?_ | refine Qi ?_)) <;> simp [-zg,-zd,↓Qb,↓Qa,go_sem]);rintro k ⟨hk,ht⟩)
 | (refine ⟨k + 1,⟨by omega,ht.succ (by simp_all [isN])⟩,by first | omega | (simp;done) | (simp;omega),?_⟩;((repeat' (first | exact Qh (by assumption) | exact Qj | refine Qk ?_ ?_ | refine Qi ?_)) <;> simp [-zg,-zd,↓Qb,↓Qa,go_sem]))
 | (refine Qe ?_)
 | (refine Qr ?_;simp [-zg,-zd,↓Qb,↓Qa,go_sem])
 | (refine Qq ?_;simp [-zg,-zd,↓Qb,↓Qa,go_sem])
 | (refine Qp ?_;simp [-zg,-zd,↓Qb,↓Qa,go_sem,Try.results36])
 | (intro hx;refine zA ?_)
 | (refine ⟨?_,?_⟩ <;> refine zA ?_)
 | (intro hx;constructor <;> intro hs)
 | (constructor <;> intro hs)
 | (refine ⟨?_,fun hs=>?_⟩;refine zA ?_)
 | (refine ⟨fun hs=>?_,?_⟩;rotate_left;refine zA ?_;rotate_left)))
  all_goals (first
 | (rw [zajq ht c9 (by simp_all [isN])])
 | (rw [zafj ht (by omega)])
 | skip)
@[go_sem] def zajl:Con:=.pure fun
  | [.list n_xs c_xs,.int .i64 n]=>((Is cI n_xs c_xs),.int .i64 (findI (isN n) (de cI c_xs)))
  | _=>(False,.any)
theorem index_pureC_ok:ConOk Try.prog 36 zajl:=by
  refine ⟨Qn Try.func36 (by decide) rfl,fun args h=>?_⟩
  revert h
  dsimp only
  split
  · intro h
    obtain ⟨xs,rfl,rfl⟩:=h
    try simp only [Qo] at *
    exact ⟨index_pure xs _,by simp [go_sem]⟩
  · intro h
    exact h.elim
@[go_sem] def Γ33:FuncId → Con:=ext Γ32 36 zajl
theorem Γ33_ok:∀ g,ConOk Try.prog g (Γ33 g):=Qm Wa index_pureC_ok

theorem contains_pure (xs:List Int) (n:Int)  : Pure Try.prog 38 [li cI xs,.int .i64 n] (.bool (B (n ∈ xs))):=by
  refine Pure.of_walk Try.func38 rfl (by simp [Try.f38]) (by simp [-zd,go_sem]) fun B hK=>?_
  (repeat' (first
 | refine Qs ?_
 | refine Qc (id:=0) Γ33_ok [] (by kernel_rfl) ?_;simp [-zg,-zd,↓Qb,↓Qa,go_sem,findI_isN]
 | refine Qc (id:=1) Γ33_ok [] (by kernel_rfl) ?_;simp [-zg,-zd,↓Qb,↓Qa,go_sem,findI_isN]
 | (refine Qe ?_)
 | (refine Qr ?_;simp [-zg,-zd,↓Qb,↓Qa,go_sem])
 | (refine Qq ?_;simp [-zg,-zd,↓Qb,↓Qa,go_sem])
 | (refine Qp ?_;simp [-zg,-zd,↓Qb,↓Qa,go_sem,Try.results38,findI_isN])
 | (intro hx;refine zA ?_)
 | (refine ⟨?_,?_⟩ <;> refine zA ?_)
 | (intro hx;constructor <;> intro hs)
 | (constructor <;> intro hs)
 | (refine ⟨?_,fun hs=>?_⟩;refine zA ?_)
 | (refine ⟨fun hs=>?_,?_⟩;rotate_left;refine zA ?_;rotate_left)))
  all_goals (rw [Bool.eq_iff_iff,B_iff,decide_eq_true_eq])
@[go_sem] def zaer:Con:=.pure fun
  | [.list n_xs c_xs,.int .i64 n]=>((Is cI n_xs c_xs),.bool (B (n ∈ (de cI c_xs))))
  | _=>(False,.any)
theorem zakn:ConOk Try.prog 38 zaer:=by
  refine ⟨Qn Try.func38 (by decide) rfl,fun args h=>?_⟩
  revert h
  dsimp only
  split
  · intro h
    obtain ⟨xs,rfl,rfl⟩:=h
    try simp only [Qo] at *
    exact ⟨contains_pure xs _,by simp [go_sem]⟩
  · intro h
    exact h.elim
@[go_sem] def Γ34:FuncId → Con:=ext Γ33 38 zaer
theorem Uz:∀ g,ConOk Try.prog g (Γ34 g):=Qm Γ33_ok zakn

theorem distinct_pure (xs:List Int) (n:Int) (h0:0 ≤ n) (h1:n ≤ 9223372036854775807):Pure Try.prog 56 [li cI xs,.int .i64 n] (.bool (B (Dist xs n))):=by
  refine Pure.of_walk Try.func56 rfl (by simp [Try.f56]) (by simp [-zd,go_sem]) fun B hK=>?_
  (repeat' (first
 | refine Qs ?_
 | (refine Zn 0 rfl fun hm=>?_);refine Qc (id:=0) Uz [] (by kernel_rfl) ?_;simp [-zg,-zd,↓Qb,↓Qa,go_sem]
 | refine Qc (id:=1) Uz [] (by kernel_rfl) ?_;simp [-zg,-zd,↓Qb,↓Qa,go_sem]
 | refine Qc (id:=2) Uz [] (by kernel_rfl) ?_;simp [-zg,-zd,↓Qb,↓Qa,go_sem]
 | refine Qc (id:=3) Uz [] (by kernel_rfl) ?_;simp [-zg,-zd,↓Qb,↓Qa,go_sem,c10,Qg c10,zsP c10]
 | refine Qc (id:=4) Uz [19] (by kernel_rfl) ?_;simp [-zg,-zd,↓Qb,↓Qa,go_sem,c10,Qg c10,zsP c10,Qz (x:=n - 1) (by omega) (by omega),Nat.le_of_lt c10];try (refine ⟨fun s4a=>?_,fun s4a=>?_⟩ <;> (try simp [B_iff,B_not] at s4a) <;> try (refine ⟨fun s4b=>?_,fun s4b=>?_⟩ <;> (try simp [B_iff,B_not] at s4b)))
 | refine Qc (id:=5) Uz [] (by kernel_rfl) ?_;simp [-zg,-zd,↓Qb,↓Qa,go_sem]
 | refine Qc (id:=6) Uz [] (by kernel_rfl) ?_;simp [-zg,-zd,↓Qb,↓Qa,go_sem,wrapS (k:=k) (by omega)]
 | refine Qc (id:=7) Uz [] (by kernel_rfl) ?_;simp [-zg,-zd,↓Qb,↓Qa,go_sem]
 | refine Qd (c:=.tmp 10) ?_;simp [-zg,-zd,↓Qb,↓Qa,go_sem];try first | (refine ⟨?_,?_⟩ <;> refine zA ?_) | (refine ⟨fun c10=>?_,fun c10=>?_⟩ <;> (try simp [B_iff,B_not] at c10))
 | refine Qd (c:=.tmp 25) ?_;simp [-zg,-zd,↓Qb,↓Qa,go_sem];try first | (refine ⟨?_,?_⟩ <;> refine zA ?_) | (refine ⟨fun c25=>?_,fun c25=>?_⟩ <;> (try simp [B_iff,B_not] at c25))
 | (refine Qe (id:=0) (Qy (ι:=Nat) (fun k:Nat=>⟨(upd (upd (upd (upd (upd (fun _=>.any) 0 (li cI xs)) 1 (.int .i64 n)) 7 (li cI xs)) 8 (.int .i64 xs.length)) 9 (.int .i64 k)),fun _=>none⟩) (fun k=>k ≤ xs.length ∧ AllTill (fun i=>0 ≤ nth xs i ∧ nth xs i ≤ n - 1 ∧ ¬ nth xs i ∈ xs.take i) k) (fun k=>xs.length - k) (0) ?_ ?_ ?_);exact ⟨Nat.zero_le _,.zero _⟩;((repeat' (first | exact Qh (by assumption) | exact Qj | refine Qk ?_ ?_ | refine Qi ?_)) <;> simp [-zg,-zd,↓Qb,↓Qa,go_sem]);rintro k ⟨hk,ht⟩)
 | (refine ⟨k + 1,⟨by omega,ht.succ ⟨by omega,by omega,c25⟩⟩,by first | omega | (simp;done) | (simp;omega),?_⟩;((repeat' (first | exact Qh (by assumption) | exact Qj | refine Qk ?_ ?_ | refine Qi ?_)) <;> simp [-zg,-zd,↓Qb,↓Qa,go_sem]))
 | (refine Qe ?_)
 | (refine Qr ?_;simp [-zg,-zd,↓Qb,↓Qa,go_sem])
 | (refine Qq ?_;simp [-zg,-zd,↓Qb,↓Qa,go_sem])
 | (refine Qp ?_;simp [-zg,-zd,↓Qb,↓Qa,go_sem,Try.results56])
 | (intro hx;refine zA ?_)
 | (refine ⟨?_,?_⟩ <;> refine zA ?_)
 | (intro hx;constructor <;> intro hs)
 | (constructor <;> intro hs)
 | (refine ⟨?_,fun hs=>?_⟩;refine zA ?_)
 | (refine ⟨fun hs=>?_,?_⟩;rotate_left;refine zA ?_;rotate_left)))
  all_goals (first
 | (intro h;obtain ⟨h1,h2,h3⟩:=h k c10;omega)
 | (intro h;exact (h k c10).2.2 c25)
 | exact fun i hi=>ht i (by omega)
 | skip)
@[go_sem] def zaeq:Con:=.pure fun
  | [.list n_xs c_xs,.int .i64 n]=>((Is cI n_xs c_xs) ∧ (0 ≤ n) ∧ (n ≤ 9223372036854775807),.bool (B (Dist (de cI c_xs) n)))
  | _=>(False,.any)
theorem zakm:ConOk Try.prog 56 zaeq:=by
  refine ⟨Qn Try.func56 (by decide) rfl,fun args h=>?_⟩
  revert h
  dsimp only
  split
  · intro h
    obtain ⟨⟨xs,rfl,rfl⟩,h0,h1⟩:=h
    try simp only [Qo] at *
    exact ⟨distinct_pure xs _ h0 h1,by simp [go_sem]⟩
  · intro h
    exact h.elim
@[go_sem] def Γ35:FuncId → Con:=ext Γ34 56 zaeq
theorem Γ35_ok:∀ g,ConOk Try.prog g (Γ35 g):=Qm Uz zakm

def Jl (n:Int) (xs:List Int):Bool:=decide (xs.length = 0) || !B (Dist xs n)

theorem zanc (xs:List Int) (n:Int) (h0:0 ≤ n) (h1:n ≤ 9223372036854775807):Pure Try.prog 55 [li cI xs,.pd [.int .i64 n]] (.bool (Jl n xs)):=by
  refine Pure.of_walk Try.func55 rfl (by simp [Try.f55]) (by simp [-zd,go_sem]) fun B hK=>?_
  (repeat' (first
 | refine Qs ?_
 | refine Qc (id:=0) Γ35_ok [] (by kernel_rfl) ?_;simp [-zg,-zd,↓Qb,↓Qa,go_sem,Jl]
 | refine Qc (id:=1) Γ35_ok [7] (by kernel_rfl) ?_;simp [-zg,-zd,↓Qb,↓Qa,go_sem,h0,h1,Jl];try (refine ⟨fun s1a=>?_,fun s1a=>?_⟩ <;> (try simp [B_iff,B_not] at s1a) <;> try (refine ⟨fun s1b=>?_,fun s1b=>?_⟩ <;> (try simp [B_iff,B_not] at s1b)))
 | (refine Qe ?_)
 | (refine Qr ?_;simp [-zg,-zd,↓Qb,↓Qa,go_sem])
 | (refine Qq ?_;simp [-zg,-zd,↓Qb,↓Qa,go_sem])
 | (refine Qp ?_;simp [-zg,-zd,↓Qb,↓Qa,go_sem,Try.results55,Jl])
 | (intro hx;refine zA ?_)
 | (refine ⟨?_,?_⟩ <;> refine zA ?_)
 | (intro hx;constructor <;> intro hs)
 | (constructor <;> intro hs)
 | (refine ⟨?_,fun hs=>?_⟩;refine zA ?_)
 | (refine ⟨fun hs=>?_,?_⟩;rotate_left;refine zA ?_;rotate_left)))
  all_goals (first
 | exact .inl s1a
 | (intro h;exact absurd h s1a)
 | skip)
@[go_sem] def zacs:Con:=.pure fun
  | [.list n_xs c_xs,.pd [.int .i64 n]]=>((Is cI n_xs c_xs) ∧ (0 ≤ n) ∧ (n ≤ 9223372036854775807),.bool (Jl n (de cI c_xs)))
  | _=>(False,.any)
theorem zahf:ConOk Try.prog 55 zacs:=by
  refine ⟨Qn Try.func55 (by decide) rfl,fun args h=>?_⟩
  revert h
  dsimp only
  split
  · intro h
    obtain ⟨⟨xs,rfl,rfl⟩,h0,h1⟩:=h
    try simp only [Qo] at *
    exact ⟨zanc xs _ h0 h1,by simp [go_sem]⟩
  · intro h
    exact h.elim
@[go_sem] def Γ36:FuncId → Con:=ext Γ35 55 zacs
theorem Uy:∀ g,ConOk Try.prog g (Γ36 g):=Qm Γ35_ok zahf

theorem indexNext_pure (xs:List (List Int)) (n:Int) (h0:0 ≤ n) (h1:n ≤ 9223372036854775807):Pure Try.prog 104 [li cL xs,.fn 55 [.pd [.int .i64 n]]] (.int .i64 (findI (Jl n) xs)):=by
  refine Pure.of_walk Try.func104 rfl (by simp [Try.f104]) (by simp [-zd,go_sem]) fun B hK=>?_
  (repeat' (first
 | refine Qs ?_
 | (refine Zn 0 rfl fun hm=>?_);refine Qc (id:=0) Uy [] (by kernel_rfl) ?_;simp [-zg,-zd,↓Qb,↓Qa,go_sem]
 | refine Qc (id:=1) Uy [] (by kernel_rfl) ?_;simp [-zg,-zd,↓Qb,↓Qa,go_sem]
 | refine Qc (id:=2) Uy [] (by kernel_rfl) ?_;simp [-zg,-zd,↓Qb,↓Qa,go_sem]
 | refine Qc (id:=3) Uy [] (by kernel_rfl) ?_;simp [-zg,-zd,↓Qb,↓Qa,go_sem]
 | refine Qc (id:=4) Uy [] (by kernel_rfl) ?_;simp [-zg,-zd,↓Qb,↓Qa,go_sem,c9,Qg c9,zsP c9,h0,h1]
 | refine Qc (id:=5) Uy [] (by kernel_rfl) ?_;simp [-zg,-zd,↓Qb,↓Qa,go_sem]
 | refine Qc (id:=6) Uy [] (by kernel_rfl) ?_;simp [-zg,-zd,↓Qb,↓Qa,go_sem,wrapS (k:=k) (by omega)]
 | refine Qc (id:=7) Uy [] (by kernel_rfl) ?_;simp [-zg,-zd,↓Qb,↓Qa,go_sem]
 | refine Qd (c:=.tmp 9) ?_;simp [-zg,-zd,↓Qb,↓Qa,go_sem];try first | (refine ⟨?_,?_⟩ <;> refine zA ?_) | (refine ⟨fun c9=>?_,fun c9=>?_⟩ <;> (try simp [B_iff,B_not] at c9))
 | refine Qd (c:=.tmp 16) ?_;simp [-zg,-zd,↓Qb,↓Qa,go_sem];try first | (refine ⟨?_,?_⟩ <;> refine zA ?_) | (refine ⟨fun c16=>?_,fun c16=>?_⟩ <;> (try simp [B_iff,B_not] at c16))
 | (refine Qe (id:=0) (Qy (ι:=Nat) (fun k:Nat=>⟨(upd (upd (upd (upd (upd (fun _=>.any) 0 (li cL xs)) 1 (.fn 55 [.pd [.int .i64 n]])) 6 (li cL xs)) 7 (.int .i64 xs.length)) 8 (.int .i64 k)),fun _=>none⟩) (fun k=>k ≤ xs.length ∧ NoneTill (fun i=>(Jl n) (nth xs i)) k) (fun k=>xs.length - k) (0) ?_ ?_ ?_);exact ⟨Nat.zero_le _,.zero _⟩;((repeat' (first | exact Qh (by assumption) | exact Qj | refine Qk ?_ ?_ | refine Qi ?_)) <;> simp [-zg,-zd,↓Qb,↓Qa,go_sem]);rintro k ⟨hk,ht⟩)
 | (refine ⟨k + 1,⟨by omega,ht.succ (by simp_all)⟩,by first | omega | (simp;done) | (simp;omega),?_⟩;((repeat' (first | exact Qh (by assumption) | exact Qj | refine Qk ?_ ?_ | refine Qi ?_)) <;> simp [-zg,-zd,↓Qb,↓Qa,go_sem]))
 | (refine Qe ?_)
 | (refine Qr ?_;simp [-zg,-zd,↓Qb,↓Qa,go_sem])
 | (refine Qq ?_;simp [-zg,-zd,↓Qb,↓Qa,go_sem])
 | (refine Qp ?_;simp [-zg,-zd,↓Qb,↓Qa,go_sem,Try.results104])
 | (intro hx;refine zA ?_)
 | (refine ⟨?_,?_⟩ <;> refine zA ?_)
 | (intro hx;constructor <;> intro hs)
 | (constructor <;> intro hs)
 | (refine ⟨?_,fun hs=>?_⟩;refine zA ?_)
 | (refine ⟨fun hs=>?_,?_⟩;rotate_left;refine zA ?_;rotate_left)))
  all_goals (first
 | (rw [zajq ht c9 (by simp_all)])
 | (rw [zafj ht (by omega)])
 | skip)
@[go_sem] def zadt:Con:=.pure fun
  | [.list n_xs c_xs,.fn 55 [.pd [.int .i64 n]]]=>((Is cL n_xs c_xs) ∧ (0 ≤ n) ∧ (n ≤ 9223372036854775807),.int .i64 (findI (Jl n) (de cL c_xs)))
  | _=>(False,.any)
theorem zajm:ConOk Try.prog 104 zadt:=by
  refine ⟨Qn Try.func104 (by decide) rfl,fun args h=>?_⟩
  revert h
  dsimp only
  split
  · intro h
    obtain ⟨⟨xs,rfl,rfl⟩,h0,h1⟩:=h
    try simp only [Qo] at *
    exact ⟨indexNext_pure xs _ h0 h1,by simp [go_sem]⟩
  · intro h
    exact h.elim
@[go_sem] def Γ37:FuncId → Con:=ext Γ36 104 zadt
theorem Γ37_ok:∀ g,ConOk Try.prog g (Γ37 g):=Qm Uy zajm

theorem zako (xs:List (List Int)) (n:Int) (h0:0 ≤ n) (h1:n ≤ 9223372036854775807):Pure Try.prog 54 [li cL xs,.fn 55 [.pd [.int .i64 n]]] (.bool (decide (0 ≤ findI (Jl n) xs))):=by
  refine Pure.of_walk Try.func54 rfl (by simp [Try.f54]) (by simp [-zd,go_sem]) fun B hK=>?_
  (repeat' (first
 | refine Qs ?_
 | refine Qc (id:=0) Γ37_ok [] (by kernel_rfl) ?_;simp [-zg,-zd,↓Qb,↓Qa,go_sem]
 | refine Qc (id:=1) Γ37_ok [] (by kernel_rfl) ?_;simp [-zg,-zd,↓Qb,↓Qa,go_sem,h0,h1]
 | (refine Qe ?_)
 | (refine Qr ?_;simp [-zg,-zd,↓Qb,↓Qa,go_sem])
 | (refine Qq ?_;simp [-zg,-zd,↓Qb,↓Qa,go_sem])
 | (refine Qp ?_;simp [-zg,-zd,↓Qb,↓Qa,go_sem,Try.results54])
 | (intro hx;refine zA ?_)
 | (refine ⟨?_,?_⟩ <;> refine zA ?_)
 | (intro hx;constructor <;> intro hs)
 | (constructor <;> intro hs)
 | (refine ⟨?_,fun hs=>?_⟩;refine zA ?_)
 | (refine ⟨fun hs=>?_,?_⟩;rotate_left;refine zA ?_;rotate_left)))
@[go_sem] def zach:Con:=.pure fun
  | [.list n_xs c_xs,.fn 55 [.pd [.int .i64 n]]]=>((Is cL n_xs c_xs) ∧ (0 ≤ n) ∧ (n ≤ 9223372036854775807),.bool (decide (0 ≤ findI (Jl n) (de cL c_xs))))
  | _=>(False,.any)
theorem zagi:ConOk Try.prog 54 zach:=by
  refine ⟨Qn Try.func54 (by decide) rfl,fun args h=>?_⟩
  revert h
  dsimp only
  split
  · intro h
    obtain ⟨⟨xs,rfl,rfl⟩,h0,h1⟩:=h
    try simp only [Qo] at *
    exact ⟨zako xs _ h0 h1,by simp [go_sem]⟩
  · intro h
    exact h.elim
@[go_sem] def Γ38:FuncId → Con:=ext Γ37 54 zach
theorem Γ38_ok:∀ g,ConOk Try.prog g (Γ38 g):=Qm Γ37_ok zagi

theorem find_bad {a:List Ints2}:(0 ≤ findI Ja a) = ¬ ∀ i,i < a.length → ValsOk (nth a i).2:=by
  rw [findI_ge,eq_iff_iff]
  constructor
  · rintro ⟨i,h,e⟩ k
    simp [Ja,B_not] at e
    exact e (k i h)
  · intro h
    apply Classical.byContradiction;intro h2
    apply h;intro i hi
    apply Classical.byContradiction;intro h3
    exact h2 ⟨i,hi,by simp [Ja,B_not];exact h3⟩
theorem find_next {b:List (List Int)} {n:Int}:(0 ≤ findI (Jl n) b) = ¬ ∀ i,i < b.length → 1 ≤ (nth b i).length ∧ Dist (nth b i) n:=by
  rw [findI_ge,eq_iff_iff]
  constructor
  · rintro ⟨i,h,e⟩ k
    obtain ⟨k1,k2⟩:=k i h
    simp only [Jl,Bool.or_eq_true,decide_eq_true_eq,Bool.not_eq_true',B_not] at e
    rcases e with e | e
    · omega
    · exact e k2
  · intro h
    apply Classical.byContradiction;intro h2
    apply h;intro i hi
    apply Classical.byContradiction;intro h3
    refine h2 ⟨i,hi,?_⟩
    simp only [Jl,Bool.or_eq_true,decide_eq_true_eq,Bool.not_eq_true',B_not]
    rcases Nat.eq_zero_or_pos (nth b i).length with h4 | h4
    · exact .inl h4
    · exact .inr fun h5=>h3 ⟨h4,h5⟩

theorem zaii (a:List Ints2) (b:List (List Int))  : Pure Try.prog 12 [.st [li cP a,li cL b]] (.bool (B (GraphOk a b))):=by
  refine Pure.of_walk Try.func12 rfl (by simp [Try.f12]) (by simp [-zd,go_sem]) fun B hK=>?_
  (repeat' (first
 | refine Qs ?_
 | refine Qc (id:=0) Γ38_ok [] (by kernel_rfl) ?_;simp [-zg,-zd,↓Qb,↓Qa,go_sem];try (refine Xb hK 1 ?_;simp [go_sem])
 | (refine AW_lenP 1 0 ⟨rfl,rfl⟩ fun hm=>?_);refine Qc (id:=1) Γ38_ok [] (by kernel_rfl) ?_;simp [-zg,-zd,↓Qb,↓Qa,go_sem];try (refine Xb hK 3 ?_;simp [go_sem])
 | refine Qc (id:=2) Γ38_ok [9,16,22] (by kernel_rfl) ?_;simp [-zg,-zd,↓Qb,↓Qa,go_sem,(by omega:(a.length:Int) ≤ 9223372036854775807)];try (refine ⟨fun s2a=>?_,fun s2a=>?_⟩ <;> (try simp [B_iff,B_not] at s2a) <;> try (refine ⟨fun s2b=>?_,fun s2b=>?_⟩ <;> (try simp [B_iff,B_not] at s2b) <;> try (refine ⟨fun s2c=>?_,fun s2c=>?_⟩ <;> (try simp [B_iff,B_not] at s2c) <;> try (refine ⟨fun s2d=>?_,fun s2d=>?_⟩ <;> (try simp [B_iff,B_not] at s2d)))))
 | (refine Qe ?_)
 | (refine Qr ?_;simp [-zg,-zd,↓Qb,↓Qa,go_sem])
 | (refine Qq ?_;simp [-zg,-zd,↓Qb,↓Qa,go_sem])
 | (refine Qp ?_;simp [-zg,-zd,↓Qb,↓Qa,go_sem,Try.results12])
 | (intro hx;refine zA ?_)
 | (refine ⟨?_,?_⟩ <;> refine zA ?_)
 | (intro hx;constructor <;> intro hs)
 | (constructor <;> intro hs)
 | (refine ⟨?_,fun hs=>?_⟩;refine zA ?_)
 | (refine ⟨fun hs=>?_,?_⟩;rotate_left;refine zA ?_;rotate_left)))
  all_goals (first
 | (rintro ⟨g1,g2,g3,g4,g5⟩;omega)
 | (rintro ⟨g1,g2,g3,g4,g5⟩;have k:0 ≤ findI Ja a:=(by omega);rw [find_bad] at k;exact k g4)
 | (rw [Bool.eq_iff_iff,decide_eq_true_eq,find_next,Bool.not_eq_true',B_not];have hv:∀ i,i < a.length → ValsOk (nth a i).2:=(Classical.byContradiction fun k=>by rw [← find_bad] at k;omega);exact ⟨fun h k=>h k.2.2.2.2,fun h k=>h ⟨by omega,by omega,by omega,hv,k⟩⟩)
 | skip)
@[go_sem] def zabm:Con:=.pure fun
  | [.st [.list n_a c_a,.list n_b c_b]]=>((Is cP n_a c_a) ∧ (Is cL n_b c_b),.bool (B (GraphOk (de cP c_a) (de cL c_b))))
  | _=>(False,.any)
theorem zaev:ConOk Try.prog 12 zabm:=by
  refine ⟨Qn Try.func12 (by decide) rfl,fun args h=>?_⟩
  revert h
  dsimp only
  split
  · intro h
    obtain ⟨⟨a,rfl,rfl⟩,⟨b,rfl,rfl⟩⟩:=h
    try simp only [Qo] at *
    exact ⟨zaii a b,by simp [go_sem]⟩
  · intro h
    exact h.elim
@[go_sem] def Γ39:FuncId → Con:=ext Γ38 12 zabm
theorem Zw:∀ g,ConOk Try.prog g (Γ39 g):=Qm Γ38_ok zaev

def NextTill (xs:List Int) (n k:Nat):Prop:=AllTill (fun i=>0 ≤ nth xs i ∧ nth xs i < n ∧ ¬ nth xs i ∈ xs.take i) k
theorem NextTill.dist {xs:List Int} {n k:Nat} (h:NextTill xs n k) (hk:xs.length ≤ k):Dist xs n:=fun i hi=>by obtain ⟨h1,h2,h3⟩:=h i (by omega);exact ⟨h1,by omega,h3⟩
theorem Dist.at {xs:List Int} {n:Nat} (h:Dist xs n) {k:Nat} (hk:k < xs.length):0 ≤ nth xs k ∧ nth xs k < n ∧ ¬ nth xs k ∈ xs.take k:=by obtain ⟨h1,h2,h3⟩:=h k hk;exact ⟨h1,by omega,h3⟩
def StateOk (a:List Ints2) (b:List (List Int)) (i:Nat):Prop:=1 ≤ (nth b i).length ∧ ValsOk (nth a i).2 ∧ Dist (nth b i) a.length
set_option maxHeartbeats 2000000 in

theorem zahs (a:List Ints2) (b:List (List Int))  : Pure Try.prog 100 [.st [li cP a,li cL b]] (.bool (B (GraphOk a b))):=by
  refine Pure.of_walk Try.func100 rfl (by simp [Try.f100]) (by simp [-zd,go_sem]) fun B hK=>?_
  (repeat' (first
 | refine Qs ?_
 | refine Qc (id:=0) Zw [] (by kernel_rfl) ?_;simp [-zg,-zd,↓Qb,↓Qa,go_sem];try (refine Xb hK 1 ?_;simp [go_sem])
 | refine Qc (id:=1) Zw [9,15] (by kernel_rfl) ?_;simp [-zg,-zd,↓Qb,↓Qa,go_sem];try (refine ⟨fun s1a=>?_,fun s1a=>?_⟩ <;> (try simp [B_iff,B_not] at s1a) <;> try (refine ⟨fun s1b=>?_,fun s1b=>?_⟩ <;> (try simp [B_iff,B_not] at s1b) <;> try (refine ⟨fun s1c=>?_,fun s1c=>?_⟩ <;> (try simp [B_iff,B_not] at s1c))))
 | refine Qc (id:=2) Zw [] (by kernel_rfl) ?_;simp [-zg,-zd,↓Qb,↓Qa,go_sem]
 | refine Qc (id:=3) Zw [] (by kernel_rfl) ?_;simp [-zg,-zd,↓Qb,↓Qa,go_sem]
 | refine Qc (id:=4) Zw [] (by kernel_rfl) ?_;simp [-zg,-zd,↓Qb,↓Qa,go_sem]
 | (have ci:i < a.length:=(by omega));refine Xm (id:=6) Zw mixed [38,50] [1] (by kernel_rfl) (by kernel_rfl) (by simp [-zg,-zd,↓Qb,↓Qa,go_sem,c28,Qg c28,zsP c28,ci,Qg ci,zsP ci]) ?_;simp [-zg,-zd,↓Qb,↓Qa,go_sem,c28,Qg c28,zsP c28,ci,Qg ci,zsP ci];try (refine ⟨fun s6a=>?_,fun s6a=>?_⟩ <;> (try simp [B_iff,B_not] at s6a) <;> try (refine ⟨fun s6b=>?_,fun s6b=>?_⟩ <;> (try simp [B_iff,B_not] at s6b) <;> try (refine ⟨fun s6c=>?_,fun s6c=>?_⟩ <;> (try simp [B_iff,B_not] at s6c))))
 | refine Qc (id:=7) Zw [] (by kernel_rfl) ?_;simp [-zg,-zd,↓Qb,↓Qa,go_sem]
 | refine Qc (id:=8) Zw [] (by kernel_rfl) ?_;simp [-zg,-zd,↓Qb,↓Qa,go_sem]
 | refine Qc (id:=9) Zw [] (by kernel_rfl) ?_;simp [-zg,-zd,↓Qb,↓Qa,go_sem,c28,Qg c28,zsP c28]
 | refine Xm (id:=11) Zw mixed [79,93] [1,3,4] (by kernel_rfl) (by kernel_rfl) (by simp [-zg,-zd,↓Qb,↓Qa,go_sem,c28,Qg c28,zsP c28,c67,Qg c67,zsP c67,Nat.le_of_lt c67]) ?_;simp [-zg,-zd,↓Qb,↓Qa,go_sem,c28,Qg c28,zsP c28,c67,Qg c67,zsP c67,Nat.le_of_lt c67];try (refine ⟨fun s11a=>?_,fun s11a=>?_⟩ <;> (try simp [B_iff,B_not] at s11a) <;> try (refine ⟨fun s11b=>?_,fun s11b=>?_⟩ <;> (try simp [B_iff,B_not] at s11b) <;> try (refine ⟨fun s11c=>?_,fun s11c=>?_⟩ <;> (try simp [B_iff,B_not] at s11c))))
 | refine Qc (id:=12) Zw [] (by kernel_rfl) ?_;simp [-zg,-zd,↓Qb,↓Qa,go_sem]
 | refine Qc (id:=10) Zw [] (by kernel_rfl) ?_;simp [-zg,-zd,↓Qb,↓Qa,go_sem,wrapS (k:=k) (by omega)]
 | refine Qc (id:=5) Zw [] (by kernel_rfl) ?_;simp [-zg,-zd,↓Qb,↓Qa,go_sem,wrapS (k:=i) (by omega)]
 | refine Qc (id:=13) Zw [] (by kernel_rfl) ?_;simp [-zg,-zd,↓Qb,↓Qa,go_sem]
 | refine Qd (c:=.tmp 23) ?_;simp [-zg,-zd,↓Qb,↓Qa,go_sem];try first | (refine ⟨?_,?_⟩ <;> refine zA ?_) | (refine ⟨fun c23=>?_,fun c23=>?_⟩ <;> (try simp [B_iff,B_not] at c23))
 | refine Qd (c:=.tmp 28) ?_;simp [-zg,-zd,↓Qb,↓Qa,go_sem];try first | (refine ⟨?_,?_⟩ <;> refine zA ?_) | (refine ⟨fun c28=>?_,fun c28=>?_⟩ <;> (try simp [B_iff,B_not] at c28))
 | refine Qd (c:=.tmp 59) ?_;simp [-zg,-zd,↓Qb,↓Qa,go_sem];try first | (refine ⟨?_,?_⟩ <;> refine zA ?_) | (refine ⟨fun c59=>?_,fun c59=>?_⟩ <;> (try simp [B_iff,B_not] at c59))
 | refine Qd (c:=.tmp 67) ?_;simp [-zg,-zd,↓Qb,↓Qa,go_sem];try first | (refine ⟨?_,?_⟩ <;> refine zA ?_) | (refine ⟨fun c67=>?_,fun c67=>?_⟩ <;> (try simp [B_iff,B_not] at c67))
 | refine Qd (c:=.tmp 110) ?_;simp [-zg,-zd,↓Qb,↓Qa,go_sem];try first | (refine ⟨?_,?_⟩ <;> refine zA ?_) | (refine ⟨fun c110=>?_,fun c110=>?_⟩ <;> (try simp [B_iff,B_not] at c110))
 | (refine Qe (id:=0) (Qy (ι:=Nat) (fun i:Nat=>⟨(upd (upd (fun _=>.any) 1 (.pd [li cP a,li cL b])) 3 (.int .i64 i)),fun _=>none⟩) (fun i=>i ≤ b.length ∧ AllTill (StateOk a b) i) (fun i=>b.length - i) (0) ?_ ?_ ?_);exact ⟨Nat.zero_le _,.zero _⟩;((repeat' (first | exact Qh (by assumption) | exact Qj | refine Qk ?_ ?_ | refine Qi ?_)) <;> simp [-zg,-zd,↓Qb,↓Qa,go_sem]);rintro i ⟨hi,hu⟩)
 | (refine ⟨i + 1,⟨by omega,hu.succ ⟨by omega,c59,ht.dist (by omega)⟩⟩,by first | omega | (simp;done) | (simp;omega),?_⟩;((repeat' (first | exact Qh (by assumption) | exact Qj | refine Qk ?_ ?_ | refine Qi ?_)) <;> simp [-zg,-zd,↓Qb,↓Qa,go_sem]))
 | (refine Qe (id:=2) (Qy (ι:=Nat) (fun k:Nat=>⟨(upd (upd (upd (fun _=>.any) 1 (.pd [li cP a,li cL b])) 3 (.int .i64 i)) 4 (.int .i64 k)),fun _=>none⟩) (fun k=>k ≤ (nth b i).length ∧ NextTill (nth b i) a.length k) (fun k=>(nth b i).length - k) (0) ?_ ?_ ?_);exact ⟨Nat.zero_le _,.zero _⟩;((repeat' (first | exact Qh (by assumption) | exact Qj | refine Qk ?_ ?_ | refine Qi ?_)) <;> simp [-zg,-zd,↓Qb,↓Qa,go_sem]);rintro k ⟨hk,ht⟩)
 | (refine ⟨k + 1,⟨by omega,ht.succ ⟨by omega,by omega,c110⟩⟩,by first | omega | (simp;done) | (simp;omega),?_⟩;((repeat' (first | exact Qh (by assumption) | exact Qj | refine Qk ?_ ?_ | refine Qi ?_)) <;> simp [-zg,-zd,↓Qb,↓Qa,go_sem]))
 | (refine Qe ?_)
 | (refine Qr ?_;simp [-zg,-zd,↓Qb,↓Qa,go_sem])
 | (refine Qq ?_;simp [-zg,-zd,↓Qb,↓Qa,go_sem])
 | (refine Qp ?_;simp [-zg,-zd,↓Qb,↓Qa,go_sem,Try.results100])
 | (intro hx;refine zA ?_)
 | (refine ⟨?_,?_⟩ <;> refine zA ?_)
 | (intro hx;constructor <;> intro hs)
 | (constructor <;> intro hs)
 | (refine ⟨?_,fun hs=>?_⟩;refine zA ?_)
 | (refine ⟨fun hs=>?_,?_⟩;rotate_left;refine zA ?_;rotate_left)))
  all_goals (first
 | (rintro ⟨g1,g2,g3,g4,g5⟩;omega)
 | (rintro ⟨g1,g2,g3,g4,g5⟩;obtain ⟨q1,q2⟩:=g5 i c28;have q3:=q2.len;omega)
 | (rintro ⟨g1,g2,g3,g4,g5⟩;exact c59 (g4 i ci))
 | (rintro ⟨g1,g2,g3,g4,g5⟩;obtain ⟨q1,q2⟩:=g5 i c28;obtain ⟨r1,r2,r3⟩:=q2.at c67;omega)
 | (rintro ⟨g1,g2,g3,g4,g5⟩;obtain ⟨q1,q2⟩:=g5 i c28;obtain ⟨r1,r2,r3⟩:=q2.at c67;exact r3 c110)
 | exact ⟨by omega,by omega,by omega,fun j hj=>(hu j (by omega)).2.1,fun j hj=>⟨(hu j (by omega)).1,(hu j (by omega)).2.2⟩⟩
 | skip)
@[go_sem] def zabg:Con:=.pure fun
  | [.st [.list n_a c_a,.list n_b c_b]]=>((Is cP n_a c_a) ∧ (Is cL n_b c_b),.bool (B (GraphOk (de cP c_a) (de cL c_b))))
  | _=>(False,.any)
theorem zaeu:ConOk Try.prog 100 zabg:=by
  refine ⟨Qn Try.func100 (by decide) rfl,fun args h=>?_⟩
  revert h
  dsimp only
  split
  · intro h
    obtain ⟨⟨a,rfl,rfl⟩,⟨b,rfl,rfl⟩⟩:=h
    try simp only [Qo] at *
    exact ⟨zahs a b,by simp [go_sem]⟩
  · intro h
    exact h.elim
@[go_sem] def Γ40:FuncId → Con:=ext Γ39 100 zabg
theorem Γ40_ok:∀ g,ConOk Try.prog g (Γ40 g):=Qm Zw zaeu

end
end Go.Proofs.Ytmiimodggpjkmaa.Vm

