/-
  Valid graphs, both ways. No conditions.
-/
import Derived.Test.YtmiimodggpjkmaaGreatF3
namespace Go.Proofs.YtmiimodggpjkmaaGreat.Vm
open Go
open Nat renaming sub_pos_of_lt → zsP
open List renaming getD_eq_getElem?_getD → zg,drop_one → zd
noncomputable section
set_option linter.unusedVariables false
set_option linter.unusedSimpArgs false
set_option maxRecDepth 200000

def ValsOk (xs:List Int):Prop:=xs.length = 3 ∧ ∀ i,i < xs.length → 0 ≤ nth xs i ∧ nth xs i ≤ 3
def Dist (xs:List Int) (n:Int):Prop:=∀ i,i < xs.length → 0 ≤ nth xs i ∧ nth xs i ≤ n - 1 ∧ ¬ nth xs i ∈ xs.take i
theorem pigeon:∀ (n:Nat) (xs:List Int),xs.Nodup → (∀ x ∈ xs,0 ≤ x ∧ x < n) → xs.length ≤ n
  | 0,xs,_,h=>by
    cases xs with
    | nil=>simp
    | cons x xs=>have:=h x (by simp);omega
  | n + 1,xs,hn,h=>by
    have:=pigeon n (xs.erase n) (hn.erase _) fun x hx=>by
      have h1:=h x (List.mem_of_mem_erase hx)
      have h2:x ≠ n:=fun e=>by subst e;exact (List.Nodup.not_mem_erase hn) hx
      omega
    rw [List.length_erase] at this
    split at this <;> omega
theorem Dist.nodup {xs:List Int} {n:Int} (h:Dist xs n):xs.Nodup:=by
  rw [List.nodup_iff_pairwise_ne,List.pairwise_iff_getElem]
  intro i j hi hj hij e
  have:=(h j hj).2.2
  apply this
  rw [Zs]
  exact ⟨i,by simp;omega,by rw [Wr hij,Xa hi,Xa hj,e]⟩
theorem Dist.len {xs:List Int} {n:Nat} (h:Dist xs n):xs.length ≤ n :=
  pigeon n xs h.nodup fun x hx=>by
    rw [Zs] at hx
    obtain ⟨i,hi,rfl⟩:=hx
    have:=h i hi
    omega
def GraphOk (a:List Ints2) (b:List (List Int)):Prop :=
  1 ≤ a.length ∧ a.length ≤ 60 ∧ b.length = a.length ∧ (∀ i,i < a.length → ValsOk (nth a i).2) ∧ ∀ i,i < b.length → 1 ≤ (nth b i).length ∧ Dist (nth b i) a.length

theorem l1Vals_pure (xs:List Int)  : Pure Tryz.prog 47 [li cI xs] (.bool (B (ValsOk xs))):=by
  refine Pure.of_walk Tryz.func47 rfl (by simp [Tryz.f47]) (by simp [-zd,go_sem]) fun B hK=>?_
  (repeat' (first
 | refine Qt ?_
 | (refine Zm 0 rfl fun hm=>?_);refine Qc (id:=0) Xo [] (by kernel_rfl) ?_;simp [-zg,-zd,↓Qb,↓Qa,go_sem]
 | refine Qc (id:=1) Xo [] (by kernel_rfl) ?_;simp [-zg,-zd,↓Qb,↓Qa,go_sem]
 | refine Qc (id:=2) Xo [] (by kernel_rfl) ?_;simp [-zg,-zd,↓Qb,↓Qa,go_sem]
 | refine Qc (id:=4) Xo [15] (by kernel_rfl) ?_;simp [-zg,-zd,↓Qb,↓Qa,go_sem,c7,Qe c7,zsP c7];try (refine ⟨fun s4a=>?_,fun s4a=>?_⟩ <;> (try simp [B_iff,B_not] at s4a) <;> try (refine ⟨fun s4b=>?_,fun s4b=>?_⟩ <;> (try simp [B_iff,B_not] at s4b)))
 | refine Qc (id:=5) Xo [] (by kernel_rfl) ?_;simp [-zg,-zd,↓Qb,↓Qa,go_sem]
 | refine Qc (id:=3) Xo [] (by kernel_rfl) ?_;simp [-zg,-zd,↓Qb,↓Qa,go_sem,wrapS (k:=k) (by omega)]
 | refine Qc (id:=6) Xo [] (by kernel_rfl) ?_;simp [-zg,-zd,↓Qb,↓Qa,go_sem]
 | refine Qd (c:=.tmp 7) ?_;simp [-zg,-zd,↓Qb,↓Qa,go_sem];try first | (refine ⟨?_,?_⟩ <;> refine zA ?_) | (refine ⟨fun c7=>?_,fun c7=>?_⟩ <;> (try simp [B_iff,B_not] at c7))
 | refine Qd (c:=.tmp 21) ?_;simp [-zg,-zd,↓Qb,↓Qa,go_sem];try first | (refine ⟨?_,?_⟩ <;> refine zA ?_) | (refine ⟨fun c21=>?_,fun c21=>?_⟩ <;> (try simp [B_iff,B_not] at c21))
 | (refine Qg (id:=0) (Qx (ι:=Nat) (fun k:Nat=>⟨(upd (upd (fun _=>.any) 0 (li cI xs)) 3 (.int .i64 k)),fun _=>none⟩) (fun k=>k ≤ xs.length ∧ AllTill (fun i=>0 ≤ nth xs i ∧ nth xs i ≤ 3) k) (fun k=>xs.length - k) (0) ?_ ?_ ?_);exact ⟨Nat.zero_le _,.zero _⟩;((repeat' (first | exact Qh (by assumption) | exact Qj | refine Qk ?_ ?_ | refine Qi ?_)) <;> simp [-zg,-zd,↓Qb,↓Qa,go_sem]);rintro k ⟨hk,ht⟩)
 | (refine ⟨k + 1,⟨by omega,ht.succ (by omega)⟩,by first | omega | (simp;done) | (simp;omega),?_⟩;((repeat' (first | exact Qh (by assumption) | exact Qj | refine Qk ?_ ?_ | refine Qi ?_)) <;> simp [-zg,-zd,↓Qb,↓Qa,go_sem]))
 | (refine Qg ?_)
 | (refine Qs ?_;simp [-zg,-zd,↓Qb,↓Qa,go_sem])
 | (refine Qr ?_;simp [-zg,-zd,↓Qb,↓Qa,go_sem])
 | (refine Qq ?_;simp [-zg,-zd,↓Qb,↓Qa,go_sem,Tryz.results47])
 | (intro hx;refine zA ?_)
 | (refine ⟨?_,?_⟩ <;> refine zA ?_)
 | (intro hx;constructor <;> intro hs)
 | (constructor <;> intro hs)
 | (refine ⟨?_,fun hs=>?_⟩;refine zA ?_)
 | (refine ⟨fun hs=>?_,?_⟩;rotate_left;refine zA ?_;rotate_left)))
  all_goals (first
 | (rintro ⟨_,h⟩;have:=h k c7;omega)
 | (rw [Bool.eq_iff_iff,B_iff,decide_eq_true_eq];exact ⟨fun h=>⟨by omega,fun i hi=>ht i (by omega)⟩,fun h=>by have:=h.1;omega⟩)
 | skip)
@[go_sem] def zagp:Con:=.pure fun
  | [.list n_xs c_xs]=>((Is cI n_xs c_xs),.bool (B (ValsOk (de cI c_xs))))
  | _=>(False,.any)
theorem zanl:ConOk Tryz.prog 47 zagp:=by
  refine ⟨Qo Tryz.func47 (by decide) rfl,fun args h=>?_⟩
  revert h
  dsimp only
  split
  · intro h
    obtain ⟨xs,rfl,rfl⟩:=h
    try simp only [Qm] at *
    exact ⟨l1Vals_pure xs,by simp [go_sem]⟩
  · intro h
    exact h.elim
@[go_sem] def Γ24:FuncId → Con:=ext Γ23 47 zagp
theorem Wv:∀ g,ConOk Tryz.prog g (Γ24 g):=Qn Xo zanl

theorem l4In_pure (xs:List Int) (n:Int)  : Pure Tryz.prog 48 [li cI xs,.int .i64 n] (.bool (B (n ∈ xs))):=by
  refine Pure.of_walk Tryz.func48 rfl (by simp [Tryz.f48]) (by simp [-zd,go_sem]) fun B hK=>?_
  (repeat' (first
 | refine Qt ?_
 | (refine Zm 0 rfl fun hm=>?_);refine Qc (id:=0) Wv [] (by kernel_rfl) ?_;simp [-zg,-zd,↓Qb,↓Qa,go_sem]
 | refine Qc (id:=1) Wv [] (by kernel_rfl) ?_;simp [-zg,-zd,↓Qb,↓Qa,go_sem]
 | refine Qc (id:=2) Wv [] (by kernel_rfl) ?_;simp [-zg,-zd,↓Qb,↓Qa,go_sem]
 | refine Qc (id:=4) Wv [] (by kernel_rfl) ?_;simp [-zg,-zd,↓Qb,↓Qa,go_sem,c9,Qe c9,zsP c9]
 | refine Qc (id:=5) Wv [] (by kernel_rfl) ?_;simp [-zg,-zd,↓Qb,↓Qa,go_sem]
 | refine Qc (id:=3) Wv [] (by kernel_rfl) ?_;simp [-zg,-zd,↓Qb,↓Qa,go_sem,wrapS (k:=k) (by omega)]
 | refine Qc (id:=6) Wv [] (by kernel_rfl) ?_;simp [-zg,-zd,↓Qb,↓Qa,go_sem]
 | refine Qd (c:=.tmp 9) ?_;simp [-zg,-zd,↓Qb,↓Qa,go_sem];try first | (refine ⟨?_,?_⟩ <;> refine zA ?_) | (refine ⟨fun c9=>?_,fun c9=>?_⟩ <;> (try simp [B_iff,B_not] at c9))
 | refine Qd (c:=.tmp 17) ?_;simp [-zg,-zd,↓Qb,↓Qa,go_sem];try first | (refine ⟨?_,?_⟩ <;> refine zA ?_) | (refine ⟨fun c17=>?_,fun c17=>?_⟩ <;> (try simp [B_iff,B_not] at c17))
 | (refine Qg (id:=0) (Qx (ι:=Nat) (fun k:Nat=>⟨(upd (upd (upd (fun _=>.any) 0 (li cI xs)) 1 (.int .i64 n)) 5 (.int .i64 k)),fun _=>none⟩) (fun k=>k ≤ xs.length ∧ AllTill (fun i=>¬ nth xs i = n) k) (fun k=>xs.length - k) (0) ?_ ?_ ?_);exact ⟨Nat.zero_le _,.zero _⟩;((repeat' (first | exact Qh (by assumption) | exact Qj | refine Qk ?_ ?_ | refine Qi ?_)) <;> simp [-zg,-zd,↓Qb,↓Qa,go_sem]);rintro k ⟨hk,ht⟩)
 | (refine ⟨k + 1,⟨by omega,ht.succ (by omega)⟩,by first | omega | (simp;done) | (simp;omega),?_⟩;((repeat' (first | exact Qh (by assumption) | exact Qj | refine Qk ?_ ?_ | refine Qi ?_)) <;> simp [-zg,-zd,↓Qb,↓Qa,go_sem]))
 | (refine Qg ?_)
 | (refine Qs ?_;simp [-zg,-zd,↓Qb,↓Qa,go_sem])
 | (refine Qr ?_;simp [-zg,-zd,↓Qb,↓Qa,go_sem])
 | (refine Qq ?_;simp [-zg,-zd,↓Qb,↓Qa,go_sem,Tryz.results48])
 | (intro hx;refine zA ?_)
 | (refine ⟨?_,?_⟩ <;> refine zA ?_)
 | (intro hx;constructor <;> intro hs)
 | (constructor <;> intro hs)
 | (refine ⟨?_,fun hs=>?_⟩;refine zA ?_)
 | (refine ⟨fun hs=>?_,?_⟩;rotate_left;refine zA ?_;rotate_left)))
  all_goals (first
 | (rw [Zs];exact ⟨k,c9,by omega⟩)
 | (rw [Zs];rintro ⟨i,h1,h2⟩;exact ht i (by omega) h2)
 | skip)
@[go_sem] def zali:Con:=.pure fun
  | [.list n_xs c_xs,.int .i64 n]=>((Is cI n_xs c_xs),.bool (B (n ∈ (de cI c_xs))))
  | _=>(False,.any)
theorem l4In_pureC_ok:ConOk Tryz.prog 48 zali:=by
  refine ⟨Qo Tryz.func48 (by decide) rfl,fun args h=>?_⟩
  revert h
  dsimp only
  split
  · intro h
    obtain ⟨xs,rfl,rfl⟩:=h
    try simp only [Qm] at *
    exact ⟨l4In_pure xs _,by simp [go_sem]⟩
  · intro h
    exact h.elim
@[go_sem] def Γ25:FuncId → Con:=ext Γ24 48 zali
theorem Γ25_ok:∀ g,ConOk Tryz.prog g (Γ25 g):=Qn Wv l4In_pureC_ok

def Jc (n:Int):Bool:=!(decide (0 ≤ n) && decide (n ≤ 3))
theorem find_small {xs:List Int}:(0 ≤ findI Jc xs) = ¬ ∀ i,i < xs.length → 0 ≤ nth xs i ∧ nth xs i ≤ 3:=by
  rw [findI_ge,eq_iff_iff]
  constructor
  · rintro ⟨i,h,e⟩ k
    have:=k i h
    simp [Jc] at e
    omega
  · intro h
    apply Classical.byContradiction;intro h2
    apply h;intro i hi
    apply Classical.byContradiction;intro h3
    exact h2 ⟨i,hi,by simp [Jc];omega⟩

theorem valsOk1_pure (n:Int)  : Pure Tryz.prog 53 [.int .i64 n] (.bool (Jc n)):=by
  refine Pure.of_walk Tryz.func53 rfl (by simp [Tryz.f53]) (by simp [-zd,go_sem]) fun B hK=>?_
  (repeat' (first
 | refine Qt ?_
 | refine Qc (id:=0) Γ25_ok [] (by kernel_rfl) ?_;simp [-zg,-zd,↓Qb,↓Qa,go_sem,Jc]
 | refine Qc (id:=1) Γ25_ok [] (by kernel_rfl) ?_;simp [-zg,-zd,↓Qb,↓Qa,go_sem,Jc]
 | (refine Qg ?_)
 | (refine Qs ?_;simp [-zg,-zd,↓Qb,↓Qa,go_sem])
 | (refine Qr ?_;simp [-zg,-zd,↓Qb,↓Qa,go_sem])
 | (refine Qq ?_;simp [-zg,-zd,↓Qb,↓Qa,go_sem,Tryz.results53,Jc])
 | (intro hx;refine zA ?_)
 | (refine ⟨?_,?_⟩ <;> refine zA ?_)
 | (intro hx;constructor <;> intro hs)
 | (constructor <;> intro hs)
 | (refine ⟨?_,fun hs=>?_⟩;refine zA ?_)
 | (refine ⟨fun hs=>?_,?_⟩;rotate_left;refine zA ?_;rotate_left)))
@[go_sem] def zaer:Con:=.pure fun
  | [.int .i64 n]=>(True,.bool (Jc n))
  | _=>(False,.any)
theorem zakk:ConOk Tryz.prog 53 zaer:=by
  refine ⟨Qo Tryz.func53 (by decide) rfl,fun args h=>?_⟩
  revert h
  dsimp only
  split
  · intro h
    skip
    skip
    exact ⟨valsOk1_pure _,by simp [go_sem]⟩
  · intro h
    exact h.elim
@[go_sem] def Γ26:FuncId → Con:=ext Γ25 53 zaer
theorem Ux:∀ g,ConOk Tryz.prog g (Γ26 g):=Qn Γ25_ok zakk

theorem index118_pure (xs:List Int)   : Pure Tryz.prog 76 [li cI xs,.fn 53 []] (.int .i64 (findI (Jc) xs)):=by
  refine Pure.of_walk Tryz.func76 rfl (by simp [Tryz.f76]) (by simp [-zd,go_sem]) fun B hK=>?_
  (repeat' (first
 | refine Qt ?_
 | (refine Zm 0 rfl fun hm=>?_);refine Qc (id:=0) Ux [] (by kernel_rfl) ?_;simp [-zg,-zd,↓Qb,↓Qa,go_sem]
 | refine Qc (id:=1) Ux [] (by kernel_rfl) ?_;simp [-zg,-zd,↓Qb,↓Qa,go_sem]
 | refine Qc (id:=2) Ux [] (by kernel_rfl) ?_;simp [-zg,-zd,↓Qb,↓Qa,go_sem]
 | refine Qc (id:=3) Ux [] (by kernel_rfl) ?_;simp [-zg,-zd,↓Qb,↓Qa,go_sem]
 | refine Qc (id:=4) Ux [] (by kernel_rfl) ?_;simp [-zg,-zd,↓Qb,↓Qa,go_sem,c9,Qe c9,zsP c9]
 | refine Qc (id:=5) Ux [] (by kernel_rfl) ?_;simp [-zg,-zd,↓Qb,↓Qa,go_sem]
 | refine Qc (id:=6) Ux [] (by kernel_rfl) ?_;simp [-zg,-zd,↓Qb,↓Qa,go_sem,wrapS (k:=k) (by omega)]
 | refine Qc (id:=7) Ux [] (by kernel_rfl) ?_;simp [-zg,-zd,↓Qb,↓Qa,go_sem]
 | refine Qd (c:=.tmp 9) ?_;simp [-zg,-zd,↓Qb,↓Qa,go_sem];try first | (refine ⟨?_,?_⟩ <;> refine zA ?_) | (refine ⟨fun c9=>?_,fun c9=>?_⟩ <;> (try simp [B_iff,B_not] at c9))
 | refine Qd (c:=.tmp 16) ?_;simp [-zg,-zd,↓Qb,↓Qa,go_sem];try first | (refine ⟨?_,?_⟩ <;> refine zA ?_) | (refine ⟨fun c16=>?_,fun c16=>?_⟩ <;> (try simp [B_iff,B_not] at c16))
 | (refine Qg (id:=0) (Qx (ι:=Nat) (fun k:Nat=>⟨(upd (upd (upd (upd (upd (fun _=>.any) 0 (li cI xs)) 1 (.fn 53 [])) 6 (li cI xs)) 7 (.int .i64 xs.length)) 8 (.int .i64 k)),fun _=>none⟩) (fun k=>k ≤ xs.length ∧ NoneTill (fun i=>(Jc) (nth xs i)) k) (fun k=>xs.length - k) (0) ?_ ?_ ?_);exact ⟨Nat.zero_le _,.zero _⟩;((repeat' (first | exact Qh (by assumption) | exact Qj | refine Qk ?_ ?_ | refine Qi ?_)) <;> simp [-zg,-zd,↓Qb,↓Qa,go_sem]);rintro k ⟨hk,ht⟩)
 | (refine ⟨k + 1,⟨by omega,ht.succ (by simp_all)⟩,by first | omega | (simp;done) | (simp;omega),?_⟩;((repeat' (first | exact Qh (by assumption) | exact Qj | refine Qk ?_ ?_ | refine Qi ?_)) <;> simp [-zg,-zd,↓Qb,↓Qa,go_sem]))
 | (refine Qg ?_)
 | (refine Qs ?_;simp [-zg,-zd,↓Qb,↓Qa,go_sem])
 | (refine Qr ?_;simp [-zg,-zd,↓Qb,↓Qa,go_sem])
 | (refine Qq ?_;simp [-zg,-zd,↓Qb,↓Qa,go_sem,Tryz.results76])
 | (intro hx;refine zA ?_)
 | (refine ⟨?_,?_⟩ <;> refine zA ?_)
 | (intro hx;constructor <;> intro hs)
 | (constructor <;> intro hs)
 | (refine ⟨?_,fun hs=>?_⟩;refine zA ?_)
 | (refine ⟨fun hs=>?_,?_⟩;rotate_left;refine zA ?_;rotate_left)))
  all_goals (first
 | (rw [zamh ht c9 (by simp_all)])
 | (rw [zafe ht (by omega)])
 | skip)
@[go_sem] def zaej:Con:=.pure fun
  | [.list n_xs c_xs,.fn 53 []]=>((Is cI n_xs c_xs),.int .i64 (findI (Jc) (de cI c_xs)))
  | _=>(False,.any)
theorem zajp:ConOk Tryz.prog 76 zaej:=by
  refine ⟨Qo Tryz.func76 (by decide) rfl,fun args h=>?_⟩
  revert h
  dsimp only
  split
  · intro h
    obtain ⟨xs,rfl,rfl⟩:=h
    try simp only [Qm] at *
    exact ⟨index118_pure xs ,by simp [go_sem]⟩
  · intro h
    exact h.elim
@[go_sem] def Γ27:FuncId → Con:=ext Γ26 76 zaej
theorem Γ27_ok:∀ g,ConOk Tryz.prog g (Γ27 g):=Qn Ux zajp

theorem zaiz (xs:List Int)   : Pure Tryz.prog 52 [li cI xs,.fn 53 []] (.bool (decide (0 ≤ findI Jc xs))):=by
  refine Pure.of_walk Tryz.func52 rfl (by simp [Tryz.f52]) (by simp [-zd,go_sem]) fun B hK=>?_
  (repeat' (first
 | refine Qt ?_
 | refine Qc (id:=0) Γ27_ok [] (by kernel_rfl) ?_;simp [-zg,-zd,↓Qb,↓Qa,go_sem]
 | refine Qc (id:=1) Γ27_ok [] (by kernel_rfl) ?_;simp [-zg,-zd,↓Qb,↓Qa,go_sem]
 | (refine Qg ?_)
 | (refine Qs ?_;simp [-zg,-zd,↓Qb,↓Qa,go_sem])
 | (refine Qr ?_;simp [-zg,-zd,↓Qb,↓Qa,go_sem])
 | (refine Qq ?_;simp [-zg,-zd,↓Qb,↓Qa,go_sem,Tryz.results52])
 | (intro hx;refine zA ?_)
 | (refine ⟨?_,?_⟩ <;> refine zA ?_)
 | (intro hx;constructor <;> intro hs)
 | (constructor <;> intro hs)
 | (refine ⟨?_,fun hs=>?_⟩;refine zA ?_)
 | (refine ⟨fun hs=>?_,?_⟩;rotate_left;refine zA ?_;rotate_left)))
@[go_sem] def zabv:Con:=.pure fun
  | [.list n_xs c_xs,.fn 53 []]=>((Is cI n_xs c_xs),.bool (decide (0 ≤ findI Jc (de cI c_xs))))
  | _=>(False,.any)
theorem zafh:ConOk Tryz.prog 52 zabv:=by
  refine ⟨Qo Tryz.func52 (by decide) rfl,fun args h=>?_⟩
  revert h
  dsimp only
  split
  · intro h
    obtain ⟨xs,rfl,rfl⟩:=h
    try simp only [Qm] at *
    exact ⟨zaiz xs ,by simp [go_sem]⟩
  · intro h
    exact h.elim
@[go_sem] def Γ28:FuncId → Con:=ext Γ27 52 zabv
theorem Γ28_ok:∀ g,ConOk Tryz.prog g (Γ28 g):=Qn Γ27_ok zafh

theorem valsOk_pure (xs:List Int)  : Pure Tryz.prog 33 [li cI xs] (.bool (B (ValsOk xs))):=by
  refine Pure.of_walk Tryz.func33 rfl (by simp [Tryz.f33]) (by simp [-zd,go_sem]) fun B hK=>?_
  (repeat' (first
 | refine Qt ?_
 | refine Qc (id:=0) Γ28_ok [] (by kernel_rfl) ?_;simp [-zg,-zd,↓Qb,↓Qa,go_sem]
 | refine Qc (id:=1) Γ28_ok [6] (by kernel_rfl) ?_;simp [-zg,-zd,↓Qb,↓Qa,go_sem];try (refine ⟨fun s1a=>?_,fun s1a=>?_⟩ <;> (try simp [B_iff,B_not] at s1a) <;> try (refine ⟨fun s1b=>?_,fun s1b=>?_⟩ <;> (try simp [B_iff,B_not] at s1b)))
 | (refine Qg ?_)
 | (refine Qs ?_;simp [-zg,-zd,↓Qb,↓Qa,go_sem])
 | (refine Qr ?_;simp [-zg,-zd,↓Qb,↓Qa,go_sem])
 | (refine Qq ?_;simp [-zg,-zd,↓Qb,↓Qa,go_sem,Tryz.results33])
 | (intro hx;refine zA ?_)
 | (refine ⟨?_,?_⟩ <;> refine zA ?_)
 | (intro hx;constructor <;> intro hs)
 | (constructor <;> intro hs)
 | (refine ⟨?_,fun hs=>?_⟩;refine zA ?_)
 | (refine ⟨fun hs=>?_,?_⟩;rotate_left;refine zA ?_;rotate_left)))
  all_goals (first
 | (intro h;have:=h.1;omega)
 | (rw [Bool.eq_iff_iff,decide_eq_true_eq,find_small,Bool.not_eq_true',B_not];exact ⟨fun h k=>h k.2,fun h k=>h ⟨by omega,k⟩⟩)
 | skip)
@[go_sem] def zage:Con:=.pure fun
  | [.list n_xs c_xs]=>((Is cI n_xs c_xs),.bool (B (ValsOk (de cI c_xs))))
  | _=>(False,.any)
theorem zamy:ConOk Tryz.prog 33 zage:=by
  refine ⟨Qo Tryz.func33 (by decide) rfl,fun args h=>?_⟩
  revert h
  dsimp only
  split
  · intro h
    obtain ⟨xs,rfl,rfl⟩:=h
    try simp only [Qm] at *
    exact ⟨valsOk_pure xs,by simp [go_sem]⟩
  · intro h
    exact h.elim
@[go_sem] def Γ29:FuncId → Con:=ext Γ28 33 zage
theorem Γ29_ok:∀ g,ConOk Tryz.prog g (Γ29 g):=Qn Γ28_ok zamy

def Zt (s:Ints2):Bool:=!B (ValsOk s.2)

theorem zame (a:List Int) (b:List Int)  : Pure Tryz.prog 32 [.st [li cI a,li cI b]] (.bool (Zt (a,b))):=by
  refine Pure.of_walk Tryz.func32 rfl (by simp [Tryz.f32]) (by simp [-zd,go_sem]) fun B hK=>?_
  (repeat' (first
 | refine Qt ?_
 | refine Qc (id:=0) Γ29_ok [] (by kernel_rfl) ?_;simp [-zg,-zd,↓Qb,↓Qa,go_sem,Zt];try (refine Xf hK 1 ?_;simp [go_sem])
 | refine Qc (id:=1) Γ29_ok [] (by kernel_rfl) ?_;simp [-zg,-zd,↓Qb,↓Qa,go_sem,Zt]
 | (refine Qg ?_)
 | (refine Qs ?_;simp [-zg,-zd,↓Qb,↓Qa,go_sem])
 | (refine Qr ?_;simp [-zg,-zd,↓Qb,↓Qa,go_sem])
 | (refine Qq ?_;simp [-zg,-zd,↓Qb,↓Qa,go_sem,Tryz.results32,Zt])
 | (intro hx;refine zA ?_)
 | (refine ⟨?_,?_⟩ <;> refine zA ?_)
 | (intro hx;constructor <;> intro hs)
 | (constructor <;> intro hs)
 | (refine ⟨?_,fun hs=>?_⟩;refine zA ?_)
 | (refine ⟨fun hs=>?_,?_⟩;rotate_left;refine zA ?_;rotate_left)))
@[go_sem] def zacr:Con:=.pure fun
  | [.st [.list n_a c_a,.list n_b c_b]]=>((Is cI n_a c_a) ∧ (Is cI n_b c_b),.bool (Zt ((de cI c_a),(de cI c_b))))
  | _=>(False,.any)
theorem zagy:ConOk Tryz.prog 32 zacr:=by
  refine ⟨Qo Tryz.func32 (by decide) rfl,fun args h=>?_⟩
  revert h
  dsimp only
  split
  · intro h
    obtain ⟨⟨a,rfl,rfl⟩,⟨b,rfl,rfl⟩⟩:=h
    try simp only [Qm] at *
    exact ⟨zame a b,by simp [go_sem]⟩
  · intro h
    exact h.elim
@[go_sem] def Γ30:FuncId → Con:=ext Γ29 32 zacr
theorem Uw:∀ g,ConOk Tryz.prog g (Γ30 g):=Qn Γ29_ok zagy

theorem zann (xs:List Ints2)   : Pure Tryz.prog 51 [li cP xs,.fn 32 []] (.int .i64 (findI (Zt) xs)):=by
  refine Pure.of_walk Tryz.func51 rfl (by simp [Tryz.f51]) (by simp [-zd,go_sem]) fun B hK=>?_
  (repeat' (first
 | refine Qt ?_
 | (refine Zm 0 rfl fun hm=>?_);refine Qc (id:=0) Uw [] (by kernel_rfl) ?_;simp [-zg,-zd,↓Qb,↓Qa,go_sem]
 | refine Qc (id:=1) Uw [] (by kernel_rfl) ?_;simp [-zg,-zd,↓Qb,↓Qa,go_sem]
 | refine Qc (id:=2) Uw [] (by kernel_rfl) ?_;simp [-zg,-zd,↓Qb,↓Qa,go_sem]
 | refine Qc (id:=3) Uw [] (by kernel_rfl) ?_;simp [-zg,-zd,↓Qb,↓Qa,go_sem]
 | refine Qc (id:=4) Uw [] (by kernel_rfl) ?_;simp [-zg,-zd,↓Qb,↓Qa,go_sem,c9,Qe c9,zsP c9]
 | refine Qc (id:=5) Uw [] (by kernel_rfl) ?_;simp [-zg,-zd,↓Qb,↓Qa,go_sem]
 | refine Qc (id:=6) Uw [] (by kernel_rfl) ?_;simp [-zg,-zd,↓Qb,↓Qa,go_sem,wrapS (k:=k) (by omega)]
 | refine Qc (id:=7) Uw [] (by kernel_rfl) ?_;simp [-zg,-zd,↓Qb,↓Qa,go_sem]
 | refine Qd (c:=.tmp 9) ?_;simp [-zg,-zd,↓Qb,↓Qa,go_sem];try first | (refine ⟨?_,?_⟩ <;> refine zA ?_) | (refine ⟨fun c9=>?_,fun c9=>?_⟩ <;> (try simp [B_iff,B_not] at c9))
 | refine Qd (c:=.tmp 16) ?_;simp [-zg,-zd,↓Qb,↓Qa,go_sem];try first | (refine ⟨?_,?_⟩ <;> refine zA ?_) | (refine ⟨fun c16=>?_,fun c16=>?_⟩ <;> (try simp [B_iff,B_not] at c16))
 | (refine Qg (id:=0) (Qx (ι:=Nat) (fun k:Nat=>⟨(upd (upd (upd (upd (upd (fun _=>.any) 0 (li cP xs)) 1 (.fn 32 [])) 6 (li cP xs)) 7 (.int .i64 xs.length)) 8 (.int .i64 k)),fun _=>none⟩) (fun k=>k ≤ xs.length ∧ NoneTill (fun i=>(Zt) (nth xs i)) k) (fun k=>xs.length - k) (0) ?_ ?_ ?_);exact ⟨Nat.zero_le _,.zero _⟩;((repeat' (first | exact Qh (by assumption) | exact Qj | refine Qk ?_ ?_ | refine Qi ?_)) <;> simp [-zg,-zd,↓Qb,↓Qa,go_sem]);rintro k ⟨hk,ht⟩)
 | (refine ⟨k + 1,⟨by omega,ht.succ (by simp_all)⟩,by first | omega | (simp;done) | (simp;omega),?_⟩;((repeat' (first | exact Qh (by assumption) | exact Qj | refine Qk ?_ ?_ | refine Qi ?_)) <;> simp [-zg,-zd,↓Qb,↓Qa,go_sem]))
 | (refine Qg ?_)
 | (refine Qs ?_;simp [-zg,-zd,↓Qb,↓Qa,go_sem])
 | (refine Qr ?_;simp [-zg,-zd,↓Qb,↓Qa,go_sem])
 | (refine Qq ?_;simp [-zg,-zd,↓Qb,↓Qa,go_sem,Tryz.results51])
 | (intro hx;refine zA ?_)
 | (refine ⟨?_,?_⟩ <;> refine zA ?_)
 | (intro hx;constructor <;> intro hs)
 | (constructor <;> intro hs)
 | (refine ⟨?_,fun hs=>?_⟩;refine zA ?_)
 | (refine ⟨fun hs=>?_,?_⟩;rotate_left;refine zA ?_;rotate_left)))
  all_goals (first
 | (rw [zamh ht c9 (by simp_all)])
 | (rw [zafe ht (by omega)])
 | skip)
@[go_sem] def zadf:Con:=.pure fun
  | [.list n_xs c_xs,.fn 32 []]=>((Is cP n_xs c_xs),.int .i64 (findI (Zt) (de cP c_xs)))
  | _=>(False,.any)
theorem zahs:ConOk Tryz.prog 51 zadf:=by
  refine ⟨Qo Tryz.func51 (by decide) rfl,fun args h=>?_⟩
  revert h
  dsimp only
  split
  · intro h
    obtain ⟨xs,rfl,rfl⟩:=h
    try simp only [Qm] at *
    exact ⟨zann xs ,by simp [go_sem]⟩
  · intro h
    exact h.elim
@[go_sem] def Γ31:FuncId → Con:=ext Γ30 51 zadf
theorem Γ31_ok:∀ g,ConOk Tryz.prog g (Γ31 g):=Qn Uw zahs

theorem zaiy (xs:List Ints2)   : Pure Tryz.prog 31 [li cP xs,.fn 32 []] (.bool (decide (0 ≤ findI Zt xs))):=by
  refine Pure.of_walk Tryz.func31 rfl (by simp [Tryz.f31]) (by simp [-zd,go_sem]) fun B hK=>?_
  (repeat' (first
 | refine Qt ?_
 | refine Qc (id:=0) Γ31_ok [] (by kernel_rfl) ?_;simp [-zg,-zd,↓Qb,↓Qa,go_sem]
 | refine Qc (id:=1) Γ31_ok [] (by kernel_rfl) ?_;simp [-zg,-zd,↓Qb,↓Qa,go_sem]
 | (refine Qg ?_)
 | (refine Qs ?_;simp [-zg,-zd,↓Qb,↓Qa,go_sem])
 | (refine Qr ?_;simp [-zg,-zd,↓Qb,↓Qa,go_sem])
 | (refine Qq ?_;simp [-zg,-zd,↓Qb,↓Qa,go_sem,Tryz.results31])
 | (intro hx;refine zA ?_)
 | (refine ⟨?_,?_⟩ <;> refine zA ?_)
 | (intro hx;constructor <;> intro hs)
 | (constructor <;> intro hs)
 | (refine ⟨?_,fun hs=>?_⟩;refine zA ?_)
 | (refine ⟨fun hs=>?_,?_⟩;rotate_left;refine zA ?_;rotate_left)))
@[go_sem] def zabu:Con:=.pure fun
  | [.list n_xs c_xs,.fn 32 []]=>((Is cP n_xs c_xs),.bool (decide (0 ≤ findI Zt (de cP c_xs))))
  | _=>(False,.any)
theorem zafg:ConOk Tryz.prog 31 zabu:=by
  refine ⟨Qo Tryz.func31 (by decide) rfl,fun args h=>?_⟩
  revert h
  dsimp only
  split
  · intro h
    obtain ⟨xs,rfl,rfl⟩:=h
    try simp only [Qm] at *
    exact ⟨zaiy xs ,by simp [go_sem]⟩
  · intro h
    exact h.elim
@[go_sem] def Γ32:FuncId → Con:=ext Γ31 31 zabu
theorem Uv:∀ g,ConOk Tryz.prog g (Γ32 g):=Qn Γ31_ok zafg

def isN (n:Int) (x:Int):Bool:=decide (n = x)
theorem findI_isN {n:Int} {xs:List Int}:(0 ≤ findI (isN n) xs) = (n ∈ xs):=by
  rw [findI_ge,Zs];simp only [isN,decide_eq_true_eq]
  rw [eq_iff_iff];exact ⟨fun ⟨i,h,e⟩=>⟨i,h,e.symm⟩,fun ⟨i,h,e⟩=>⟨i,h,e.symm⟩⟩

theorem index_pure (xs:List Int) (n:Int)  : Pure Tryz.prog 77 [li cI xs,.int .i64 n] (.int .i64 (findI (isN n) xs)):=by
  refine Pure.of_walk Tryz.func77 rfl (by simp [Tryz.f77]) (by simp [-zd,go_sem]) fun B hK=>?_
  (repeat' (first
 | refine Qt ?_
 | (refine Zm 0 rfl fun hm=>?_);refine Qc (id:=0) Uv [] (by kernel_rfl) ?_;simp [-zg,-zd,↓Qb,↓Qa,go_sem]
 | refine Qc (id:=1) Uv [] (by kernel_rfl) ?_;simp [-zg,-zd,↓Qb,↓Qa,go_sem]
 | refine Qc (id:=2) Uv [] (by kernel_rfl) ?_;simp [-zg,-zd,↓Qb,↓Qa,go_sem]
 | refine Qc (id:=3) Uv [] (by kernel_rfl) ?_;simp [-zg,-zd,↓Qb,↓Qa,go_sem]
 | refine Qc (id:=4) Uv [] (by kernel_rfl) ?_;simp [-zg,-zd,↓Qb,↓Qa,go_sem,c9,Qe c9,zsP c9]
 | refine Qc (id:=5) Uv [] (by kernel_rfl) ?_;simp [-zg,-zd,↓Qb,↓Qa,go_sem]
 | refine Qc (id:=6) Uv [] (by kernel_rfl) ?_;simp [-zg,-zd,↓Qb,↓Qa,go_sem,wrapS (k:=k) (by omega)]
 | refine Qc (id:=7) Uv [] (by kernel_rfl) ?_;simp [-zg,-zd,↓Qb,↓Qa,go_sem]
 | refine Qd (c:=.tmp 9) ?_;simp [-zg,-zd,↓Qb,↓Qa,go_sem];try first | (refine ⟨?_,?_⟩ <;> refine zA ?_) | (refine ⟨fun c9=>?_,fun c9=>?_⟩ <;> (try simp [B_iff,B_not] at c9))
 | refine Qd (c:=.tmp 16) ?_;simp [-zg,-zd,↓Qb,↓Qa,go_sem];try first | (refine ⟨?_,?_⟩ <;> refine zA ?_) | (refine ⟨fun c16=>?_,fun c16=>?_⟩ <;> (try simp [B_iff,B_not] at c16))
 | (refine Qg (id:=0) (Qx (ι:=Nat) (fun k:Nat=>⟨(upd (upd (upd (upd (upd (fun _=>.any) 0 (li cI xs)) 1 (.int .i64 n)) 6 (li cI xs)) 7 (.int .i64 xs.length)) 8 (.int .i64 k)),fun _=>none⟩) (fun k=>k ≤ xs.length ∧ NoneTill (fun i=>isN n (nth xs i)) k) (fun k=>xs.length - k) (0) ?_ ?_ ?_);exact ⟨Nat.zero_le _,.zero _⟩;((repeat' (first | exact Qh (by assumption) | exact Qj | refine Qk ?_ ?_ | refine Qi ?_)) <;> simp [-zg,-zd,↓Qb,↓Qa,go_sem]);rintro k ⟨hk,ht⟩)
 | (refine ⟨k + 1,⟨by omega,ht.succ (by simp_all [isN])⟩,by first | omega | (simp;done) | (simp;omega),?_⟩;((repeat' (first | exact Qh (by assumption) | exact Qj | refine Qk ?_ ?_ | refine Qi ?_)) <;> simp [-zg,-zd,↓Qb,↓Qa,go_sem]))
 | (refine Qg ?_)
 | (refine Qs ?_;simp [-zg,-zd,↓Qb,↓Qa,go_sem])
 | (refine Qr ?_;simp [-zg,-zd,↓Qb,↓Qa,go_sem])
 | (refine Qq ?_;simp [-zg,-zd,↓Qb,↓Qa,go_sem,Tryz.results77])
 | (intro hx;refine zA ?_)
 | (refine ⟨?_,?_⟩ <;> refine zA ?_)
 | (intro hx;constructor <;> intro hs)
 | (constructor <;> intro hs)
 | (refine ⟨?_,fun hs=>?_⟩;refine zA ?_)
 | (refine ⟨fun hs=>?_,?_⟩;rotate_left;refine zA ?_;rotate_left)))
  all_goals (first
 | (rw [zamh ht c9 (by simp_all [isN])])
 | (rw [zafe ht (by omega)])
 | skip)
@[go_sem] def zaiu:Con:=.pure fun
  | [.list n_xs c_xs,.int .i64 n]=>((Is cI n_xs c_xs),.int .i64 (findI (isN n) (de cI c_xs)))
  | _=>(False,.any)
theorem index_pureC_ok:ConOk Tryz.prog 77 zaiu:=by
  refine ⟨Qo Tryz.func77 (by decide) rfl,fun args h=>?_⟩
  revert h
  dsimp only
  split
  · intro h
    obtain ⟨xs,rfl,rfl⟩:=h
    try simp only [Qm] at *
    exact ⟨index_pure xs _,by simp [go_sem]⟩
  · intro h
    exact h.elim
@[go_sem] def Γ33:FuncId → Con:=ext Γ32 77 zaiu
theorem Γ33_ok:∀ g,ConOk Tryz.prog g (Γ33 g):=Qn Uv index_pureC_ok

theorem contains_pure (xs:List Int) (n:Int)  : Pure Tryz.prog 55 [li cI xs,.int .i64 n] (.bool (B (n ∈ xs))):=by
  refine Pure.of_walk Tryz.func55 rfl (by simp [Tryz.f55]) (by simp [-zd,go_sem]) fun B hK=>?_
  (repeat' (first
 | refine Qt ?_
 | refine Qc (id:=0) Γ33_ok [] (by kernel_rfl) ?_;simp [-zg,-zd,↓Qb,↓Qa,go_sem,findI_isN]
 | refine Qc (id:=1) Γ33_ok [] (by kernel_rfl) ?_;simp [-zg,-zd,↓Qb,↓Qa,go_sem,findI_isN]
 | (refine Qg ?_)
 | (refine Qs ?_;simp [-zg,-zd,↓Qb,↓Qa,go_sem])
 | (refine Qr ?_;simp [-zg,-zd,↓Qb,↓Qa,go_sem])
 | (refine Qq ?_;simp [-zg,-zd,↓Qb,↓Qa,go_sem,Tryz.results55,findI_isN])
 | (intro hx;refine zA ?_)
 | (refine ⟨?_,?_⟩ <;> refine zA ?_)
 | (intro hx;constructor <;> intro hs)
 | (constructor <;> intro hs)
 | (refine ⟨?_,fun hs=>?_⟩;refine zA ?_)
 | (refine ⟨fun hs=>?_,?_⟩;rotate_left;refine zA ?_;rotate_left)))
  all_goals (rw [Bool.eq_iff_iff,B_iff,decide_eq_true_eq])
@[go_sem] def zael:Con:=.pure fun
  | [.list n_xs c_xs,.int .i64 n]=>((Is cI n_xs c_xs),.bool (B (n ∈ (de cI c_xs))))
  | _=>(False,.any)
theorem zajr:ConOk Tryz.prog 55 zael:=by
  refine ⟨Qo Tryz.func55 (by decide) rfl,fun args h=>?_⟩
  revert h
  dsimp only
  split
  · intro h
    obtain ⟨xs,rfl,rfl⟩:=h
    try simp only [Qm] at *
    exact ⟨contains_pure xs _,by simp [go_sem]⟩
  · intro h
    exact h.elim
@[go_sem] def Γ34:FuncId → Con:=ext Γ33 55 zael
theorem Uu:∀ g,ConOk Tryz.prog g (Γ34 g):=Qn Γ33_ok zajr

theorem distinct_pure (xs:List Int) (n:Int) (h0:0 ≤ n) (h1:n ≤ 9223372036854775807):Pure Tryz.prog 36 [li cI xs,.int .i64 n] (.bool (B (Dist xs n))):=by
  refine Pure.of_walk Tryz.func36 rfl (by simp [Tryz.f36]) (by simp [-zd,go_sem]) fun B hK=>?_
  (repeat' (first
 | refine Qt ?_
 | (refine Zm 0 rfl fun hm=>?_);refine Qc (id:=0) Uu [] (by kernel_rfl) ?_;simp [-zg,-zd,↓Qb,↓Qa,go_sem]
 | refine Qc (id:=1) Uu [] (by kernel_rfl) ?_;simp [-zg,-zd,↓Qb,↓Qa,go_sem]
 | refine Qc (id:=2) Uu [] (by kernel_rfl) ?_;simp [-zg,-zd,↓Qb,↓Qa,go_sem]
 | refine Qc (id:=3) Uu [] (by kernel_rfl) ?_;simp [-zg,-zd,↓Qb,↓Qa,go_sem,c10,Qe c10,zsP c10]
 | refine Qc (id:=4) Uu [19] (by kernel_rfl) ?_;simp [-zg,-zd,↓Qb,↓Qa,go_sem,c10,Qe c10,zsP c10,Xb (x:=n - 1) (by omega) (by omega),Nat.le_of_lt c10];try (refine ⟨fun s4a=>?_,fun s4a=>?_⟩ <;> (try simp [B_iff,B_not] at s4a) <;> try (refine ⟨fun s4b=>?_,fun s4b=>?_⟩ <;> (try simp [B_iff,B_not] at s4b)))
 | refine Qc (id:=5) Uu [] (by kernel_rfl) ?_;simp [-zg,-zd,↓Qb,↓Qa,go_sem]
 | refine Qc (id:=6) Uu [] (by kernel_rfl) ?_;simp [-zg,-zd,↓Qb,↓Qa,go_sem,wrapS (k:=k) (by omega)]
 | refine Qc (id:=7) Uu [] (by kernel_rfl) ?_;simp [-zg,-zd,↓Qb,↓Qa,go_sem]
 | refine Qd (c:=.tmp 10) ?_;simp [-zg,-zd,↓Qb,↓Qa,go_sem];try first | (refine ⟨?_,?_⟩ <;> refine zA ?_) | (refine ⟨fun c10=>?_,fun c10=>?_⟩ <;> (try simp [B_iff,B_not] at c10))
 | refine Qd (c:=.tmp 25) ?_;simp [-zg,-zd,↓Qb,↓Qa,go_sem];try first | (refine ⟨?_,?_⟩ <;> refine zA ?_) | (refine ⟨fun c25=>?_,fun c25=>?_⟩ <;> (try simp [B_iff,B_not] at c25))
 | (refine Qg (id:=0) (Qx (ι:=Nat) (fun k:Nat=>⟨(upd (upd (upd (upd (upd (fun _=>.any) 0 (li cI xs)) 1 (.int .i64 n)) 7 (li cI xs)) 8 (.int .i64 xs.length)) 9 (.int .i64 k)),fun _=>none⟩) (fun k=>k ≤ xs.length ∧ AllTill (fun i=>0 ≤ nth xs i ∧ nth xs i ≤ n - 1 ∧ ¬ nth xs i ∈ xs.take i) k) (fun k=>xs.length - k) (0) ?_ ?_ ?_);exact ⟨Nat.zero_le _,.zero _⟩;((repeat' (first | exact Qh (by assumption) | exact Qj | refine Qk ?_ ?_ | refine Qi ?_)) <;> simp [-zg,-zd,↓Qb,↓Qa,go_sem]);rintro k ⟨hk,ht⟩)
 | (refine ⟨k + 1,⟨by omega,ht.succ ⟨by omega,by omega,c25⟩⟩,by first | omega | (simp;done) | (simp;omega),?_⟩;((repeat' (first | exact Qh (by assumption) | exact Qj | refine Qk ?_ ?_ | refine Qi ?_)) <;> simp [-zg,-zd,↓Qb,↓Qa,go_sem]))
 | (refine Qg ?_)
 | (refine Qs ?_;simp [-zg,-zd,↓Qb,↓Qa,go_sem])
 | (refine Qr ?_;simp [-zg,-zd,↓Qb,↓Qa,go_sem])
 | (refine Qq ?_;simp [-zg,-zd,↓Qb,↓Qa,go_sem,Tryz.results36])
 | (intro hx;refine zA ?_)
 | (refine ⟨?_,?_⟩ <;> refine zA ?_)
 | (intro hx;constructor <;> intro hs)
 | (constructor <;> intro hs)
 | (refine ⟨?_,fun hs=>?_⟩;refine zA ?_)
 | (refine ⟨fun hs=>?_,?_⟩;rotate_left;refine zA ?_;rotate_left)))
  all_goals (first
 | (intro h;obtain ⟨h1,h2,h3⟩:=h k c10;omega)
 | (intro h;exact (h k c10).2.2 c25)
 | exact fun i hi=>ht i (by omega)
 | skip)
@[go_sem] def zaek:Con:=.pure fun
  | [.list n_xs c_xs,.int .i64 n]=>((Is cI n_xs c_xs) ∧ (0 ≤ n) ∧ (n ≤ 9223372036854775807),.bool (B (Dist (de cI c_xs) n)))
  | _=>(False,.any)
theorem zajq:ConOk Tryz.prog 36 zaek:=by
  refine ⟨Qo Tryz.func36 (by decide) rfl,fun args h=>?_⟩
  revert h
  dsimp only
  split
  · intro h
    obtain ⟨⟨xs,rfl,rfl⟩,h0,h1⟩:=h
    try simp only [Qm] at *
    exact ⟨distinct_pure xs _ h0 h1,by simp [go_sem]⟩
  · intro h
    exact h.elim
@[go_sem] def Γ35:FuncId → Con:=ext Γ34 36 zaek
theorem Γ35_ok:∀ g,ConOk Tryz.prog g (Γ35 g):=Qn Uu zajq

def Jg (n:Int) (xs:List Int):Bool:=decide (xs.length = 0) || !B (Dist xs n)

theorem zamd (xs:List Int) (n:Int) (h0:0 ≤ n) (h1:n ≤ 9223372036854775807):Pure Tryz.prog 35 [li cI xs,.pd [.int .i64 n]] (.bool (Jg n xs)):=by
  refine Pure.of_walk Tryz.func35 rfl (by simp [Tryz.f35]) (by simp [-zd,go_sem]) fun B hK=>?_
  (repeat' (first
 | refine Qt ?_
 | refine Qc (id:=0) Γ35_ok [] (by kernel_rfl) ?_;simp [-zg,-zd,↓Qb,↓Qa,go_sem,Jg]
 | refine Qc (id:=1) Γ35_ok [7] (by kernel_rfl) ?_;simp [-zg,-zd,↓Qb,↓Qa,go_sem,h0,h1,Jg];try (refine ⟨fun s1a=>?_,fun s1a=>?_⟩ <;> (try simp [B_iff,B_not] at s1a) <;> try (refine ⟨fun s1b=>?_,fun s1b=>?_⟩ <;> (try simp [B_iff,B_not] at s1b)))
 | (refine Qg ?_)
 | (refine Qs ?_;simp [-zg,-zd,↓Qb,↓Qa,go_sem])
 | (refine Qr ?_;simp [-zg,-zd,↓Qb,↓Qa,go_sem])
 | (refine Qq ?_;simp [-zg,-zd,↓Qb,↓Qa,go_sem,Tryz.results35,Jg])
 | (intro hx;refine zA ?_)
 | (refine ⟨?_,?_⟩ <;> refine zA ?_)
 | (intro hx;constructor <;> intro hs)
 | (constructor <;> intro hs)
 | (refine ⟨?_,fun hs=>?_⟩;refine zA ?_)
 | (refine ⟨fun hs=>?_,?_⟩;rotate_left;refine zA ?_;rotate_left)))
  all_goals (first
 | exact .inl s1a
 | (intro h;exact absurd h s1a)
 | skip)
@[go_sem] def zacq:Con:=.pure fun
  | [.list n_xs c_xs,.pd [.int .i64 n]]=>((Is cI n_xs c_xs) ∧ (0 ≤ n) ∧ (n ≤ 9223372036854775807),.bool (Jg n (de cI c_xs)))
  | _=>(False,.any)
theorem zagx:ConOk Tryz.prog 35 zacq:=by
  refine ⟨Qo Tryz.func35 (by decide) rfl,fun args h=>?_⟩
  revert h
  dsimp only
  split
  · intro h
    obtain ⟨⟨xs,rfl,rfl⟩,h0,h1⟩:=h
    try simp only [Qm] at *
    exact ⟨zamd xs _ h0 h1,by simp [go_sem]⟩
  · intro h
    exact h.elim
@[go_sem] def Γ36:FuncId → Con:=ext Γ35 35 zacq
theorem Ut:∀ g,ConOk Tryz.prog g (Γ36 g):=Qn Γ35_ok zagx

theorem indexNext_pure (xs:List (List Int)) (n:Int) (h0:0 ≤ n) (h1:n ≤ 9223372036854775807):Pure Tryz.prog 54 [li cL xs,.fn 35 [.pd [.int .i64 n]]] (.int .i64 (findI (Jg n) xs)):=by
  refine Pure.of_walk Tryz.func54 rfl (by simp [Tryz.f54]) (by simp [-zd,go_sem]) fun B hK=>?_
  (repeat' (first
 | refine Qt ?_
 | (refine Zm 0 rfl fun hm=>?_);refine Qc (id:=0) Ut [] (by kernel_rfl) ?_;simp [-zg,-zd,↓Qb,↓Qa,go_sem]
 | refine Qc (id:=1) Ut [] (by kernel_rfl) ?_;simp [-zg,-zd,↓Qb,↓Qa,go_sem]
 | refine Qc (id:=2) Ut [] (by kernel_rfl) ?_;simp [-zg,-zd,↓Qb,↓Qa,go_sem]
 | refine Qc (id:=3) Ut [] (by kernel_rfl) ?_;simp [-zg,-zd,↓Qb,↓Qa,go_sem]
 | refine Qc (id:=4) Ut [] (by kernel_rfl) ?_;simp [-zg,-zd,↓Qb,↓Qa,go_sem,c9,Qe c9,zsP c9,h0,h1]
 | refine Qc (id:=5) Ut [] (by kernel_rfl) ?_;simp [-zg,-zd,↓Qb,↓Qa,go_sem]
 | refine Qc (id:=6) Ut [] (by kernel_rfl) ?_;simp [-zg,-zd,↓Qb,↓Qa,go_sem,wrapS (k:=k) (by omega)]
 | refine Qc (id:=7) Ut [] (by kernel_rfl) ?_;simp [-zg,-zd,↓Qb,↓Qa,go_sem]
 | refine Qd (c:=.tmp 9) ?_;simp [-zg,-zd,↓Qb,↓Qa,go_sem];try first | (refine ⟨?_,?_⟩ <;> refine zA ?_) | (refine ⟨fun c9=>?_,fun c9=>?_⟩ <;> (try simp [B_iff,B_not] at c9))
 | refine Qd (c:=.tmp 16) ?_;simp [-zg,-zd,↓Qb,↓Qa,go_sem];try first | (refine ⟨?_,?_⟩ <;> refine zA ?_) | (refine ⟨fun c16=>?_,fun c16=>?_⟩ <;> (try simp [B_iff,B_not] at c16))
 | (refine Qg (id:=0) (Qx (ι:=Nat) (fun k:Nat=>⟨(upd (upd (upd (upd (upd (fun _=>.any) 0 (li cL xs)) 1 (.fn 35 [.pd [.int .i64 n]])) 6 (li cL xs)) 7 (.int .i64 xs.length)) 8 (.int .i64 k)),fun _=>none⟩) (fun k=>k ≤ xs.length ∧ NoneTill (fun i=>(Jg n) (nth xs i)) k) (fun k=>xs.length - k) (0) ?_ ?_ ?_);exact ⟨Nat.zero_le _,.zero _⟩;((repeat' (first | exact Qh (by assumption) | exact Qj | refine Qk ?_ ?_ | refine Qi ?_)) <;> simp [-zg,-zd,↓Qb,↓Qa,go_sem]);rintro k ⟨hk,ht⟩)
 | (refine ⟨k + 1,⟨by omega,ht.succ (by simp_all)⟩,by first | omega | (simp;done) | (simp;omega),?_⟩;((repeat' (first | exact Qh (by assumption) | exact Qj | refine Qk ?_ ?_ | refine Qi ?_)) <;> simp [-zg,-zd,↓Qb,↓Qa,go_sem]))
 | (refine Qg ?_)
 | (refine Qs ?_;simp [-zg,-zd,↓Qb,↓Qa,go_sem])
 | (refine Qr ?_;simp [-zg,-zd,↓Qb,↓Qa,go_sem])
 | (refine Qq ?_;simp [-zg,-zd,↓Qb,↓Qa,go_sem,Tryz.results54])
 | (intro hx;refine zA ?_)
 | (refine ⟨?_,?_⟩ <;> refine zA ?_)
 | (intro hx;constructor <;> intro hs)
 | (constructor <;> intro hs)
 | (refine ⟨?_,fun hs=>?_⟩;refine zA ?_)
 | (refine ⟨fun hs=>?_,?_⟩;rotate_left;refine zA ?_;rotate_left)))
  all_goals (first
 | (rw [zamh ht c9 (by simp_all)])
 | (rw [zafe ht (by omega)])
 | skip)
@[go_sem] def zadp:Con:=.pure fun
  | [.list n_xs c_xs,.fn 35 [.pd [.int .i64 n]]]=>((Is cL n_xs c_xs) ∧ (0 ≤ n) ∧ (n ≤ 9223372036854775807),.int .i64 (findI (Jg n) (de cL c_xs)))
  | _=>(False,.any)
theorem zaiv:ConOk Tryz.prog 54 zadp:=by
  refine ⟨Qo Tryz.func54 (by decide) rfl,fun args h=>?_⟩
  revert h
  dsimp only
  split
  · intro h
    obtain ⟨⟨xs,rfl,rfl⟩,h0,h1⟩:=h
    try simp only [Qm] at *
    exact ⟨indexNext_pure xs _ h0 h1,by simp [go_sem]⟩
  · intro h
    exact h.elim
@[go_sem] def Γ37:FuncId → Con:=ext Γ36 54 zadp
theorem Γ37_ok:∀ g,ConOk Tryz.prog g (Γ37 g):=Qn Ut zaiv

theorem zajs (xs:List (List Int)) (n:Int) (h0:0 ≤ n) (h1:n ≤ 9223372036854775807):Pure Tryz.prog 34 [li cL xs,.fn 35 [.pd [.int .i64 n]]] (.bool (decide (0 ≤ findI (Jg n) xs))):=by
  refine Pure.of_walk Tryz.func34 rfl (by simp [Tryz.f34]) (by simp [-zd,go_sem]) fun B hK=>?_
  (repeat' (first
 | refine Qt ?_
 | refine Qc (id:=0) Γ37_ok [] (by kernel_rfl) ?_;simp [-zg,-zd,↓Qb,↓Qa,go_sem]
 | refine Qc (id:=1) Γ37_ok [] (by kernel_rfl) ?_;simp [-zg,-zd,↓Qb,↓Qa,go_sem,h0,h1]
 | (refine Qg ?_)
 | (refine Qs ?_;simp [-zg,-zd,↓Qb,↓Qa,go_sem])
 | (refine Qr ?_;simp [-zg,-zd,↓Qb,↓Qa,go_sem])
 | (refine Qq ?_;simp [-zg,-zd,↓Qb,↓Qa,go_sem,Tryz.results34])
 | (intro hx;refine zA ?_)
 | (refine ⟨?_,?_⟩ <;> refine zA ?_)
 | (intro hx;constructor <;> intro hs)
 | (constructor <;> intro hs)
 | (refine ⟨?_,fun hs=>?_⟩;refine zA ?_)
 | (refine ⟨fun hs=>?_,?_⟩;rotate_left;refine zA ?_;rotate_left)))
@[go_sem] def zacf:Con:=.pure fun
  | [.list n_xs c_xs,.fn 35 [.pd [.int .i64 n]]]=>((Is cL n_xs c_xs) ∧ (0 ≤ n) ∧ (n ≤ 9223372036854775807),.bool (decide (0 ≤ findI (Jg n) (de cL c_xs))))
  | _=>(False,.any)
theorem zafx:ConOk Tryz.prog 34 zacf:=by
  refine ⟨Qo Tryz.func34 (by decide) rfl,fun args h=>?_⟩
  revert h
  dsimp only
  split
  · intro h
    obtain ⟨⟨xs,rfl,rfl⟩,h0,h1⟩:=h
    try simp only [Qm] at *
    exact ⟨zajs xs _ h0 h1,by simp [go_sem]⟩
  · intro h
    exact h.elim
@[go_sem] def Γ38:FuncId → Con:=ext Γ37 34 zacf
theorem Γ38_ok:∀ g,ConOk Tryz.prog g (Γ38 g):=Qn Γ37_ok zafx

theorem find_bad {a:List Ints2}:(0 ≤ findI Zt a) = ¬ ∀ i,i < a.length → ValsOk (nth a i).2:=by
  rw [findI_ge,eq_iff_iff]
  constructor
  · rintro ⟨i,h,e⟩ k
    simp [Zt,B_not] at e
    exact e (k i h)
  · intro h
    apply Classical.byContradiction;intro h2
    apply h;intro i hi
    apply Classical.byContradiction;intro h3
    exact h2 ⟨i,hi,by simp [Zt,B_not];exact h3⟩
theorem find_next {b:List (List Int)} {n:Int}:(0 ≤ findI (Jg n) b) = ¬ ∀ i,i < b.length → 1 ≤ (nth b i).length ∧ Dist (nth b i) n:=by
  rw [findI_ge,eq_iff_iff]
  constructor
  · rintro ⟨i,h,e⟩ k
    obtain ⟨k1,k2⟩:=k i h
    simp only [Jg,Bool.or_eq_true,decide_eq_true_eq,Bool.not_eq_true',B_not] at e
    rcases e with e | e
    · omega
    · exact e k2
  · intro h
    apply Classical.byContradiction;intro h2
    apply h;intro i hi
    apply Classical.byContradiction;intro h3
    refine h2 ⟨i,hi,?_⟩
    simp only [Jg,Bool.or_eq_true,decide_eq_true_eq,Bool.not_eq_true',B_not]
    rcases Nat.eq_zero_or_pos (nth b i).length with h4 | h4
    · exact .inl h4
    · exact .inr fun h5=>h3 ⟨h4,h5⟩

theorem zaht (a:List Ints2) (b:List (List Int))  : Pure Tryz.prog 14 [.st [li cP a,li cL b]] (.bool (B (GraphOk a b))):=by
  refine Pure.of_walk Tryz.func14 rfl (by simp [Tryz.f14]) (by simp [-zd,go_sem]) fun B hK=>?_
  (repeat' (first
 | refine Qt ?_
 | refine Qc (id:=0) Γ38_ok [] (by kernel_rfl) ?_;simp [-zg,-zd,↓Qb,↓Qa,go_sem];try (refine Xf hK 1 ?_;simp [go_sem])
 | (refine AW_lenP 1 0 ⟨rfl,rfl⟩ fun hm=>?_);refine Qc (id:=1) Γ38_ok [] (by kernel_rfl) ?_;simp [-zg,-zd,↓Qb,↓Qa,go_sem];try (refine Xf hK 3 ?_;simp [go_sem])
 | refine Qc (id:=2) Γ38_ok [9,16,22] (by kernel_rfl) ?_;simp [-zg,-zd,↓Qb,↓Qa,go_sem,(by omega:(a.length:Int) ≤ 9223372036854775807)];try (refine ⟨fun s2a=>?_,fun s2a=>?_⟩ <;> (try simp [B_iff,B_not] at s2a) <;> try (refine ⟨fun s2b=>?_,fun s2b=>?_⟩ <;> (try simp [B_iff,B_not] at s2b) <;> try (refine ⟨fun s2c=>?_,fun s2c=>?_⟩ <;> (try simp [B_iff,B_not] at s2c) <;> try (refine ⟨fun s2d=>?_,fun s2d=>?_⟩ <;> (try simp [B_iff,B_not] at s2d)))))
 | (refine Qg ?_)
 | (refine Qs ?_;simp [-zg,-zd,↓Qb,↓Qa,go_sem])
 | (refine Qr ?_;simp [-zg,-zd,↓Qb,↓Qa,go_sem])
 | (refine Qq ?_;simp [-zg,-zd,↓Qb,↓Qa,go_sem,Tryz.results14])
 | (intro hx;refine zA ?_)
 | (refine ⟨?_,?_⟩ <;> refine zA ?_)
 | (intro hx;constructor <;> intro hs)
 | (constructor <;> intro hs)
 | (refine ⟨?_,fun hs=>?_⟩;refine zA ?_)
 | (refine ⟨fun hs=>?_,?_⟩;rotate_left;refine zA ?_;rotate_left)))
  all_goals (first
 | (rintro ⟨g1,g2,g3,g4,g5⟩;omega)
 | (rintro ⟨g1,g2,g3,g4,g5⟩;have k:0 ≤ findI Zt a:=(by omega);rw [find_bad] at k;exact k g4)
 | (rw [Bool.eq_iff_iff,decide_eq_true_eq,find_next,Bool.not_eq_true',B_not];have hv:∀ i,i < a.length → ValsOk (nth a i).2:=(Classical.byContradiction fun k=>by rw [← find_bad] at k;omega);exact ⟨fun h k=>h k.2.2.2.2,fun h k=>h ⟨by omega,by omega,by omega,hv,k⟩⟩)
 | skip)
@[go_sem] def zabl:Con:=.pure fun
  | [.st [.list n_a c_a,.list n_b c_b]]=>((Is cP n_a c_a) ∧ (Is cL n_b c_b),.bool (B (GraphOk (de cP c_a) (de cL c_b))))
  | _=>(False,.any)
theorem zaep:ConOk Tryz.prog 14 zabl:=by
  refine ⟨Qo Tryz.func14 (by decide) rfl,fun args h=>?_⟩
  revert h
  dsimp only
  split
  · intro h
    obtain ⟨⟨a,rfl,rfl⟩,⟨b,rfl,rfl⟩⟩:=h
    try simp only [Qm] at *
    exact ⟨zaht a b,by simp [go_sem]⟩
  · intro h
    exact h.elim
@[go_sem] def Γ39:FuncId → Con:=ext Γ38 14 zabl
theorem Zp:∀ g,ConOk Tryz.prog g (Γ39 g):=Qn Γ38_ok zaep

def NextTill (xs:List Int) (n k:Nat):Prop:=AllTill (fun i=>0 ≤ nth xs i ∧ nth xs i < n ∧ ¬ nth xs i ∈ xs.take i) k
theorem NextTill.dist {xs:List Int} {n k:Nat} (h:NextTill xs n k) (hk:xs.length ≤ k):Dist xs n:=fun i hi=>by obtain ⟨h1,h2,h3⟩:=h i (by omega);exact ⟨h1,by omega,h3⟩
theorem Dist.at {xs:List Int} {n:Nat} (h:Dist xs n) {k:Nat} (hk:k < xs.length):0 ≤ nth xs k ∧ nth xs k < n ∧ ¬ nth xs k ∈ xs.take k:=by obtain ⟨h1,h2,h3⟩:=h k hk;exact ⟨h1,by omega,h3⟩
def StateOk (a:List Ints2) (b:List (List Int)) (i:Nat):Prop:=1 ≤ (nth b i).length ∧ ValsOk (nth a i).2 ∧ Dist (nth b i) a.length
set_option maxHeartbeats 2000000 in

theorem zahg (a:List Ints2) (b:List (List Int))  : Pure Tryz.prog 27 [.st [li cP a,li cL b]] (.bool (B (GraphOk a b))):=by
  refine Pure.of_walk Tryz.func27 rfl (by simp [Tryz.f27]) (by simp [-zd,go_sem]) fun B hK=>?_
  (repeat' (first
 | refine Qt ?_
 | refine Qc (id:=0) Zp [] (by kernel_rfl) ?_;simp [-zg,-zd,↓Qb,↓Qa,go_sem];try (refine Xf hK 1 ?_;simp [go_sem])
 | refine Qc (id:=1) Zp [9,15] (by kernel_rfl) ?_;simp [-zg,-zd,↓Qb,↓Qa,go_sem];try (refine ⟨fun s1a=>?_,fun s1a=>?_⟩ <;> (try simp [B_iff,B_not] at s1a) <;> try (refine ⟨fun s1b=>?_,fun s1b=>?_⟩ <;> (try simp [B_iff,B_not] at s1b) <;> try (refine ⟨fun s1c=>?_,fun s1c=>?_⟩ <;> (try simp [B_iff,B_not] at s1c))))
 | refine Qc (id:=2) Zp [] (by kernel_rfl) ?_;simp [-zg,-zd,↓Qb,↓Qa,go_sem]
 | refine Qc (id:=3) Zp [] (by kernel_rfl) ?_;simp [-zg,-zd,↓Qb,↓Qa,go_sem]
 | refine Qc (id:=4) Zp [] (by kernel_rfl) ?_;simp [-zg,-zd,↓Qb,↓Qa,go_sem]
 | (have ci:i < a.length:=(by omega));refine Xm (id:=6) Zp mixed [38,50] [1] (by kernel_rfl) (by kernel_rfl) (by simp [-zg,-zd,↓Qb,↓Qa,go_sem,c28,Qe c28,zsP c28,ci,Qe ci,zsP ci]) ?_;simp [-zg,-zd,↓Qb,↓Qa,go_sem,c28,Qe c28,zsP c28,ci,Qe ci,zsP ci];try (refine ⟨fun s6a=>?_,fun s6a=>?_⟩ <;> (try simp [B_iff,B_not] at s6a) <;> try (refine ⟨fun s6b=>?_,fun s6b=>?_⟩ <;> (try simp [B_iff,B_not] at s6b) <;> try (refine ⟨fun s6c=>?_,fun s6c=>?_⟩ <;> (try simp [B_iff,B_not] at s6c))))
 | refine Qc (id:=7) Zp [] (by kernel_rfl) ?_;simp [-zg,-zd,↓Qb,↓Qa,go_sem]
 | refine Qc (id:=8) Zp [] (by kernel_rfl) ?_;simp [-zg,-zd,↓Qb,↓Qa,go_sem]
 | refine Qc (id:=9) Zp [] (by kernel_rfl) ?_;simp [-zg,-zd,↓Qb,↓Qa,go_sem,c28,Qe c28,zsP c28]
 | refine Xm (id:=11) Zp mixed [79,93] [1,3,4] (by kernel_rfl) (by kernel_rfl) (by simp [-zg,-zd,↓Qb,↓Qa,go_sem,c28,Qe c28,zsP c28,c67,Qe c67,zsP c67,Nat.le_of_lt c67]) ?_;simp [-zg,-zd,↓Qb,↓Qa,go_sem,c28,Qe c28,zsP c28,c67,Qe c67,zsP c67,Nat.le_of_lt c67];try (refine ⟨fun s11a=>?_,fun s11a=>?_⟩ <;> (try simp [B_iff,B_not] at s11a) <;> try (refine ⟨fun s11b=>?_,fun s11b=>?_⟩ <;> (try simp [B_iff,B_not] at s11b) <;> try (refine ⟨fun s11c=>?_,fun s11c=>?_⟩ <;> (try simp [B_iff,B_not] at s11c))))
 | refine Qc (id:=12) Zp [] (by kernel_rfl) ?_;simp [-zg,-zd,↓Qb,↓Qa,go_sem]
 | refine Qc (id:=10) Zp [] (by kernel_rfl) ?_;simp [-zg,-zd,↓Qb,↓Qa,go_sem,wrapS (k:=k) (by omega)]
 | refine Qc (id:=5) Zp [] (by kernel_rfl) ?_;simp [-zg,-zd,↓Qb,↓Qa,go_sem,wrapS (k:=i) (by omega)]
 | refine Qc (id:=13) Zp [] (by kernel_rfl) ?_;simp [-zg,-zd,↓Qb,↓Qa,go_sem]
 | refine Qd (c:=.tmp 23) ?_;simp [-zg,-zd,↓Qb,↓Qa,go_sem];try first | (refine ⟨?_,?_⟩ <;> refine zA ?_) | (refine ⟨fun c23=>?_,fun c23=>?_⟩ <;> (try simp [B_iff,B_not] at c23))
 | refine Qd (c:=.tmp 28) ?_;simp [-zg,-zd,↓Qb,↓Qa,go_sem];try first | (refine ⟨?_,?_⟩ <;> refine zA ?_) | (refine ⟨fun c28=>?_,fun c28=>?_⟩ <;> (try simp [B_iff,B_not] at c28))
 | refine Qd (c:=.tmp 59) ?_;simp [-zg,-zd,↓Qb,↓Qa,go_sem];try first | (refine ⟨?_,?_⟩ <;> refine zA ?_) | (refine ⟨fun c59=>?_,fun c59=>?_⟩ <;> (try simp [B_iff,B_not] at c59))
 | refine Qd (c:=.tmp 67) ?_;simp [-zg,-zd,↓Qb,↓Qa,go_sem];try first | (refine ⟨?_,?_⟩ <;> refine zA ?_) | (refine ⟨fun c67=>?_,fun c67=>?_⟩ <;> (try simp [B_iff,B_not] at c67))
 | refine Qd (c:=.tmp 110) ?_;simp [-zg,-zd,↓Qb,↓Qa,go_sem];try first | (refine ⟨?_,?_⟩ <;> refine zA ?_) | (refine ⟨fun c110=>?_,fun c110=>?_⟩ <;> (try simp [B_iff,B_not] at c110))
 | (refine Qg (id:=0) (Qx (ι:=Nat) (fun i:Nat=>⟨(upd (upd (fun _=>.any) 1 (.pd [li cP a,li cL b])) 3 (.int .i64 i)),fun _=>none⟩) (fun i=>i ≤ b.length ∧ AllTill (StateOk a b) i) (fun i=>b.length - i) (0) ?_ ?_ ?_);exact ⟨Nat.zero_le _,.zero _⟩;((repeat' (first | exact Qh (by assumption) | exact Qj | refine Qk ?_ ?_ | refine Qi ?_)) <;> simp [-zg,-zd,↓Qb,↓Qa,go_sem]);rintro i ⟨hi,hu⟩)
 | (refine ⟨i + 1,⟨by omega,hu.succ ⟨by omega,c59,ht.dist (by omega)⟩⟩,by first | omega | (simp;done) | (simp;omega),?_⟩;((repeat' (first | exact Qh (by assumption) | exact Qj | refine Qk ?_ ?_ | refine Qi ?_)) <;> simp [-zg,-zd,↓Qb,↓Qa,go_sem]))
 | (refine Qg (id:=2) (Qx (ι:=Nat) (fun k:Nat=>⟨(upd (upd (upd (fun _=>.any) 1 (.pd [li cP a,li cL b])) 3 (.int .i64 i)) 4 (.int .i64 k)),fun _=>none⟩) (fun k=>k ≤ (nth b i).length ∧ NextTill (nth b i) a.length k) (fun k=>(nth b i).length - k) (0) ?_ ?_ ?_);exact ⟨Nat.zero_le _,.zero _⟩;((repeat' (first | exact Qh (by assumption) | exact Qj | refine Qk ?_ ?_ | refine Qi ?_)) <;> simp [-zg,-zd,↓Qb,↓Qa,go_sem]);rintro k ⟨hk,ht⟩)
 | (refine ⟨k + 1,⟨by omega,ht.succ ⟨by omega,by omega,c110⟩⟩,by first | omega | (simp;done) | (simp;omega),?_⟩;((repeat' (first | exact Qh (by assumption) | exact Qj | refine Qk ?_ ?_ | refine Qi ?_)) <;> simp [-zg,-zd,↓Qb,↓Qa,go_sem]))
 | (refine Qg ?_)
 | (refine Qs ?_;simp [-zg,-zd,↓Qb,↓Qa,go_sem])
 | (refine Qr ?_;simp [-zg,-zd,↓Qb,↓Qa,go_sem])
 | (refine Qq ?_;simp [-zg,-zd,↓Qb,↓Qa,go_sem,Tryz.results27])
 | (intro hx;refine zA ?_)
 | (refine ⟨?_,?_⟩ <;> refine zA ?_)
 | (intro hx;constructor <;> intro hs)
 | (constructor <;> intro hs)
 | (refine ⟨?_,fun hs=>?_⟩;refine zA ?_)
 | (refine ⟨fun hs=>?_,?_⟩;rotate_left;refine zA ?_;rotate_left)))
  all_goals (first
 | (rintro ⟨g1,g2,g3,g4,g5⟩;omega)
 | (rintro ⟨g1,g2,g3,g4,g5⟩;obtain ⟨q1,q2⟩:=g5 i c28;have q3:=q2.len;omega)
 | (rintro ⟨g1,g2,g3,g4,g5⟩;exact c59 (g4 i ci))
 | (rintro ⟨g1,g2,g3,g4,g5⟩;obtain ⟨q1,q2⟩:=g5 i c28;obtain ⟨r1,r2,r3⟩:=q2.at c67;omega)
 | (rintro ⟨g1,g2,g3,g4,g5⟩;obtain ⟨q1,q2⟩:=g5 i c28;obtain ⟨r1,r2,r3⟩:=q2.at c67;exact r3 c110)
 | exact ⟨by omega,by omega,by omega,fun j hj=>(hu j (by omega)).2.1,fun j hj=>⟨(hu j (by omega)).1,(hu j (by omega)).2.2⟩⟩
 | skip)
@[go_sem] def zabf:Con:=.pure fun
  | [.st [.list n_a c_a,.list n_b c_b]]=>((Is cP n_a c_a) ∧ (Is cL n_b c_b),.bool (B (GraphOk (de cP c_a) (de cL c_b))))
  | _=>(False,.any)
theorem zaeo:ConOk Tryz.prog 27 zabf:=by
  refine ⟨Qo Tryz.func27 (by decide) rfl,fun args h=>?_⟩
  revert h
  dsimp only
  split
  · intro h
    obtain ⟨⟨a,rfl,rfl⟩,⟨b,rfl,rfl⟩⟩:=h
    try simp only [Qm] at *
    exact ⟨zahg a b,by simp [go_sem]⟩
  · intro h
    exact h.elim
@[go_sem] def Γ40:FuncId → Con:=ext Γ39 27 zabf
theorem Γ40_ok:∀ g,ConOk Tryz.prog g (Γ40 g):=Qn Zp zaeo

end
end Go.Proofs.YtmiimodggpjkmaaGreat.Vm

