import Derived.Test.YtkjimmkemnmajaaCat
/-
  Lists of numbers: the walks of the functions of the law's own kit. No conditions.
-/
namespace Go.Proofs.Ytkjimmkemnmajaa.Vm
open Go
open Nat renaming sub_pos_of_lt → zsP
open List renaming getD_eq_getElem?_getD → zg,drop_one → zd
noncomputable section
set_option linter.unusedVariables false
set_option linter.unusedSimpArgs false
set_option maxRecDepth 200000

def NoneTill (p:Nat → Bool) (k:Nat):Prop:=∀ i,i < k → p i = false
theorem NoneTill.zero (p:Nat → Bool):NoneTill p 0:=fun _ h=>absurd h (by omega)
theorem NoneTill.succ {p:Nat → Bool} {k:Nat} (h:NoneTill p k) (e:p k = false):NoneTill p (k + 1):=fun i hi=>by
  rcases Nat.lt_or_ge i k with h1 | h1
  · exact h i h1
  · obtain rfl:i = k:=by omega
    exact e
def neAt {α:Type} [DecidableEq α] [Inhabited α] (xs ys:List α) (i:Nat):Bool:=!decide (nth xs i = nth ys i)
theorem Xm {α:Type} [DecidableEq α] [Inhabited α] {xs ys:List α} {k:Nat} (hl:xs.length = ys.length) (h:NoneTill (neAt xs ys) k) (hk:xs.length ≤ k):xs = ys:=by
  apply List.ext_getElem hl
  intro i h1 h2
  have:=h i (by omega)
  simp [neAt,nth_lt h1,nth_lt h2] at this
  exact this
def szOf (left:Int) (n:Nat):Int:=if (n:Int) ≤ left then left - n else -1
theorem szOf_no {left:Int} {n:Nat} (h:left < n):szOf left n = -1:=if_neg (by omega)
theorem szOf_yes {left:Int} {n:Nat} (h:(n:Int) ≤ left):szOf left n = left - n:=if_pos h
theorem wrap_sub {left:Int} {n:Nat} (h1:-1 ≤ left) (h2:left ≤ 1048576) (h3:n ≤ 9223372036854775807):IntKind.i64.wrap (left - n) = left - n:=wrap_in (by omega) (by omega)

@[go_sem] def Γin:FuncId → Con:=Γ0
theorem zahk:∀ g,ConOk Try.prog g (Γin g):=Γ0_ok

theorem szIntS_pure (xs:List Int) (left:Int) (h0:-1 ≤ left) (h1:left ≤ 1048576):Pure Try.prog 66 [li cI xs,.int .i64 left] (.int .i64 (szOf left xs.length)):=by
  refine Pure.of_walk Try.func66 rfl (by simp [Try.f66]) (by simp [-zd,go_sem]) fun B hK=>?_
  (repeat' (first
 | refine Qx ?_
 | (refine Xp 0 rfl fun hm=>?_);refine Qc (id:=0) zahk [] (by kernel_rfl) ?_;simp [-zg,-zd,↓Qb,↓Qa,go_sem]
 | refine Qc (id:=1) zahk [] (by kernel_rfl) ?_;simp [-zg,-zd,↓Qb,↓Qa,go_sem,wrap_sub h0 h1 hm]
 | refine Qc (id:=2) zahk [] (by kernel_rfl) ?_;simp [-zg,-zd,↓Qb,↓Qa,go_sem]
 | refine Qc (id:=3) zahk [] (by kernel_rfl) ?_;simp [-zg,-zd,↓Qb,↓Qa,go_sem]
 | refine Qc (id:=4) zahk [] (by kernel_rfl) ?_;simp [-zg,-zd,↓Qb,↓Qa,go_sem]
 | refine Qd (c:=.tmp 10) ?_;simp [-zg,-zd,↓Qb,↓Qa,go_sem];try first | (refine ⟨?_,?_⟩ <;> refine zA ?_) | (refine ⟨fun c10=>?_,fun c10=>?_⟩ <;> (try simp [B_iff,B_not] at c10))
 | (refine Qh ?_)
 | (refine Qv ?_;simp [-zg,-zd,↓Qb,↓Qa,go_sem])
 | (refine Qu ?_;simp [-zg,-zd,↓Qb,↓Qa,go_sem])
 | (refine Qy ?_;simp [-zg,-zd,↓Qb,↓Qa,go_sem,Try.results66])
 | (intro hx;refine zA ?_)
 | (refine ⟨?_,?_⟩ <;> refine zA ?_)
 | (intro hx;constructor <;> intro hs)
 | (constructor <;> intro hs)
 | (refine ⟨?_,fun hs=>?_⟩;refine zA ?_)
 | (refine ⟨fun hs=>?_,?_⟩;rotate_left;refine zA ?_;rotate_left)))
  all_goals (first
 | rw [szOf_no (by omega)]
 | rw [szOf_yes (by omega)]
 | skip)
@[go_sem] def zadb:Con:=.pure fun
  | [.list n_xs c_xs,.int .i64 left]=>((Is cI n_xs c_xs) ∧ (-1 ≤ left) ∧ (left ≤ 1048576),.int .i64 (szOf left (de cI c_xs).length))
  | _=>(False,.any)
theorem zagu:ConOk Try.prog 66 zadb:=by
  refine ⟨Qm Try.func66 (by decide) rfl,fun args h=>?_⟩
  revert h
  dsimp only
  split
  · intro h
    obtain ⟨⟨xs,rfl,rfl⟩,h0,h1⟩:=h
    try simp only [Ql] at *
    exact ⟨szIntS_pure xs _ h0 h1,by simp [go_sem]⟩
  · intro h
    exact h.elim
@[go_sem] def Γ1:FuncId → Con:=ext Γin 66 zadb
theorem Γ1_ok:∀ g,ConOk Try.prog g (Γ1 g):=Qj zahk zagu

theorem eqIntS_pure (xs:List Int) (ys:List Int)  : Pure Try.prog 33 [li cI xs,li cI ys] (.bool (decide (xs = ys))):=by
  refine Pure.of_walk Try.func33 rfl (by simp [Try.f33]) (by simp [-zd,go_sem]) fun B hK=>?_
  (repeat' (first
 | refine Qx ?_
 | (refine Xp 0 rfl fun hm=>?_);refine Qc (id:=0) Γ1_ok [] (by kernel_rfl) ?_;simp [-zg,-zd,↓Qb,↓Qa,go_sem]
 | refine Qc (id:=1) Γ1_ok [] (by kernel_rfl) ?_;simp [-zg,-zd,↓Qb,↓Qa,go_sem]
 | refine Qc (id:=2) Γ1_ok [] (by kernel_rfl) ?_;simp [-zg,-zd,↓Qb,↓Qa,go_sem]
 | refine Qc (id:=3) Γ1_ok [] (by kernel_rfl) ?_;simp [-zg,-zd,↓Qb,↓Qa,go_sem]
 | refine Qc (id:=4) Γ1_ok [] (by kernel_rfl) ?_;simp [-zg,-zd,↓Qb,↓Qa,go_sem]
 | (have cy:k < ys.length:=by omega);refine Zm (id:=6) Γ1_ok mixed [] [5] (by kernel_rfl) (by kernel_rfl) (by simp [-zg,-zd,↓Qb,↓Qa,go_sem,c14,Qk c14,zsP c14,cy,Qk cy,zsP cy]) ?_;simp [-zg,-zd,↓Qb,↓Qa,go_sem,c14,Qk c14,zsP c14,cy,Qk cy,zsP cy]
 | refine Qc (id:=7) Γ1_ok [] (by kernel_rfl) ?_;simp [-zg,-zd,↓Qb,↓Qa,go_sem]
 | refine Qc (id:=5) Γ1_ok [] (by kernel_rfl) ?_;simp [-zg,-zd,↓Qb,↓Qa,go_sem,wrapS (k:=k) (by omega)]
 | refine Qc (id:=8) Γ1_ok [] (by kernel_rfl) ?_;simp [-zg,-zd,↓Qb,↓Qa,go_sem]
 | refine Qd (c:=.tmp 10) ?_;simp [-zg,-zd,↓Qb,↓Qa,go_sem];try first | (refine ⟨?_,?_⟩ <;> refine zA ?_) | (refine ⟨fun c10=>?_,fun c10=>?_⟩ <;> (try simp [B_iff,B_not] at c10))
 | refine Qd (c:=.tmp 14) ?_;simp [-zg,-zd,↓Qb,↓Qa,go_sem];try first | (refine ⟨?_,?_⟩ <;> refine zA ?_) | (refine ⟨fun c14=>?_,fun c14=>?_⟩ <;> (try simp [B_iff,B_not] at c14))
 | refine Qd (c:=.tmp 25) ?_;simp [-zg,-zd,↓Qb,↓Qa,go_sem];try first | (refine ⟨?_,?_⟩ <;> refine zA ?_) | (refine ⟨fun c25=>?_,fun c25=>?_⟩ <;> (try simp [B_iff,B_not] at c25))
 | (refine Qh (id:=0) (Xf (ι:=Nat) (fun k:Nat=>⟨(upd (upd (upd (fun _=>.any) 0 (li cI xs)) 1 (li cI ys)) 5 (.int .i64 k)),fun _=>none⟩) (fun k=>k ≤ xs.length ∧ NoneTill (neAt xs ys) k) (fun k=>xs.length - k) (0) ?_ ?_ ?_);exact ⟨Nat.zero_le _,.zero _⟩;((repeat' (first | exact Qp (by assumption) | exact Qr | refine Qs ?_ ?_ | refine Qq ?_)) <;> simp [-zg,-zd,↓Qb,↓Qa,go_sem]);rintro k ⟨hk,ht⟩)
 | (refine ⟨k + 1,⟨by omega,ht.succ (by simp [neAt,c25])⟩,by first | omega | (simp;done) | (simp;omega),?_⟩;((repeat' (first | exact Qp (by assumption) | exact Qr | refine Qs ?_ ?_ | refine Qq ?_)) <;> simp [-zg,-zd,↓Qb,↓Qa,go_sem]))
 | (refine Qh ?_)
 | (refine Qv ?_;simp [-zg,-zd,↓Qb,↓Qa,go_sem])
 | (refine Qu ?_;simp [-zg,-zd,↓Qb,↓Qa,go_sem])
 | (refine Qy ?_;simp [-zg,-zd,↓Qb,↓Qa,go_sem,Try.results33])
 | (intro hx;refine zA ?_)
 | (refine ⟨?_,?_⟩ <;> refine zA ?_)
 | (intro hx;constructor <;> intro hs)
 | (constructor <;> intro hs)
 | (refine ⟨?_,fun hs=>?_⟩;refine zA ?_)
 | (refine ⟨fun hs=>?_,?_⟩;rotate_left;refine zA ?_;rotate_left)))
  all_goals (first
 | (rintro rfl;simp at c10;done)
 | (rintro rfl;exact c25 rfl)
 | exact Xm (by omega) ht (by omega)
 | skip)
@[go_sem] def zadi:Con:=.pure fun
  | [.list n_xs c_xs,.list n_ys c_ys]=>((Is cI n_xs c_xs) ∧ (Is cI n_ys c_ys),.bool (decide ((de cI c_xs) = (de cI c_ys))))
  | _=>(False,.any)
theorem zahe:ConOk Try.prog 33 zadi:=by
  refine ⟨Qm Try.func33 (by decide) rfl,fun args h=>?_⟩
  revert h
  dsimp only
  split
  · intro h
    obtain ⟨⟨xs,rfl,rfl⟩,⟨ys,rfl,rfl⟩⟩:=h
    try simp only [Ql] at *
    exact ⟨eqIntS_pure xs ys,by simp [go_sem]⟩
  · intro h
    exact h.elim
@[go_sem] def Γ2:FuncId → Con:=ext Γ1 33 zadi
theorem Γ2_ok:∀ g,ConOk Try.prog g (Γ2 g):=Qj Γ1_ok zahe

theorem toIntS_pure (xs:List Int) (h0:xs.length ≤ 1048576):Pure Try.prog 30 [li cI xs] (fr 1 cI xs):=by
  refine Pure.of_walk Try.func30 rfl (by simp [Try.f30]) (by simp [-zd,go_sem]) fun B hK=>?_
  (repeat' (first
 | refine Qx ?_
 | refine Qc (id:=0) Γ2_ok [] (by kernel_rfl) ?_;simp [-zg,-zd,↓Qb,↓Qa,go_sem]
 | refine Qc (id:=1) Γ2_ok [] (by kernel_rfl) ?_;simp [-zg,-zd,↓Qb,↓Qa,go_sem,(by omega:8 * (xs.length:Int) ≤ 281474976710656),(by omega:(xs.length:Int) ≤ 9223372036854775807)];try ((refine AW_mat 3 rfl fun b cp j _ hcp hj=>?_))
 | refine Qc (id:=2) Γ2_ok [] (by kernel_rfl) ?_;simp [-zg,-zd,↓Qb,↓Qa,go_sem]
 | refine Qc (id:=3) Γ2_ok [] (by kernel_rfl) ?_;simp [-zg,-zd,↓Qb,↓Qa,go_sem]
 | refine Qc (id:=5) Γ2_ok [] (by kernel_rfl) ?_;simp [-zg,-zd,↓Qb,↓Qa,go_sem,c11,Qk c11,zsP c11]
 | refine Qc (id:=4) Γ2_ok [] (by kernel_rfl) ?_;simp [-zg,-zd,↓Qb,↓Qa,go_sem,wrapS (k:=k) (by omega)]
 | ((obtain rfl:k = xs.length:=by omega);refine AW_unmat 3 (b:=b) (all:=cat cI xs ++ List.replicate j .any) rfl (by simp [go_sem,fill_all]) (by omega) (by simp [Xi]) (by simp [Xi];omega) ?_);refine Qc (id:=6) Γ2_ok [] (by kernel_rfl) ?_;simp [-zg,-zd,↓Qb,↓Qa,go_sem]
 | refine Qd (c:=.tmp 11) ?_;simp [-zg,-zd,↓Qb,↓Qa,go_sem];try first | (refine ⟨?_,?_⟩ <;> refine zA ?_) | (refine ⟨fun c11=>?_,fun c11=>?_⟩ <;> (try simp [B_iff,B_not] at c11))
 | (refine Qh (id:=0) (Xf (ι:=Nat) (fun k:Nat=>⟨(upd (upd (upd (fun _=>.any) 0 (li cI xs)) 3 (.sl b 1 0 xs.length cp)) 4 (.int .i64 k)),upd (fun _=>none) b (some (fillC cI [.int .i64 0] 1 xs k (List.replicate j .any)))⟩) (fun k=>k ≤ xs.length) (fun k=>xs.length - k) (0) ?_ ?_ ?_);exact Nat.zero_le _;((repeat' (first | exact Qp (by assumption) | exact Qr | refine Qs ?_ ?_ | refine Qq ?_)) <;> simp [-zg,-zd,↓Qb,↓Qa,go_sem,Zp]);rintro k hk)
 | (refine ⟨k + 1,by omega,by first | omega | (simp;done) | (simp;omega),?_⟩;((repeat' (first | exact Qp (by assumption) | exact Qr | refine Qs ?_ ?_ | refine Qq ?_)) <;> simp [-zg,-zd,↓Qb,↓Qa,go_sem,Zp]))
 | (refine Qh ?_)
 | (refine Qv ?_;simp [-zg,-zd,↓Qb,↓Qa,go_sem])
 | (refine Qu ?_;simp [-zg,-zd,↓Qb,↓Qa,go_sem])
 | (refine Qy ?_;simp [-zg,-zd,↓Qb,↓Qa,go_sem,Try.results30])
 | (intro hx;refine zA ?_)
 | (refine ⟨?_,?_⟩ <;> refine zA ?_)
 | (intro hx;constructor <;> intro hs)
 | (constructor <;> intro hs)
 | (refine ⟨?_,fun hs=>?_⟩;refine zA ?_)
 | (refine ⟨fun hs=>?_,?_⟩;rotate_left;refine zA ?_;rotate_left)))
@[go_sem] def zacy:Con:=.pure fun
  | [.list n_xs c_xs]=>((Is cI n_xs c_xs) ∧ ((de cI c_xs).length ≤ 1048576),fr 1 cI (de cI c_xs))
  | _=>(False,.any)
theorem zagp:ConOk Try.prog 30 zacy:=by
  refine ⟨Qm Try.func30 (by decide) rfl,fun args h=>?_⟩
  revert h
  dsimp only
  split
  · intro h
    obtain ⟨⟨xs,rfl,rfl⟩,h0⟩:=h
    try simp only [Ql] at *
    exact ⟨toIntS_pure xs h0,by simp [go_sem]⟩
  · intro h
    exact h.elim
@[go_sem] def Γ3:FuncId → Con:=ext Γ2 30 zacy
theorem Γ3_ok:∀ g,ConOk Try.prog g (Γ3 g):=Qj Γ2_ok zagp

theorem zahm {left:Int} (h:-1 ≤ left) (n:Nat):-1 ≤ szOf left n:=by unfold szOf;split <;> omega
theorem zafm {left:Int} (h:left ≤ 1048576) (n:Nat):szOf left n ≤ 1048576:=by unfold szOf;split <;> omega
theorem szOf_le {left:Int} {n:Nat} (h:0 ≤ szOf left n):(n:Int) ≤ left:=by unfold szOf at h;split at h <;> omega
theorem Xq {left:Int} (h:-1 ≤ left) (a b:Nat):szOf (szOf left a) b = szOf left (a + b):=by unfold szOf;split <;> split <;> split <;> omega
theorem Zi {left:Int} {a b:Nat} (h:szOf left a < 0) (h0:-1 ≤ left) (hab:a ≤ b):szOf left b = -1:=by unfold szOf at *;split at h <;> split <;> omega
def msum {α:Type} (m:α → Nat) (xs:List α) (k:Nat):Nat:=((xs.take k).map m).sum
section
variable {α:Type} {m:α → Nat}
@[go_sem] theorem msum_zero (xs:List α):msum m xs 0 = 0:=by simp [msum]
theorem zabl [Inhabited α] {xs:List α} {k:Nat} (h:k < xs.length):msum m xs (k + 1) = msum m xs k + m (nth xs k):=by
  unfold msum
  rw [List.take_succ_eq_append_getElem h,List.map_append,List.sum_append,nth_lt h]
  simp
theorem zafb {xs:List α} {k j:Nat} (h:k ≤ j):msum m xs k ≤ msum m xs j:=by
  have e:xs.take j = xs.take k ++ (xs.take j).drop k:=by
    have:=List.take_append_drop k (xs.take j)
    rw [List.take_take,Nat.min_eq_left h] at this
    exact this.symm
  unfold msum
  rw [e,List.map_append,List.sum_append]
  omega
theorem msum_at [Inhabited α] {xs:List α} {k:Nat} (h:k < xs.length):m (nth xs k) ≤ msum m xs xs.length:=by
  have:=zabl (m:=m) h
  have:=zafb (m:=m) (xs:=xs) (show k + 1 ≤ xs.length from h)
  omega
theorem msum_ge {xs:List α} {k:Nat} (h:xs.length ≤ k):msum m xs k = msum m xs xs.length:=by simp [msum,List.take_of_length_le h]
end
def AllTill (p:Nat → Prop) (k:Nat):Prop:=∀ i,i < k → p i
theorem AllTill.zero (p:Nat → Prop):AllTill p 0:=fun _ h=>absurd h (by omega)
theorem AllTill.succ {p:Nat → Prop} {k:Nat} (h:AllTill p k) (e:p k):AllTill p (k + 1):=fun i hi=>by
  rcases Nat.lt_or_ge i k with h1 | h1
  · exact h i h1
  · obtain rfl:i = k:=by omega
    exact e
section
variable {α:Type} [Inhabited α] {p:α → Bool} {xs:List α} {k:Nat}
end


@[go_sem] def Γ4:FuncId → Con:=Γ3
theorem Γ4_ok:∀ g,ConOk Try.prog g (Γ4 g):=Γ3_ok

@[go_sem] def Γ5:FuncId → Con:=Γ4
theorem Γ5_ok:∀ g,ConOk Try.prog g (Γ5 g):=Γ4_ok

@[go_sem] def Γ6:FuncId → Con:=Γ5
theorem Γ6_ok:∀ g,ConOk Try.prog g (Γ6 g):=Γ5_ok

@[go_sem] def Γ7:FuncId → Con:=Γ6
theorem Γ7_ok:∀ g,ConOk Try.prog g (Γ7 g):=Γ6_ok

@[go_sem] def Γ8:FuncId → Con:=Γ7
theorem Γ8_ok:∀ g,ConOk Try.prog g (Γ8 g):=Γ7_ok

@[go_sem] def Γ9:FuncId → Con:=Γ8
theorem Γ9_ok:∀ g,ConOk Try.prog g (Γ9 g):=Γ8_ok

@[go_sem] def Γ10:FuncId → Con:=Γ9
theorem Γ10_ok:∀ g,ConOk Try.prog g (Γ10 g):=Γ9_ok

@[go_sem] def Γ11:FuncId → Con:=Γ10
theorem Γ11_ok:∀ g,ConOk Try.prog g (Γ11 g):=Γ10_ok

@[go_sem] def Γ12:FuncId → Con:=Γ11
theorem Zf:∀ g,ConOk Try.prog g (Γ12 g):=Γ11_ok


theorem l2Ints_pure (xs:List Int) (ys:List Int)  : Pure Try.prog 115 [li cI xs,li cI ys] (.bool (decide (xs = ys))):=by
  refine Pure.of_walk Try.func115 rfl (by simp [Try.f115]) (by simp [-zd,go_sem]) fun B hK=>?_
  (repeat' (first
 | refine Qx ?_
 | (refine Xp 0 rfl fun hm=>?_);refine Qc (id:=0) Zf [] (by kernel_rfl) ?_;simp [-zg,-zd,↓Qb,↓Qa,go_sem]
 | refine Qc (id:=1) Zf [] (by kernel_rfl) ?_;simp [-zg,-zd,↓Qb,↓Qa,go_sem]
 | refine Qc (id:=2) Zf [] (by kernel_rfl) ?_;simp [-zg,-zd,↓Qb,↓Qa,go_sem]
 | refine Qc (id:=3) Zf [] (by kernel_rfl) ?_;simp [-zg,-zd,↓Qb,↓Qa,go_sem]
 | refine Qc (id:=4) Zf [] (by kernel_rfl) ?_;simp [-zg,-zd,↓Qb,↓Qa,go_sem]
 | (have cy:k < ys.length:=by omega);refine Zm (id:=6) Zf mixed [] [5] (by kernel_rfl) (by kernel_rfl) (by simp [-zg,-zd,↓Qb,↓Qa,go_sem,c14,Qk c14,zsP c14,cy,Qk cy,zsP cy]) ?_;simp [-zg,-zd,↓Qb,↓Qa,go_sem,c14,Qk c14,zsP c14,cy,Qk cy,zsP cy]
 | refine Qc (id:=7) Zf [] (by kernel_rfl) ?_;simp [-zg,-zd,↓Qb,↓Qa,go_sem]
 | refine Qc (id:=5) Zf [] (by kernel_rfl) ?_;simp [-zg,-zd,↓Qb,↓Qa,go_sem,wrapS (k:=k) (by omega)]
 | refine Qc (id:=8) Zf [] (by kernel_rfl) ?_;simp [-zg,-zd,↓Qb,↓Qa,go_sem]
 | refine Qd (c:=.tmp 10) ?_;simp [-zg,-zd,↓Qb,↓Qa,go_sem];try first | (refine ⟨?_,?_⟩ <;> refine zA ?_) | (refine ⟨fun c10=>?_,fun c10=>?_⟩ <;> (try simp [B_iff,B_not] at c10))
 | refine Qd (c:=.tmp 14) ?_;simp [-zg,-zd,↓Qb,↓Qa,go_sem];try first | (refine ⟨?_,?_⟩ <;> refine zA ?_) | (refine ⟨fun c14=>?_,fun c14=>?_⟩ <;> (try simp [B_iff,B_not] at c14))
 | refine Qd (c:=.tmp 25) ?_;simp [-zg,-zd,↓Qb,↓Qa,go_sem];try first | (refine ⟨?_,?_⟩ <;> refine zA ?_) | (refine ⟨fun c25=>?_,fun c25=>?_⟩ <;> (try simp [B_iff,B_not] at c25))
 | (refine Qh (id:=0) (Xf (ι:=Nat) (fun k:Nat=>⟨(upd (upd (upd (fun _=>.any) 0 (li cI xs)) 1 (li cI ys)) 5 (.int .i64 k)),fun _=>none⟩) (fun k=>k ≤ xs.length ∧ NoneTill (neAt xs ys) k) (fun k=>xs.length - k) (0) ?_ ?_ ?_);exact ⟨Nat.zero_le _,.zero _⟩;((repeat' (first | exact Qp (by assumption) | exact Qr | refine Qs ?_ ?_ | refine Qq ?_)) <;> simp [-zg,-zd,↓Qb,↓Qa,go_sem]);rintro k ⟨hk,ht⟩)
 | (refine ⟨k + 1,⟨by omega,ht.succ (by simp [neAt];first | exact c25 | (apply Prod.ext <;> simp_all;done) | (simp_all [Prod.ext_iff];done) | simp_all)⟩,by first | omega | (simp;done) | (simp;omega),?_⟩;((repeat' (first | exact Qp (by assumption) | exact Qr | refine Qs ?_ ?_ | refine Qq ?_)) <;> simp [-zg,-zd,↓Qb,↓Qa,go_sem]))
 | (refine Qh ?_)
 | (refine Qv ?_;simp [-zg,-zd,↓Qb,↓Qa,go_sem])
 | (refine Qu ?_;simp [-zg,-zd,↓Qb,↓Qa,go_sem])
 | (refine Qy ?_;simp [-zg,-zd,↓Qb,↓Qa,go_sem,Try.results115])
 | (intro hx;refine zA ?_)
 | (refine ⟨?_,?_⟩ <;> refine zA ?_)
 | (intro hx;constructor <;> intro hs)
 | (constructor <;> intro hs)
 | (refine ⟨?_,fun hs=>?_⟩;refine zA ?_)
 | (refine ⟨fun hs=>?_,?_⟩;rotate_left;refine zA ?_;rotate_left)))
  all_goals (first
 | (rintro rfl;simp at c10;done)
 | (rintro rfl;simp at c25;done)
 | exact Xm (by omega) ht (by omega)
 | skip)
@[go_sem] def zadg:Con:=.pure fun
  | [.list n_xs c_xs,.list n_ys c_ys]=>((Is cI n_xs c_xs) ∧ (Is cI n_ys c_ys),.bool (decide ((de cI c_xs) = (de cI c_ys))))
  | _=>(False,.any)
theorem zahb:ConOk Try.prog 115 zadg:=by
  refine ⟨Qm Try.func115 (by decide) rfl,fun args h=>?_⟩
  revert h
  dsimp only
  split
  · intro h
    obtain ⟨⟨xs,rfl,rfl⟩,⟨ys,rfl,rfl⟩⟩:=h
    try simp only [Ql] at *
    exact ⟨l2Ints_pure xs ys,by simp [go_sem]⟩
  · intro h
    exact h.elim
@[go_sem] def Γ13:FuncId → Con:=ext Γ12 115 zadg
theorem Xy:∀ g,ConOk Try.prog g (Γ13 g):=Qj Zf zahb

theorem zafs (xs:List Int) (ys:List Int)  : Pure Try.prog 118 [li cI xs,li cI ys] (.bool (decide (xs = ys))):=by
  refine Pure.of_walk Try.func118 rfl (by simp [Try.f118]) (by simp [-zd,go_sem]) fun B hK=>?_
  (repeat' (first
 | refine Qx ?_
 | (refine Xp 0 rfl fun hm=>?_);refine Qc (id:=0) Xy [] (by kernel_rfl) ?_;simp [-zg,-zd,↓Qb,↓Qa,go_sem]
 | refine Qc (id:=1) Xy [] (by kernel_rfl) ?_;simp [-zg,-zd,↓Qb,↓Qa,go_sem]
 | refine Qc (id:=2) Xy [] (by kernel_rfl) ?_;simp [-zg,-zd,↓Qb,↓Qa,go_sem]
 | refine Qc (id:=3) Xy [] (by kernel_rfl) ?_;simp [-zg,-zd,↓Qb,↓Qa,go_sem]
 | refine Qc (id:=4) Xy [] (by kernel_rfl) ?_;simp [-zg,-zd,↓Qb,↓Qa,go_sem]
 | refine Qc (id:=5) Xy [] (by kernel_rfl) ?_;simp [-zg,-zd,↓Qb,↓Qa,go_sem]
 | (have cy:k < ys.length:=by omega);refine Zm (id:=6) Xy mixed [] [5] (by kernel_rfl) (by kernel_rfl) (by simp [-zg,-zd,↓Qb,↓Qa,go_sem,c14,Qk c14,zsP c14,cy,Qk cy,zsP cy]) ?_;simp [-zg,-zd,↓Qb,↓Qa,go_sem,c14,Qk c14,zsP c14,cy,Qk cy,zsP cy]
 | refine Qc (id:=7) Xy [] (by kernel_rfl) ?_;simp [-zg,-zd,↓Qb,↓Qa,go_sem]
 | refine Qc (id:=8) Xy [] (by kernel_rfl) ?_;simp [-zg,-zd,↓Qb,↓Qa,go_sem,wrapS (k:=k) (by omega)]
 | refine Qc (id:=9) Xy [] (by kernel_rfl) ?_;simp [-zg,-zd,↓Qb,↓Qa,go_sem]
 | refine Qd (c:=.tmp 10) ?_;simp [-zg,-zd,↓Qb,↓Qa,go_sem];try first | (refine ⟨?_,?_⟩ <;> refine zA ?_) | (refine ⟨fun c10=>?_,fun c10=>?_⟩ <;> (try simp [B_iff,B_not] at c10))
 | refine Qd (c:=.tmp 14) ?_;simp [-zg,-zd,↓Qb,↓Qa,go_sem];try first | (refine ⟨?_,?_⟩ <;> refine zA ?_) | (refine ⟨fun c14=>?_,fun c14=>?_⟩ <;> (try simp [B_iff,B_not] at c14))
 | refine Qd (c:=.tmp 24) ?_;simp [-zg,-zd,↓Qb,↓Qa,go_sem];try first | (refine ⟨?_,?_⟩ <;> refine zA ?_) | (refine ⟨fun c24=>?_,fun c24=>?_⟩ <;> (try simp [B_iff,B_not] at c24))
 | (refine Qh (id:=0) (Xf (ι:=Nat) (fun k:Nat=>⟨(upd (upd (upd (upd (upd (fun _=>.any) 0 (li cI xs)) 1 (li cI ys)) 11 (li cI xs)) 12 (.int .i64 xs.length)) 13 (.int .i64 k)),fun _=>none⟩) (fun k=>k ≤ xs.length ∧ NoneTill (neAt xs ys) k) (fun k=>xs.length - k) (0) ?_ ?_ ?_);exact ⟨Nat.zero_le _,.zero _⟩;((repeat' (first | exact Qp (by assumption) | exact Qr | refine Qs ?_ ?_ | refine Qq ?_)) <;> simp [-zg,-zd,↓Qb,↓Qa,go_sem]);rintro k ⟨hk,ht⟩)
 | (refine ⟨k + 1,⟨by omega,ht.succ (by simp [neAt,c24])⟩,by first | omega | (simp;done) | (simp;omega),?_⟩;((repeat' (first | exact Qp (by assumption) | exact Qr | refine Qs ?_ ?_ | refine Qq ?_)) <;> simp [-zg,-zd,↓Qb,↓Qa,go_sem]))
 | (refine Qh ?_)
 | (refine Qv ?_;simp [-zg,-zd,↓Qb,↓Qa,go_sem])
 | (refine Qu ?_;simp [-zg,-zd,↓Qb,↓Qa,go_sem])
 | (refine Qy ?_;simp [-zg,-zd,↓Qb,↓Qa,go_sem,Try.results118])
 | (intro hx;refine zA ?_)
 | (refine ⟨?_,?_⟩ <;> refine zA ?_)
 | (intro hx;constructor <;> intro hs)
 | (constructor <;> intro hs)
 | (refine ⟨?_,fun hs=>?_⟩;refine zA ?_)
 | (refine ⟨fun hs=>?_,?_⟩;rotate_left;refine zA ?_;rotate_left)))
  all_goals (first
 | (rintro rfl;simp at c10;done)
 | (rintro rfl;exact c24 rfl)
 | exact Xm (by omega) ht (by omega)
 | skip)
@[go_sem] def zaak:Con:=.pure fun
  | [.list n_xs c_xs,.list n_ys c_ys]=>((Is cI n_xs c_xs) ∧ (Is cI n_ys c_ys),.bool (decide ((de cI c_xs) = (de cI c_ys))))
  | _=>(False,.any)
theorem zade:ConOk Try.prog 118 zaak:=by
  refine ⟨Qm Try.func118 (by decide) rfl,fun args h=>?_⟩
  revert h
  dsimp only
  split
  · intro h
    obtain ⟨⟨xs,rfl,rfl⟩,⟨ys,rfl,rfl⟩⟩:=h
    try simp only [Ql] at *
    exact ⟨zafs xs ys,by simp [go_sem]⟩
  · intro h
    exact h.elim
@[go_sem] def Γ14:FuncId → Con:=ext Γ13 118 zaak
theorem Γ14_ok:∀ g,ConOk Try.prog g (Γ14 g):=Qj Xy zade

@[go_sem] def Γ15:FuncId → Con:=Γ14
theorem Γ15_ok:∀ g,ConOk Try.prog g (Γ15 g):=Γ14_ok

@[go_sem] def Γ16:FuncId → Con:=Γ15
theorem Γ16_ok:∀ g,ConOk Try.prog g (Γ16 g):=Γ15_ok

@[go_sem] def Γ17:FuncId → Con:=Γ16
theorem Γ17_ok:∀ g,ConOk Try.prog g (Γ17 g):=Γ16_ok

@[go_sem] def Γ18:FuncId → Con:=Γ17
theorem Γ18_ok:∀ g,ConOk Try.prog g (Γ18 g):=Γ17_ok

@[go_sem] def Γ19:FuncId → Con:=Γ18
theorem Γ19_ok:∀ g,ConOk Try.prog g (Γ19 g):=Γ18_ok

@[go_sem] def Γ20:FuncId → Con:=Γ19
theorem Γ20_ok:∀ g,ConOk Try.prog g (Γ20 g):=Γ19_ok

@[go_sem] def Γ21:FuncId → Con:=Γ20
theorem Γ21_ok:∀ g,ConOk Try.prog g (Γ21 g):=Γ20_ok

@[go_sem] def Γ22:FuncId → Con:=Γ21
theorem Γ22_ok:∀ g,ConOk Try.prog g (Γ22 g):=Γ21_ok

@[go_sem] def Γ23:FuncId → Con:=Γ22
theorem Γ23_ok:∀ g,ConOk Try.prog g (Γ23 g):=Γ22_ok
end
end Go.Proofs.Ytkjimmkemnmajaa.Vm

