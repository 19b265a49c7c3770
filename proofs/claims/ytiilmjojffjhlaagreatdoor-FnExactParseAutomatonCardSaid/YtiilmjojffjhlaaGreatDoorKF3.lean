import Derived.Test.YtiilmjojffjhlaaGreatDoorKCat
/-
  Lists of numbers: the walks of the functions of the law's own kit. No conditions.
-/
namespace Go.Proofs.YtiilmjojffjhlaaGreatDoor.Vm
open Go
open Nat renaming sub_pos_of_lt → zsP
open List renaming getD_eq_getElem?_getD → zg,drop_one → zd
noncomputable section
set_option linter.unusedVariables false
set_option linter.unusedSimpArgs false
set_option maxRecDepth 200000

def NoneTill (p:Nat → Bool) (k:Nat):Prop:=∀ i,i < k → p i = false
theorem NoneTill.zero (p:Nat → Bool):NoneTill p 0:=fun _ h=>absurd h (by omega)
theorem NoneTill.succ {p:Nat → Bool} {k:Nat} (h:NoneTill p k) (e:p k = false):NoneTill p (k + 1):=fun i hi=>by
  rcases Nat.lt_or_ge i k with h1 | h1
  · exact h i h1
  · obtain rfl:i = k:=by omega
    exact e
def neAt {α:Type} [DecidableEq α] [Inhabited α] (xs ys:List α) (i:Nat):Bool:=!decide (nth xs i = nth ys i)
theorem zaaw {α:Type} [DecidableEq α] [Inhabited α] {xs ys:List α} {k:Nat} (hl:xs.length = ys.length) (h:NoneTill (neAt xs ys) k) (hk:xs.length ≤ k):xs = ys:=by
  apply List.ext_getElem hl
  intro i h1 h2
  have:=h i (by omega)
  simp [neAt,nth_lt h1,nth_lt h2] at this
  exact this
theorem in_pure (n:Int) (lo:Int) (hi:Int)  : Pure Tryz.prog 30 [.int .i64 n,.int .i64 lo,.int .i64 hi] (.bool (decide (lo ≤ n) && decide (n ≤ hi))):=by
  refine Pure.of_walk Tryz.func30 rfl (by simp [Tryz.f30]) (by simp [-zd,go_sem]) fun B hK=>?_
  (repeat' (first
 | refine Qr ?_
 | refine Qc (id:=0) Γ0_ok [] (by kernel_rfl) ?_;simp [-zg,-zd,↓Qb,↓Qa,go_sem]
 | refine Qc (id:=1) Γ0_ok [10] (by kernel_rfl) ?_;simp [-zg,-zd,↓Qb,↓Qa,go_sem];try (refine ⟨fun s1a=>?_,fun s1a=>?_⟩ <;> (try simp [B_iff,B_not] at s1a) <;> try (refine ⟨fun s1b=>?_,fun s1b=>?_⟩ <;> (try simp [B_iff,B_not] at s1b)))
 | (refine Qg ?_)
 | (refine Qq ?_;simp [-zg,-zd,↓Qb,↓Qa,go_sem])
 | (refine Qp ?_;simp [-zg,-zd,↓Qb,↓Qa,go_sem])
 | (refine Qs ?_;simp [-zg,-zd,↓Qb,↓Qa,go_sem,Tryz.results30])
 | (intro hx;refine zA ?_)
 | (refine ⟨?_,?_⟩ <;> refine zA ?_)
 | (intro hx;constructor <;> intro hs)
 | (constructor <;> intro hs)
 | (refine ⟨?_,fun hs=>?_⟩;refine zA ?_)
 | (refine ⟨fun hs=>?_,?_⟩;rotate_left;refine zA ?_;rotate_left)))
  all_goals (first
 | (intros;omega)
 | skip)
@[go_sem] def in_pureC:Con:=.pure fun
  | [.int .i64 n,.int .i64 lo,.int .i64 hi]=>(True,.bool (decide (lo ≤ n) && decide (n ≤ hi)))
  | _=>(False,.any)
theorem in_pureC_ok:ConOk Tryz.prog 30 in_pureC:=by
  refine ⟨Qn Tryz.func30 (by decide) rfl,fun args h=>?_⟩
  revert h
  dsimp only
  split
  · intro h
    skip
    skip
    exact ⟨in_pure _ _ _,by simp [go_sem]⟩
  · intro h
    exact h.elim
@[go_sem] def Γin:FuncId → Con:=ext Γ0 30 in_pureC
theorem Γin_ok:∀ g,ConOk Tryz.prog g (Γin g):=Qu Γ0_ok in_pureC_ok

@[go_sem] def Γ1:FuncId → Con:=Γin
theorem Γ1_ok:∀ g,ConOk Tryz.prog g (Γ1 g):=Γin_ok

theorem eqIntS_pure (xs:List Int) (ys:List Int)  : Pure Tryz.prog 33 [li cI xs,li cI ys] (.bool (decide (xs = ys))):=by
  refine Pure.of_walk Tryz.func33 rfl (by simp [Tryz.f33]) (by simp [-zd,go_sem]) fun B hK=>?_
  (repeat' (first
 | refine Qr ?_
 | (refine AW_len 0 rfl fun hm=>?_);refine Qc (id:=0) Γ1_ok [] (by kernel_rfl) ?_;simp [-zg,-zd,↓Qb,↓Qa,go_sem]
 | refine Qc (id:=1) Γ1_ok [] (by kernel_rfl) ?_;simp [-zg,-zd,↓Qb,↓Qa,go_sem]
 | refine Qc (id:=2) Γ1_ok [] (by kernel_rfl) ?_;simp [-zg,-zd,↓Qb,↓Qa,go_sem]
 | refine Qc (id:=3) Γ1_ok [] (by kernel_rfl) ?_;simp [-zg,-zd,↓Qb,↓Qa,go_sem]
 | refine Qc (id:=4) Γ1_ok [] (by kernel_rfl) ?_;simp [-zg,-zd,↓Qb,↓Qa,go_sem]
 | (have cy:k < ys.length:=by omega);refine Zf (id:=6) Γ1_ok mixed [] [5] (by kernel_rfl) (by kernel_rfl) (by simp [-zg,-zd,↓Qb,↓Qa,go_sem,c14,Qh c14,zsP c14,cy,Qh cy,zsP cy]) ?_;simp [-zg,-zd,↓Qb,↓Qa,go_sem,c14,Qh c14,zsP c14,cy,Qh cy,zsP cy]
 | refine Qc (id:=7) Γ1_ok [] (by kernel_rfl) ?_;simp [-zg,-zd,↓Qb,↓Qa,go_sem]
 | refine Qc (id:=5) Γ1_ok [] (by kernel_rfl) ?_;simp [-zg,-zd,↓Qb,↓Qa,go_sem,wrapS (k:=k) (by omega)]
 | refine Qc (id:=8) Γ1_ok [] (by kernel_rfl) ?_;simp [-zg,-zd,↓Qb,↓Qa,go_sem]
 | refine Qf (c:=.tmp 10) ?_;simp [-zg,-zd,↓Qb,↓Qa,go_sem];try first | (refine ⟨?_,?_⟩ <;> refine zA ?_) | (refine ⟨fun c10=>?_,fun c10=>?_⟩ <;> (try simp [B_iff,B_not] at c10))
 | refine Qf (c:=.tmp 14) ?_;simp [-zg,-zd,↓Qb,↓Qa,go_sem];try first | (refine ⟨?_,?_⟩ <;> refine zA ?_) | (refine ⟨fun c14=>?_,fun c14=>?_⟩ <;> (try simp [B_iff,B_not] at c14))
 | refine Qf (c:=.tmp 25) ?_;simp [-zg,-zd,↓Qb,↓Qa,go_sem];try first | (refine ⟨?_,?_⟩ <;> refine zA ?_) | (refine ⟨fun c25=>?_,fun c25=>?_⟩ <;> (try simp [B_iff,B_not] at c25))
 | (refine Qg (id:=0) (Xc (ι:=Nat) (fun k:Nat=>⟨(upd (upd (upd (fun _=>.any) 0 (li cI xs)) 1 (li cI ys)) 5 (.int .i64 k)),fun _=>none⟩) (fun k=>k ≤ xs.length ∧ NoneTill (neAt xs ys) k) (fun k=>xs.length - k) (0) ?_ ?_ ?_);exact ⟨Nat.zero_le _,.zero _⟩;((repeat' (first | exact Qj (by assumption) | exact Ql | refine Qm ?_ ?_ | refine Qk ?_)) <;> simp [-zg,-zd,↓Qb,↓Qa,go_sem]);rintro k ⟨hk,ht⟩)
 | (refine ⟨k + 1,⟨by omega,ht.succ (by simp [neAt,c25])⟩,by first | omega | (simp;done) | (simp;omega),?_⟩;((repeat' (first | exact Qj (by assumption) | exact Ql | refine Qm ?_ ?_ | refine Qk ?_)) <;> simp [-zg,-zd,↓Qb,↓Qa,go_sem]))
 | (refine Qg ?_)
 | (refine Qq ?_;simp [-zg,-zd,↓Qb,↓Qa,go_sem])
 | (refine Qp ?_;simp [-zg,-zd,↓Qb,↓Qa,go_sem])
 | (refine Qs ?_;simp [-zg,-zd,↓Qb,↓Qa,go_sem,Tryz.results33])
 | (intro hx;refine zA ?_)
 | (refine ⟨?_,?_⟩ <;> refine zA ?_)
 | (intro hx;constructor <;> intro hs)
 | (constructor <;> intro hs)
 | (refine ⟨?_,fun hs=>?_⟩;refine zA ?_)
 | (refine ⟨fun hs=>?_,?_⟩;rotate_left;refine zA ?_;rotate_left)))
  all_goals (first
 | (rintro rfl;simp at c10;done)
 | (rintro rfl;exact c25 rfl)
 | exact zaaw (by omega) ht (by omega)
 | skip)
@[go_sem] def zacv:Con:=.pure fun
  | [.list n_xs c_xs,.list n_ys c_ys]=>((Is cI n_xs c_xs) ∧ (Is cI n_ys c_ys),.bool (decide ((de cI c_xs) = (de cI c_ys))))
  | _=>(False,.any)
theorem zagu:ConOk Tryz.prog 33 zacv:=by
  refine ⟨Qn Tryz.func33 (by decide) rfl,fun args h=>?_⟩
  revert h
  dsimp only
  split
  · intro h
    obtain ⟨⟨xs,rfl,rfl⟩,⟨ys,rfl,rfl⟩⟩:=h
    try simp only [Xb] at *
    exact ⟨eqIntS_pure xs ys,by simp [go_sem]⟩
  · intro h
    exact h.elim
@[go_sem] def Γ2:FuncId → Con:=ext Γ1 33 zacv
theorem Γ2_ok:∀ g,ConOk Tryz.prog g (Γ2 g):=Qu Γ1_ok zagu

@[go_sem] def Γ3:FuncId → Con:=Γ2
theorem Γ3_ok:∀ g,ConOk Tryz.prog g (Γ3 g):=Γ2_ok

def msum {α:Type} (m:α → Nat) (xs:List α) (k:Nat):Nat:=((xs.take k).map m).sum
section
variable {α:Type} {m:α → Nat}
@[go_sem] theorem msum_zero (xs:List α):msum m xs 0 = 0:=by simp [msum]
end
def mP (s:Ints2):Nat:=s.1.length + s.2.length
def mL (s:List Int):Nat:=s.length

def AllTill (p:Nat → Prop) (k:Nat):Prop:=∀ i,i < k → p i
theorem AllTill.zero (p:Nat → Prop):AllTill p 0:=fun _ h=>absurd h (by omega)
theorem AllTill.succ {p:Nat → Prop} {k:Nat} (h:AllTill p k) (e:p k):AllTill p (k + 1):=fun i hi=>by
  rcases Nat.lt_or_ge i k with h1 | h1
  · exact h i h1
  · obtain rfl:i = k:=by omega
    exact e
def findI {α:Type} (p:α → Bool) (xs:List α):Int:=match xs.findIdx? p with
  | some i=>i
  | none=>-1
section
variable {α:Type} [Inhabited α] {p:α → Bool} {xs:List α} {k:Nat}
theorem findI_at (h:NoneTill (fun i=>p (nth xs i)) k) (hk:k < xs.length) (e:p (nth xs k) = true):findI p xs = k:=by
  unfold findI
  have:xs.findIdx? p = some k:=by
    rw [List.findIdx?_eq_some_iff_getElem]
    refine ⟨hk,by rw [← nth_lt hk];exact e,fun j hj=>?_⟩
    have:=h j hj
    dsimp only at this
    rw [nth_lt (by omega)] at this
    simpa using this
  rw [this]
theorem findI_none (h:NoneTill (fun i=>p (nth xs i)) k) (hk:xs.length ≤ k):findI p xs = -1:=by
  unfold findI
  have:xs.findIdx? p = none:=by
    rw [List.findIdx?_eq_none_iff]
    intro x hx
    obtain ⟨i,hi,rfl⟩:=List.getElem_of_mem hx
    have:=h i (by omega)
    dsimp only at this
    rw [nth_lt hi] at this
    simpa using this
  rw [this]
theorem findI_ge:(0 ≤ findI p xs) = (∃ i,i < xs.length ∧ p (nth xs i) = true):=by
  rw [eq_iff_iff]
  constructor
  · intro h
    unfold findI at h
    split at h
    · rename_i i hi
      rw [List.findIdx?_eq_some_iff_getElem] at hi
      obtain ⟨h1,h2,_⟩:=hi
      exact ⟨i,h1,by rw [nth_lt h1];exact h2⟩
    · omega
  · rintro ⟨i,h1,h2⟩
    unfold findI
    split
    · omega
    · rename_i h
      rw [List.findIdx?_eq_none_iff] at h
      have:=h _ (Jn h1)
      rw [h2] at this;cases this
theorem mem_nth {x:α}:(x ∈ xs) = (∃ i,i < xs.length ∧ nth xs i = x):=by
  rw [eq_iff_iff]
  constructor
  · intro h
    obtain ⟨i,hi,rfl⟩:=List.getElem_of_mem h
    exact ⟨i,hi,nth_lt hi⟩
  · rintro ⟨i,hi,rfl⟩;exact Jn hi
theorem zafq {j:Nat} (h:j < k):nth (xs.take k) j = nth xs j:=by simp [nth,List.getD_eq_getElem?_getD,List.getElem?_take,h]
end


@[go_sem] def Γ4:FuncId → Con:=Γ3
theorem Γ4_ok:∀ g,ConOk Tryz.prog g (Γ4 g):=Γ3_ok

@[go_sem] def Γ5:FuncId → Con:=Γ4
theorem Γ5_ok:∀ g,ConOk Tryz.prog g (Γ5 g):=Γ4_ok

@[go_sem] def Γ6:FuncId → Con:=Γ5
theorem Γ6_ok:∀ g,ConOk Tryz.prog g (Γ6 g):=Γ5_ok

@[go_sem] def Γ7:FuncId → Con:=Γ6
theorem Γ7_ok:∀ g,ConOk Tryz.prog g (Γ7 g):=Γ6_ok

@[go_sem] def Γ8:FuncId → Con:=Γ7
theorem Γ8_ok:∀ g,ConOk Tryz.prog g (Γ8 g):=Γ7_ok

@[go_sem] def Γ9:FuncId → Con:=Γ8
theorem Γ9_ok:∀ g,ConOk Tryz.prog g (Γ9 g):=Γ8_ok

@[go_sem] def Γ10:FuncId → Con:=Γ9
theorem Γ10_ok:∀ g,ConOk Tryz.prog g (Γ10 g):=Γ9_ok

@[go_sem] def Γ11:FuncId → Con:=Γ10
theorem Γ11_ok:∀ g,ConOk Tryz.prog g (Γ11 g):=Γ10_ok

@[go_sem] def Γ12:FuncId → Con:=Γ11
theorem Γ12_ok:∀ g,ConOk Tryz.prog g (Γ12 g):=Γ11_ok


@[go_sem] def Γ13:FuncId → Con:=Γ12
theorem Jb:∀ g,ConOk Tryz.prog g (Γ13 g):=Γ12_ok

theorem zafd (xs:List Int) (ys:List Int)  : Pure Tryz.prog 58 [li cI xs,li cI ys] (.bool (decide (xs = ys))):=by
  refine Pure.of_walk Tryz.func58 rfl (by simp [Tryz.f58]) (by simp [-zd,go_sem]) fun B hK=>?_
  (repeat' (first
 | refine Qr ?_
 | (refine AW_len 0 rfl fun hm=>?_);refine Qc (id:=0) Jb [] (by kernel_rfl) ?_;simp [-zg,-zd,↓Qb,↓Qa,go_sem]
 | refine Qc (id:=1) Jb [] (by kernel_rfl) ?_;simp [-zg,-zd,↓Qb,↓Qa,go_sem]
 | refine Qc (id:=2) Jb [] (by kernel_rfl) ?_;simp [-zg,-zd,↓Qb,↓Qa,go_sem]
 | refine Qc (id:=3) Jb [] (by kernel_rfl) ?_;simp [-zg,-zd,↓Qb,↓Qa,go_sem]
 | refine Qc (id:=4) Jb [] (by kernel_rfl) ?_;simp [-zg,-zd,↓Qb,↓Qa,go_sem]
 | refine Qc (id:=5) Jb [] (by kernel_rfl) ?_;simp [-zg,-zd,↓Qb,↓Qa,go_sem]
 | (have cy:k < ys.length:=by omega);refine Zf (id:=6) Jb mixed [] [5] (by kernel_rfl) (by kernel_rfl) (by simp [-zg,-zd,↓Qb,↓Qa,go_sem,c14,Qh c14,zsP c14,cy,Qh cy,zsP cy]) ?_;simp [-zg,-zd,↓Qb,↓Qa,go_sem,c14,Qh c14,zsP c14,cy,Qh cy,zsP cy]
 | refine Qc (id:=7) Jb [] (by kernel_rfl) ?_;simp [-zg,-zd,↓Qb,↓Qa,go_sem]
 | refine Qc (id:=8) Jb [] (by kernel_rfl) ?_;simp [-zg,-zd,↓Qb,↓Qa,go_sem,wrapS (k:=k) (by omega)]
 | refine Qc (id:=9) Jb [] (by kernel_rfl) ?_;simp [-zg,-zd,↓Qb,↓Qa,go_sem]
 | refine Qf (c:=.tmp 10) ?_;simp [-zg,-zd,↓Qb,↓Qa,go_sem];try first | (refine ⟨?_,?_⟩ <;> refine zA ?_) | (refine ⟨fun c10=>?_,fun c10=>?_⟩ <;> (try simp [B_iff,B_not] at c10))
 | refine Qf (c:=.tmp 14) ?_;simp [-zg,-zd,↓Qb,↓Qa,go_sem];try first | (refine ⟨?_,?_⟩ <;> refine zA ?_) | (refine ⟨fun c14=>?_,fun c14=>?_⟩ <;> (try simp [B_iff,B_not] at c14))
 | refine Qf (c:=.tmp 24) ?_;simp [-zg,-zd,↓Qb,↓Qa,go_sem];try first | (refine ⟨?_,?_⟩ <;> refine zA ?_) | (refine ⟨fun c24=>?_,fun c24=>?_⟩ <;> (try simp [B_iff,B_not] at c24))
 | (refine Qg (id:=0) (Xc (ι:=Nat) (fun k:Nat=>⟨(upd (upd (upd (upd (upd (fun _=>.any) 0 (li cI xs)) 1 (li cI ys)) 11 (li cI xs)) 12 (.int .i64 xs.length)) 13 (.int .i64 k)),fun _=>none⟩) (fun k=>k ≤ xs.length ∧ NoneTill (neAt xs ys) k) (fun k=>xs.length - k) (0) ?_ ?_ ?_);exact ⟨Nat.zero_le _,.zero _⟩;((repeat' (first | exact Qj (by assumption) | exact Ql | refine Qm ?_ ?_ | refine Qk ?_)) <;> simp [-zg,-zd,↓Qb,↓Qa,go_sem]);rintro k ⟨hk,ht⟩)
 | (refine ⟨k + 1,⟨by omega,ht.succ (by simp [neAt,c24])⟩,by first | omega | (simp;done) | (simp;omega),?_⟩;((repeat' (first | exact Qj (by assumption) | exact Ql | refine Qm ?_ ?_ | refine Qk ?_)) <;> simp [-zg,-zd,↓Qb,↓Qa,go_sem]))
 | (refine Qg ?_)
 | (refine Qq ?_;simp [-zg,-zd,↓Qb,↓Qa,go_sem])
 | (refine Qp ?_;simp [-zg,-zd,↓Qb,↓Qa,go_sem])
 | (refine Qs ?_;simp [-zg,-zd,↓Qb,↓Qa,go_sem,Tryz.results58])
 | (intro hx;refine zA ?_)
 | (refine ⟨?_,?_⟩ <;> refine zA ?_)
 | (intro hx;constructor <;> intro hs)
 | (constructor <;> intro hs)
 | (refine ⟨?_,fun hs=>?_⟩;refine zA ?_)
 | (refine ⟨fun hs=>?_,?_⟩;rotate_left;refine zA ?_;rotate_left)))
  all_goals (first
 | (rintro rfl;simp at c10;done)
 | (rintro rfl;exact c24 rfl)
 | exact zaaw (by omega) ht (by omega)
 | skip)
@[go_sem] def zaan:Con:=.pure fun
  | [.list n_xs c_xs,.list n_ys c_ys]=>((Is cI n_xs c_xs) ∧ (Is cI n_ys c_ys),.bool (decide ((de cI c_xs) = (de cI c_ys))))
  | _=>(False,.any)
theorem zacp:ConOk Tryz.prog 58 zaan:=by
  refine ⟨Qn Tryz.func58 (by decide) rfl,fun args h=>?_⟩
  revert h
  dsimp only
  split
  · intro h
    obtain ⟨⟨xs,rfl,rfl⟩,⟨ys,rfl,rfl⟩⟩:=h
    try simp only [Xb] at *
    exact ⟨zafd xs ys,by simp [go_sem]⟩
  · intro h
    exact h.elim
@[go_sem] def Γ14:FuncId → Con:=ext Γ13 58 zaan
theorem Γ14_ok:∀ g,ConOk Tryz.prog g (Γ14 g):=Qu Jb zacp

@[go_sem] def Γ15:FuncId → Con:=Γ14
theorem Γ15_ok:∀ g,ConOk Tryz.prog g (Γ15 g):=Γ14_ok

@[go_sem] def Γ16:FuncId → Con:=Γ15
theorem Γ16_ok:∀ g,ConOk Tryz.prog g (Γ16 g):=Γ15_ok

@[go_sem] def Γ17:FuncId → Con:=Γ16
theorem Γ17_ok:∀ g,ConOk Tryz.prog g (Γ17 g):=Γ16_ok

@[go_sem] def Γ18:FuncId → Con:=Γ17
theorem Γ18_ok:∀ g,ConOk Tryz.prog g (Γ18 g):=Γ17_ok

@[go_sem] def Γ19:FuncId → Con:=Γ18
theorem Γ19_ok:∀ g,ConOk Tryz.prog g (Γ19 g):=Γ18_ok

@[go_sem] def Γ20:FuncId → Con:=Γ19
theorem Γ20_ok:∀ g,ConOk Tryz.prog g (Γ20 g):=Γ19_ok

@[go_sem] def Γ21:FuncId → Con:=Γ20
theorem Γ21_ok:∀ g,ConOk Tryz.prog g (Γ21 g):=Γ20_ok

@[go_sem] def Γ22:FuncId → Con:=Γ21
theorem Γ22_ok:∀ g,ConOk Tryz.prog g (Γ22 g):=Γ21_ok

@[go_sem] def Γ23:FuncId → Con:=Γ22
theorem Γ23_ok:∀ g,ConOk Tryz.prog g (Γ23 g):=Γ22_ok
end
end Go.Proofs.YtiilmjojffjhlaaGreatDoor.Vm

