import Derived.Test.YtiilmjojffjhlaaGreatDoorCat
/-
  Lists of numbers: the walks of the functions of the law's own kit. No conditions.
-/
namespace Go.Proofs.YtiilmjojffjhlaaGreatDoor.Vm
open Go
open Nat renaming sub_pos_of_lt → zsP
open List renaming getD_eq_getElem?_getD → zg,drop_one → zd
noncomputable section
set_option linter.unusedVariables false
set_option linter.unusedSimpArgs false
set_option maxRecDepth 200000

def NoneTill (p:Nat → Bool) (k:Nat):Prop:=∀ i,i < k → p i = false
theorem NoneTill.zero (p:Nat → Bool):NoneTill p 0:=fun _ h=>absurd h (by omega)
theorem NoneTill.succ {p:Nat → Bool} {k:Nat} (h:NoneTill p k) (e:p k = false):NoneTill p (k + 1):=fun i hi=>by
  rcases Nat.lt_or_ge i k with h1 | h1
  · exact h i h1
  · obtain rfl:i = k:=by omega
    exact e
def neAt {α:Type} [DecidableEq α] [Inhabited α] (xs ys:List α) (i:Nat):Bool:=!decide (nth xs i = nth ys i)
theorem zafi {α:Type} [DecidableEq α] [Inhabited α] {xs ys:List α} {k:Nat} (hl:xs.length = ys.length) (h:NoneTill (neAt xs ys) k) (hk:xs.length ≤ k):xs = ys:=by
  apply List.ext_getElem hl
  intro i h1 h2
  have:=h i (by omega)
  simp [neAt,Xc h1,Xc h2] at this
  exact this
theorem in_pure (n:Int) (lo:Int) (hi:Int)  : Pure Tryz.prog 30 [.int .i64 n,.int .i64 lo,.int .i64 hi] (.bool (decide (lo ≤ n) && decide (n ≤ hi))):=by
  refine Pure.of_walk Tryz.func30 rfl (by simp [Tryz.f30]) (by simp [-zd,go_sem]) fun B hK=>?_
  (repeat' (first
 | refine Qt ?_
 | refine Qc (id:=1) Γ0_ok [10] (by kernel_rfl) ?_;simp [-zg,-zd,↓Qb,↓Qa,go_sem];try (refine ⟨fun s1a=>?_,fun s1a=>?_⟩ <;> (try simp [B_iff,B_not] at s1a) <;> try (refine ⟨fun s1b=>?_,fun s1b=>?_⟩ <;> (try simp [B_iff,B_not] at s1b)))
 | (refine Qe ?_)
 | (refine Qs ?_;simp [-zg,-zd,↓Qb,↓Qa,go_sem])
 | (refine Qr ?_;simp [-zg,-zd,↓Qb,↓Qa,go_sem])
 | (refine Qq ?_;simp [-zg,-zd,↓Qb,↓Qa,go_sem,Tryz.results30])
 | (intro hx;refine zA ?_)
 | (refine ⟨?_,?_⟩ <;> refine zA ?_)
 | (intro hx;constructor <;> intro hs)
 | (constructor <;> intro hs)
 | (refine ⟨?_,fun hs=>?_⟩;refine zA ?_)
 | (refine ⟨fun hs=>?_,?_⟩;rotate_left;refine zA ?_;rotate_left)
 | (refine Qc Γ0_ok [] (by kernel_rfl) ?_;simp [-zg,-zd,↓Qb,↓Qa,go_sem])
 | fail))
  all_goals (first
 | (intros;omega)
 | skip)
@[go_sem] def in_pureC:Con:=.pure fun
  | [.int .i64 n,.int .i64 lo,.int .i64 hi]=>(True,.bool (decide (lo ≤ n) && decide (n ≤ hi)))
  | _=>(False,.any)
theorem in_pureC_ok:ConOk Tryz.prog 30 in_pureC:=by
  refine ⟨Qo Tryz.func30 (by decide) rfl,fun args h=>?_⟩
  revert h
  dsimp only
  split
  · intro h
    skip
    skip
    exact ⟨in_pure _ _ _,by simp [go_sem]⟩
  · intro h
    exact h.elim
@[go_sem] def Γin:FuncId → Con:=ext Γ0 30 in_pureC
theorem Γin_ok:∀ g,ConOk Tryz.prog g (Γin g):=Qn Γ0_ok in_pureC_ok

@[go_sem] def Γ1:FuncId → Con:=Γin
theorem Γ1_ok:∀ g,ConOk Tryz.prog g (Γ1 g):=Γin_ok

@[go_sem] def Γ2:FuncId → Con:=Γ1
theorem Γ2_ok:∀ g,ConOk Tryz.prog g (Γ2 g):=Γ1_ok

@[go_sem] def Γ3:FuncId → Con:=Γ2
theorem Γ3_ok:∀ g,ConOk Tryz.prog g (Γ3 g):=Γ2_ok

def msum {α:Type} (m:α → Nat) (xs:List α) (k:Nat):Nat:=((xs.take k).map m).sum
section
variable {α:Type} {m:α → Nat}
@[go_sem] theorem msum_zero (xs:List α):msum m xs 0 = 0:=by simp [msum]
theorem msum_succ [Inhabited α] {xs:List α} {k:Nat} (h:k < xs.length):msum m xs (k + 1) = msum m xs k + m (nth xs k):=by
  unfold msum
  rw [List.take_succ_eq_append_getElem h,List.map_append,List.sum_append,Xc h]
  simp
theorem msum_mono {xs:List α} {k j:Nat} (h:k ≤ j):msum m xs k ≤ msum m xs j:=by
  have e:xs.take j = xs.take k ++ (xs.take j).drop k:=by
    have:=List.take_append_drop k (xs.take j)
    rw [List.take_take,Nat.min_eq_left h] at this
    exact this.symm
  unfold msum
  rw [e,List.map_append,List.sum_append]
  omega
theorem msum_at [Inhabited α] {xs:List α} {k:Nat} (h:k < xs.length):m (nth xs k) ≤ msum m xs xs.length:=by
  have:=msum_succ (m:=m) h
  have:=msum_mono (m:=m) (xs:=xs) (show k + 1 ≤ xs.length from h)
  omega
end
def mP (s:Ints2):Nat:=s.1.length + s.2.length
def mL (s:List Int):Nat:=s.length

def AllTill (p:Nat → Prop) (k:Nat):Prop:=∀ i,i < k → p i
theorem AllTill.zero (p:Nat → Prop):AllTill p 0:=fun _ h=>absurd h (by omega)
theorem AllTill.succ {p:Nat → Prop} {k:Nat} (h:AllTill p k) (e:p k):AllTill p (k + 1):=fun i hi=>by
  rcases Nat.lt_or_ge i k with h1 | h1
  · exact h i h1
  · obtain rfl:i = k:=by omega
    exact e
def findI {α:Type} (p:α → Bool) (xs:List α):Int:=match xs.findIdx? p with
  | some i=>i
  | none=>-1
section
variable {α:Type} [Inhabited α] {p:α → Bool} {xs:List α} {k:Nat}
theorem findI_at (h:NoneTill (fun i=>p (nth xs i)) k) (hk:k < xs.length) (e:p (nth xs k) = true):findI p xs = k:=by
  unfold findI
  have:xs.findIdx? p = some k:=by
    rw [List.findIdx?_eq_some_iff_getElem]
    refine ⟨hk,by rw [← Xc hk];exact e,fun j hj=>?_⟩
    have:=h j hj
    dsimp only at this
    rw [Xc (by omega)] at this
    simpa using this
  rw [this]
theorem findI_none (h:NoneTill (fun i=>p (nth xs i)) k) (hk:xs.length ≤ k):findI p xs = -1:=by
  unfold findI
  have:xs.findIdx? p = none:=by
    rw [List.findIdx?_eq_none_iff]
    intro x hx
    obtain ⟨i,hi,rfl⟩:=List.getElem_of_mem hx
    have:=h i (by omega)
    dsimp only at this
    rw [Xc hi] at this
    simpa using this
  rw [this]
theorem zaqb {x:α}:(x ∈ xs) = (∃ i,i < xs.length ∧ nth xs i = x):=by
  rw [eq_iff_iff]
  constructor
  · intro h
    obtain ⟨i,hi,rfl⟩:=List.getElem_of_mem h
    exact ⟨i,hi,Xc hi⟩
  · rintro ⟨i,hi,rfl⟩;exact Xz hi
theorem nth_take {j:Nat} (h:j < k):nth (xs.take k) j = nth xs j:=by simp [nth,List.getD_eq_getElem?_getD,List.getElem?_take,h]
end


@[go_sem] def Γ4:FuncId → Con:=Γ3
theorem Γ4_ok:∀ g,ConOk Tryz.prog g (Γ4 g):=Γ3_ok

@[go_sem] def Γ5:FuncId → Con:=Γ4
theorem Γ5_ok:∀ g,ConOk Tryz.prog g (Γ5 g):=Γ4_ok

@[go_sem] def Γ6:FuncId → Con:=Γ5
theorem Γ6_ok:∀ g,ConOk Tryz.prog g (Γ6 g):=Γ5_ok

@[go_sem] def Γ7:FuncId → Con:=Γ6
theorem Γ7_ok:∀ g,ConOk Tryz.prog g (Γ7 g):=Γ6_ok

@[go_sem] def Γ8:FuncId → Con:=Γ7
theorem Γ8_ok:∀ g,ConOk Tryz.prog g (Γ8 g):=Γ7_ok

@[go_sem] def Γ9:FuncId → Con:=Γ8
theorem Γ9_ok:∀ g,ConOk Tryz.prog g (Γ9 g):=Γ8_ok

@[go_sem] def Γ10:FuncId → Con:=Γ9
theorem Γ10_ok:∀ g,ConOk Tryz.prog g (Γ10 g):=Γ9_ok

@[go_sem] def Γ11:FuncId → Con:=Γ10
theorem Γ11_ok:∀ g,ConOk Tryz.prog g (Γ11 g):=Γ10_ok

@[go_sem] def Γ12:FuncId → Con:=Γ11
theorem Γ12_ok:∀ g,ConOk Tryz.prog g (Γ12 g):=Γ11_ok


theorem l2Ints_pure (xs:List Int) (ys:List Int)  : Pure Tryz.prog 148 [li cI xs,li cI ys] (.bool (decide (xs = ys))):=by
  refine Pure.of_walk Tryz.func148 rfl (by simp [Tryz.f148]) (by simp [-zd,go_sem]) fun B hK=>?_
  (repeat' (first
 | refine Qt ?_
 | (refine Jb 0 rfl fun hm=>?_);refine Qc (id:=0) Γ12_ok [] (by kernel_rfl) ?_;simp [-zg,-zd,↓Qb,↓Qa,go_sem]
 | (have cy:k < ys.length:=by omega);refine Xn (id:=6) Γ12_ok mixed [] [5] (by kernel_rfl) (by kernel_rfl) ?_ ?_ <;> simp [-zg,-zd,↓Qb,↓Qa,go_sem,c14,Qk c14,zsP c14,cy,Qk cy,zsP cy]
 | refine Qc (id:=5) Γ12_ok [] (by kernel_rfl) ?_;simp [-zg,-zd,↓Qb,↓Qa,go_sem,wrapS (k:=k) (by omega)]
 | refine Qj (c:=.tmp 10) ?_;simp [-zg,-zd,↓Qb,↓Qa,go_sem];try first | (refine ⟨?_,?_⟩ <;> refine zA ?_) | (refine ⟨fun c10=>?_,fun c10=>?_⟩ <;> (try simp [B_iff,B_not] at c10))
 | refine Qj (c:=.tmp 14) ?_;simp [-zg,-zd,↓Qb,↓Qa,go_sem];try first | (refine ⟨?_,?_⟩ <;> refine zA ?_) | (refine ⟨fun c14=>?_,fun c14=>?_⟩ <;> (try simp [B_iff,B_not] at c14))
 | refine Qj (c:=.tmp 25) ?_;simp [-zg,-zd,↓Qb,↓Qa,go_sem];try first | (refine ⟨?_,?_⟩ <;> refine zA ?_) | (refine ⟨fun c25=>?_,fun c25=>?_⟩ <;> (try simp [B_iff,B_not] at c25))
 | (refine Qe (id:=0) (Qw (ι:=Nat) (fun k:Nat=>⟨(upd (upd (upd (fun _=>.any) 0 (li cI xs)) 1 (li cI ys)) 5 (.int .i64 k)),fun _=>none⟩) (fun k=>k ≤ xs.length ∧ NoneTill (neAt xs ys) k) (fun k=>xs.length - k) (0) ?_ ?_ ?_);exact ⟨Nat.zero_le _,.zero _⟩;((repeat' (first | exact Qg (by assumption) | exact Qi | refine Qf ?_ ?_ | refine Qh ?_)) <;> simp [-zg,-zd,↓Qb,↓Qa,go_sem]);rintro k ⟨hk,ht⟩)
 | (refine ⟨k + 1,⟨by omega,ht.succ (by simp [neAt];first | exact c25 | (apply Prod.ext <;> simp_all;done) | (simp_all [Prod.ext_iff];done) | simp_all)⟩,by first | omega | (simp;done) | (simp;omega),?_⟩;((repeat' (first | exact Qg (by assumption) | exact Qi | refine Qf ?_ ?_ | refine Qh ?_)) <;> simp [-zg,-zd,↓Qb,↓Qa,go_sem]))
 | (refine Qe ?_)
 | (refine Qs ?_;simp [-zg,-zd,↓Qb,↓Qa,go_sem])
 | (refine Qr ?_;simp [-zg,-zd,↓Qb,↓Qa,go_sem])
 | (refine Qq ?_;simp [-zg,-zd,↓Qb,↓Qa,go_sem,Tryz.results148])
 | (intro hx;refine zA ?_)
 | (refine ⟨?_,?_⟩ <;> refine zA ?_)
 | (intro hx;constructor <;> intro hs)
 | (constructor <;> intro hs)
 | (refine ⟨?_,fun hs=>?_⟩;refine zA ?_)
 | (refine ⟨fun hs=>?_,?_⟩;rotate_left;refine zA ?_;rotate_left)
 | (refine Qc Γ12_ok [] (by kernel_rfl) ?_;simp [-zg,-zd,↓Qb,↓Qa,go_sem])
 | fail))
  all_goals (first
 | (rintro rfl;simp at c10;done)
 | (rintro rfl;simp at c25;done)
 | exact zafi (by omega) ht (by omega)
 | skip)
@[go_sem] def zahd:Con:=.pure fun
  | [.list n_xs c_xs,.list n_ys c_ys]=>((Is cI n_xs c_xs) ∧ (Is cI n_ys c_ys),.bool (decide ((de cI c_xs) = (de cI c_ys))))
  | _=>(False,.any)
theorem zajq:ConOk Tryz.prog 148 zahd:=by
  refine ⟨Qo Tryz.func148 (by decide) rfl,fun args h=>?_⟩
  revert h
  dsimp only
  split
  · intro h
    obtain ⟨⟨xs,rfl,rfl⟩,⟨ys,rfl,rfl⟩⟩:=h
    try simp only [Qm] at *
    exact ⟨l2Ints_pure xs ys,by simp [go_sem]⟩
  · intro h
    exact h.elim
@[go_sem] def Γ13:FuncId → Con:=ext Γ12 148 zahd
theorem Γ13_ok:∀ g,ConOk Tryz.prog g (Γ13 g):=Qn Γ12_ok zajq

theorem zapo (xs:List Int) (ys:List Int)  : Pure Tryz.prog 58 [li cI xs,li cI ys] (.bool (decide (xs = ys))):=by
  refine Pure.of_walk Tryz.func58 rfl (by simp [Tryz.f58]) (by simp [-zd,go_sem]) fun B hK=>?_
  (repeat' (first
 | refine Qt ?_
 | (refine Jb 0 rfl fun hm=>?_);refine Qc (id:=0) Γ13_ok [] (by kernel_rfl) ?_;simp [-zg,-zd,↓Qb,↓Qa,go_sem]
 | (have cy:k < ys.length:=by omega);refine Xn (id:=6) Γ13_ok mixed [] [5] (by kernel_rfl) (by kernel_rfl) ?_ ?_ <;> simp [-zg,-zd,↓Qb,↓Qa,go_sem,c14,Qk c14,zsP c14,cy,Qk cy,zsP cy]
 | refine Qc (id:=8) Γ13_ok [] (by kernel_rfl) ?_;simp [-zg,-zd,↓Qb,↓Qa,go_sem,wrapS (k:=k) (by omega)]
 | refine Qj (c:=.tmp 10) ?_;simp [-zg,-zd,↓Qb,↓Qa,go_sem];try first | (refine ⟨?_,?_⟩ <;> refine zA ?_) | (refine ⟨fun c10=>?_,fun c10=>?_⟩ <;> (try simp [B_iff,B_not] at c10))
 | refine Qj (c:=.tmp 14) ?_;simp [-zg,-zd,↓Qb,↓Qa,go_sem];try first | (refine ⟨?_,?_⟩ <;> refine zA ?_) | (refine ⟨fun c14=>?_,fun c14=>?_⟩ <;> (try simp [B_iff,B_not] at c14))
 | refine Qj (c:=.tmp 24) ?_;simp [-zg,-zd,↓Qb,↓Qa,go_sem];try first | (refine ⟨?_,?_⟩ <;> refine zA ?_) | (refine ⟨fun c24=>?_,fun c24=>?_⟩ <;> (try simp [B_iff,B_not] at c24))
 | (refine Qe (id:=0) (Qw (ι:=Nat) (fun k:Nat=>⟨(upd (upd (upd (upd (upd (fun _=>.any) 0 (li cI xs)) 1 (li cI ys)) 11 (li cI xs)) 12 (.int .i64 xs.length)) 13 (.int .i64 k)),fun _=>none⟩) (fun k=>k ≤ xs.length ∧ NoneTill (neAt xs ys) k) (fun k=>xs.length - k) (0) ?_ ?_ ?_);exact ⟨Nat.zero_le _,.zero _⟩;((repeat' (first | exact Qg (by assumption) | exact Qi | refine Qf ?_ ?_ | refine Qh ?_)) <;> simp [-zg,-zd,↓Qb,↓Qa,go_sem]);rintro k ⟨hk,ht⟩)
 | (refine ⟨k + 1,⟨by omega,ht.succ (by simp [neAt,c24])⟩,by first | omega | (simp;done) | (simp;omega),?_⟩;((repeat' (first | exact Qg (by assumption) | exact Qi | refine Qf ?_ ?_ | refine Qh ?_)) <;> simp [-zg,-zd,↓Qb,↓Qa,go_sem]))
 | (refine Qe ?_)
 | (refine Qs ?_;simp [-zg,-zd,↓Qb,↓Qa,go_sem])
 | (refine Qr ?_;simp [-zg,-zd,↓Qb,↓Qa,go_sem])
 | (refine Qq ?_;simp [-zg,-zd,↓Qb,↓Qa,go_sem,Tryz.results58])
 | (intro hx;refine zA ?_)
 | (refine ⟨?_,?_⟩ <;> refine zA ?_)
 | (intro hx;constructor <;> intro hs)
 | (constructor <;> intro hs)
 | (refine ⟨?_,fun hs=>?_⟩;refine zA ?_)
 | (refine ⟨fun hs=>?_,?_⟩;rotate_left;refine zA ?_;rotate_left)
 | (refine Qc Γ13_ok [] (by kernel_rfl) ?_;simp [-zg,-zd,↓Qb,↓Qa,go_sem])
 | fail))
  all_goals (first
 | (rintro rfl;simp at c10;done)
 | (rintro rfl;exact c24 rfl)
 | exact zafi (by omega) ht (by omega)
 | skip)
@[go_sem] def zaeh:Con:=.pure fun
  | [.list n_xs c_xs,.list n_ys c_ys]=>((Is cI n_xs c_xs) ∧ (Is cI n_ys c_ys),.bool (decide ((de cI c_xs) = (de cI c_ys))))
  | _=>(False,.any)
theorem zajz:ConOk Tryz.prog 58 zaeh:=by
  refine ⟨Qo Tryz.func58 (by decide) rfl,fun args h=>?_⟩
  revert h
  dsimp only
  split
  · intro h
    obtain ⟨⟨xs,rfl,rfl⟩,⟨ys,rfl,rfl⟩⟩:=h
    try simp only [Qm] at *
    exact ⟨zapo xs ys,by simp [go_sem]⟩
  · intro h
    exact h.elim
@[go_sem] def Γ14:FuncId → Con:=ext Γ13 58 zaeh
theorem Γ14_ok:∀ g,ConOk Tryz.prog g (Γ14 g):=Qn Γ13_ok zajz

theorem zami (a:List Int) (b:List Int) (c:List Int) (d:List Int)  : Pure Tryz.prog 193 [.st [li cI a,li cI b],.st [li cI c,li cI d]] (.bool (decide (a = c) && decide (b = d))):=by
  refine Pure.of_walk Tryz.func193 rfl (by simp [Tryz.f193]) (by simp [-zd,go_sem]) fun B hK=>?_
  (repeat' (first
 | refine Qt ?_
 | refine Qc (id:=0) Γ14_ok [] (by kernel_rfl) ?_;simp [-zg,-zd,↓Qb,↓Qa,go_sem];try (refine Xh hK 2 ?_;simp [go_sem];refine Xh hK 3 ?_;simp [go_sem])
 | refine Qc (id:=1) Γ14_ok [10] (by kernel_rfl) ?_;simp [-zg,-zd,↓Qb,↓Qa,go_sem];try (refine ⟨fun s1a=>?_,fun s1a=>?_⟩ <;> (try simp [B_iff,B_not] at s1a) <;> try (refine ⟨fun s1b=>?_,fun s1b=>?_⟩ <;> (try simp [B_iff,B_not] at s1b)))
 | (refine Qe ?_)
 | (refine Qs ?_;simp [-zg,-zd,↓Qb,↓Qa,go_sem])
 | (refine Qr ?_;simp [-zg,-zd,↓Qb,↓Qa,go_sem])
 | (refine Qq ?_;simp [-zg,-zd,↓Qb,↓Qa,go_sem,Tryz.results193])
 | (intro hx;refine zA ?_)
 | (refine ⟨?_,?_⟩ <;> refine zA ?_)
 | (intro hx;constructor <;> intro hs)
 | (constructor <;> intro hs)
 | (refine ⟨?_,fun hs=>?_⟩;refine zA ?_)
 | (refine ⟨fun hs=>?_,?_⟩;rotate_left;refine zA ?_;rotate_left)))
  all_goals (first
 | (simp_all;done)
 | (intros;simp_all;done)
 | skip)
@[go_sem] def zacu:Con:=.pure fun
  | [.st [.list n_a c_a,.list n_b c_b],.st [.list n_c c_c,.list n_d c_d]]=>((Is cI n_a c_a) ∧ (Is cI n_b c_b) ∧ (Is cI n_c c_c) ∧ (Is cI n_d c_d),.bool (decide ((de cI c_a) = (de cI c_c)) && decide ((de cI c_b) = (de cI c_d))))
  | _=>(False,.any)
theorem zahx:ConOk Tryz.prog 193 zacu:=by
  refine ⟨Qo Tryz.func193 (by decide) rfl,fun args h=>?_⟩
  revert h
  dsimp only
  split
  · intro h
    obtain ⟨⟨a,rfl,rfl⟩,⟨b,rfl,rfl⟩,⟨c,rfl,rfl⟩,⟨d,rfl,rfl⟩⟩:=h
    try simp only [Qm] at *
    exact ⟨zami a b c d,by simp [go_sem]⟩
  · intro h
    exact h.elim
@[go_sem] def Γ15:FuncId → Con:=ext Γ14 193 zacu
theorem Γ15_ok:∀ g,ConOk Tryz.prog g (Γ15 g):=Qn Γ14_ok zahx

@[go_sem] def Γ16:FuncId → Con:=Γ15
theorem Γ16_ok:∀ g,ConOk Tryz.prog g (Γ16 g):=Γ15_ok

@[go_sem] def Γ17:FuncId → Con:=Γ16
theorem Γ17_ok:∀ g,ConOk Tryz.prog g (Γ17 g):=Γ16_ok

@[go_sem] def Γ18:FuncId → Con:=Γ17
theorem Γ18_ok:∀ g,ConOk Tryz.prog g (Γ18 g):=Γ17_ok

@[go_sem] def Γ19:FuncId → Con:=Γ18
theorem Γ19_ok:∀ g,ConOk Tryz.prog g (Γ19 g):=Γ18_ok

@[go_sem] def Γ20:FuncId → Con:=Γ19
theorem Γ20_ok:∀ g,ConOk Tryz.prog g (Γ20 g):=Γ19_ok

@[go_sem] def Γ21:FuncId → Con:=Γ20
theorem Γ21_ok:∀ g,ConOk Tryz.prog g (Γ21 g):=Γ20_ok

@[go_sem] def Γ22:FuncId → Con:=Γ21
theorem Γ22_ok:∀ g,ConOk Tryz.prog g (Γ22 g):=Γ21_ok

@[go_sem] def Γ23:FuncId → Con:=Γ22
theorem Γ23_ok:∀ g,ConOk Tryz.prog g (Γ23 g):=Γ22_ok

def ValsOk (xs:List Int):Prop:=xs.length = 3 ∧ ∀ i,i < xs.length → 0 ≤ nth xs i ∧ nth xs i ≤ 3
def Dist (xs:List Int) (n:Int):Prop:=∀ i,i < xs.length → 0 ≤ nth xs i ∧ nth xs i ≤ n - 1 ∧ ¬ nth xs i ∈ xs.take i
theorem pigeon:∀ (n:Nat) (xs:List Int),xs.Nodup → (∀ x ∈ xs,0 ≤ x ∧ x < n) → xs.length ≤ n
  | 0,xs,_,h=>by
    cases xs with
    | nil=>simp
    | cons x xs=>have:=h x (by simp);omega
  | n + 1,xs,hn,h=>by
    have:=pigeon n (xs.erase n) (hn.erase _) fun x hx=>by
      have h1:=h x (List.mem_of_mem_erase hx)
      have h2:x ≠ n:=fun e=>by subst e;exact (List.Nodup.not_mem_erase hn) hx
      omega
    rw [List.length_erase] at this
    split at this <;> omega
theorem Dist.nodup {xs:List Int} {n:Int} (h:Dist xs n):xs.Nodup:=by
  rw [List.nodup_iff_pairwise_ne,List.pairwise_iff_getElem]
  intro i j hi hj hij e
  have:=(h j hj).2.2
  apply this
  rw [zaqb]
  exact ⟨i,by simp;omega,by rw [nth_take hij,Xc hi,Xc hj,e]⟩
theorem Dist.len {xs:List Int} {n:Nat} (h:Dist xs n):xs.length ≤ n :=
  pigeon n xs h.nodup fun x hx=>by
    rw [zaqb] at hx
    obtain ⟨i,hi,rfl⟩:=hx
    have:=h i hi
    omega
def GraphOk (a:List Ints2) (b:List (List Int)):Prop :=
  1 ≤ a.length ∧ a.length ≤ 60 ∧ b.length = a.length ∧ (∀ i,i < a.length → ValsOk (nth a i).2) ∧ ∀ i,i < b.length → 1 ≤ (nth b i).length ∧ Dist (nth b i) a.length

theorem l1Vals_pure (xs:List Int)  : Pure Tryz.prog 175 [li cI xs] (.bool (B (ValsOk xs))):=by
  refine Pure.of_walk Tryz.func175 rfl (by simp [Tryz.f175]) (by simp [-zd,go_sem]) fun B hK=>?_
  (repeat' (first
 | refine Qt ?_
 | (refine Jb 0 rfl fun hm=>?_);refine Qc (id:=0) Γ23_ok [] (by kernel_rfl) ?_;simp [-zg,-zd,↓Qb,↓Qa,go_sem]
 | refine Qc (id:=4) Γ23_ok [15] (by kernel_rfl) ?_;simp [-zg,-zd,↓Qb,↓Qa,go_sem,c7,Qk c7,zsP c7];try (refine ⟨fun s4a=>?_,fun s4a=>?_⟩ <;> (try simp [B_iff,B_not] at s4a) <;> try (refine ⟨fun s4b=>?_,fun s4b=>?_⟩ <;> (try simp [B_iff,B_not] at s4b)))
 | refine Qc (id:=3) Γ23_ok [] (by kernel_rfl) ?_;simp [-zg,-zd,↓Qb,↓Qa,go_sem,wrapS (k:=k) (by omega)]
 | refine Qj (c:=.tmp 7) ?_;simp [-zg,-zd,↓Qb,↓Qa,go_sem];try first | (refine ⟨?_,?_⟩ <;> refine zA ?_) | (refine ⟨fun c7=>?_,fun c7=>?_⟩ <;> (try simp [B_iff,B_not] at c7))
 | (refine Qe (id:=0) (Qw (ι:=Nat) (fun k:Nat=>⟨(upd (upd (fun _=>.any) 0 (li cI xs)) 3 (.int .i64 k)),fun _=>none⟩) (fun k=>k ≤ xs.length ∧ AllTill (fun i=>0 ≤ nth xs i ∧ nth xs i ≤ 3) k) (fun k=>xs.length - k) (0) ?_ ?_ ?_);exact ⟨Nat.zero_le _,.zero _⟩;((repeat' (first | exact Qg (by assumption) | exact Qi | refine Qf ?_ ?_ | refine Qh ?_)) <;> simp [-zg,-zd,↓Qb,↓Qa,go_sem]);rintro k ⟨hk,ht⟩)
 | (refine ⟨k + 1,⟨by omega,ht.succ (by omega)⟩,by first | omega | (simp;done) | (simp;omega),?_⟩;((repeat' (first | exact Qg (by assumption) | exact Qi | refine Qf ?_ ?_ | refine Qh ?_)) <;> simp [-zg,-zd,↓Qb,↓Qa,go_sem]))
 | (refine Qe ?_)
 | (refine Qs ?_;simp [-zg,-zd,↓Qb,↓Qa,go_sem])
 | (refine Qr ?_;simp [-zg,-zd,↓Qb,↓Qa,go_sem])
 | (refine Qq ?_;simp [-zg,-zd,↓Qb,↓Qa,go_sem,Tryz.results175])
 | (intro hx;refine zA ?_)
 | (refine ⟨?_,?_⟩ <;> refine zA ?_)
 | (intro hx;constructor <;> intro hs)
 | (constructor <;> intro hs)
 | (refine ⟨?_,fun hs=>?_⟩;refine zA ?_)
 | (refine ⟨fun hs=>?_,?_⟩;rotate_left;refine zA ?_;rotate_left)
 | (refine Qj ?_;simp [-zg,-zd,↓Qb,↓Qa,go_sem];try first | (refine ⟨?_,?_⟩ <;> refine zA ?_) | (refine ⟨fun cz=>?_,fun cz=>?_⟩ <;> (try simp [B_iff,B_not] at cz)))
 | (refine Qc Γ23_ok [] (by kernel_rfl) ?_;simp [-zg,-zd,↓Qb,↓Qa,go_sem])
 | fail))
  all_goals (first
 | (rintro ⟨_,h⟩;have:=h k c7;omega)
 | (rw [Bool.eq_iff_iff,B_iff,decide_eq_true_eq];exact ⟨fun h=>⟨by omega,fun i hi=>ht i (by omega)⟩,fun h=>by have:=h.1;omega⟩)
 | skip)
@[go_sem] def zakk:Con:=.pure fun
  | [.list n_xs c_xs]=>((Is cI n_xs c_xs),.bool (B (ValsOk (de cI c_xs))))
  | _=>(False,.any)
theorem zatg:ConOk Tryz.prog 175 zakk:=by
  refine ⟨Qo Tryz.func175 (by decide) rfl,fun args h=>?_⟩
  revert h
  dsimp only
  split
  · intro h
    obtain ⟨xs,rfl,rfl⟩:=h
    try simp only [Qm] at *
    exact ⟨l1Vals_pure xs,by simp [go_sem]⟩
  · intro h
    exact h.elim
@[go_sem] def Γ24:FuncId → Con:=ext Γ23 175 zakk
theorem Γ24_ok:∀ g,ConOk Tryz.prog g (Γ24 g):=Qn Γ23_ok zatg

theorem l4In_pure (xs:List Int) (n:Int)  : Pure Tryz.prog 173 [li cI xs,.int .i64 n] (.bool (B (n ∈ xs))):=by
  refine Pure.of_walk Tryz.func173 rfl (by simp [Tryz.f173]) (by simp [-zd,go_sem]) fun B hK=>?_
  (repeat' (first
 | refine Qt ?_
 | (refine Jb 0 rfl fun hm=>?_);refine Qc (id:=0) Γ24_ok [] (by kernel_rfl) ?_;simp [-zg,-zd,↓Qb,↓Qa,go_sem]
 | refine Qc (id:=4) Γ24_ok [] (by kernel_rfl) ?_;simp [-zg,-zd,↓Qb,↓Qa,go_sem,c9,Qk c9,zsP c9]
 | refine Qc (id:=3) Γ24_ok [] (by kernel_rfl) ?_;simp [-zg,-zd,↓Qb,↓Qa,go_sem,wrapS (k:=k) (by omega)]
 | refine Qj (c:=.tmp 9) ?_;simp [-zg,-zd,↓Qb,↓Qa,go_sem];try first | (refine ⟨?_,?_⟩ <;> refine zA ?_) | (refine ⟨fun c9=>?_,fun c9=>?_⟩ <;> (try simp [B_iff,B_not] at c9))
 | (refine Qe (id:=0) (Qw (ι:=Nat) (fun k:Nat=>⟨(upd (upd (upd (fun _=>.any) 0 (li cI xs)) 1 (.int .i64 n)) 5 (.int .i64 k)),fun _=>none⟩) (fun k=>k ≤ xs.length ∧ AllTill (fun i=>¬ nth xs i = n) k) (fun k=>xs.length - k) (0) ?_ ?_ ?_);exact ⟨Nat.zero_le _,.zero _⟩;((repeat' (first | exact Qg (by assumption) | exact Qi | refine Qf ?_ ?_ | refine Qh ?_)) <;> simp [-zg,-zd,↓Qb,↓Qa,go_sem]);rintro k ⟨hk,ht⟩)
 | (refine ⟨k + 1,⟨by omega,ht.succ (by omega)⟩,by first | omega | (simp;done) | (simp;omega),?_⟩;((repeat' (first | exact Qg (by assumption) | exact Qi | refine Qf ?_ ?_ | refine Qh ?_)) <;> simp [-zg,-zd,↓Qb,↓Qa,go_sem]))
 | (refine Qe ?_)
 | (refine Qs ?_;simp [-zg,-zd,↓Qb,↓Qa,go_sem])
 | (refine Qr ?_;simp [-zg,-zd,↓Qb,↓Qa,go_sem])
 | (refine Qq ?_;simp [-zg,-zd,↓Qb,↓Qa,go_sem,Tryz.results173])
 | (intro hx;refine zA ?_)
 | (refine ⟨?_,?_⟩ <;> refine zA ?_)
 | (intro hx;constructor <;> intro hs)
 | (constructor <;> intro hs)
 | (refine ⟨?_,fun hs=>?_⟩;refine zA ?_)
 | (refine ⟨fun hs=>?_,?_⟩;rotate_left;refine zA ?_;rotate_left)
 | (refine Qj ?_;simp [-zg,-zd,↓Qb,↓Qa,go_sem];try first | (refine ⟨?_,?_⟩ <;> refine zA ?_) | (refine ⟨fun cz=>?_,fun cz=>?_⟩ <;> (try simp [B_iff,B_not] at cz)))
 | (refine Qc Γ24_ok [] (by kernel_rfl) ?_;simp [-zg,-zd,↓Qb,↓Qa,go_sem])
 | fail))
  all_goals (first
 | (rw [zaqb];exact ⟨k,c9,by omega⟩)
 | (rw [zaqb];rintro ⟨i,h1,h2⟩;exact ht i (by omega) h2)
 | skip)
@[go_sem] def zard:Con:=.pure fun
  | [.list n_xs c_xs,.int .i64 n]=>((Is cI n_xs c_xs),.bool (B (n ∈ (de cI c_xs))))
  | _=>(False,.any)
theorem l4In_pureC_ok:ConOk Tryz.prog 173 zard:=by
  refine ⟨Qo Tryz.func173 (by decide) rfl,fun args h=>?_⟩
  revert h
  dsimp only
  split
  · intro h
    obtain ⟨xs,rfl,rfl⟩:=h
    try simp only [Qm] at *
    exact ⟨l4In_pure xs _,by simp [go_sem]⟩
  · intro h
    exact h.elim
@[go_sem] def Γ25:FuncId → Con:=ext Γ24 173 zard
theorem Γ25_ok:∀ g,ConOk Tryz.prog g (Γ25 g):=Qn Γ24_ok l4In_pureC_ok

@[go_sem] def Γ26:FuncId → Con:=Γ25
theorem Γ26_ok:∀ g,ConOk Tryz.prog g (Γ26 g):=Γ25_ok

@[go_sem] def Γ27:FuncId → Con:=Γ26
theorem Γ27_ok:∀ g,ConOk Tryz.prog g (Γ27 g):=Γ26_ok

@[go_sem] def Γ28:FuncId → Con:=Γ27
theorem Γ28_ok:∀ g,ConOk Tryz.prog g (Γ28 g):=Γ27_ok

@[go_sem] def Γ29:FuncId → Con:=Γ28
theorem Γ29_ok:∀ g,ConOk Tryz.prog g (Γ29 g):=Γ28_ok

@[go_sem] def Γ30:FuncId → Con:=Γ29
theorem Γ30_ok:∀ g,ConOk Tryz.prog g (Γ30 g):=Γ29_ok

@[go_sem] def Γ31:FuncId → Con:=Γ30
theorem Γ31_ok:∀ g,ConOk Tryz.prog g (Γ31 g):=Γ30_ok

@[go_sem] def Γ32:FuncId → Con:=Γ31
theorem Γ32_ok:∀ g,ConOk Tryz.prog g (Γ32 g):=Γ31_ok

@[go_sem] def Γ33:FuncId → Con:=Γ32
theorem Γ33_ok:∀ g,ConOk Tryz.prog g (Γ33 g):=Γ32_ok

@[go_sem] def Γ34:FuncId → Con:=Γ33
theorem Γ34_ok:∀ g,ConOk Tryz.prog g (Γ34 g):=Γ33_ok

@[go_sem] def Γ35:FuncId → Con:=Γ34
theorem Γ35_ok:∀ g,ConOk Tryz.prog g (Γ35 g):=Γ34_ok
@[go_sem] def Γ36:FuncId → Con:=Γ35
theorem Γ36_ok:∀ g,ConOk Tryz.prog g (Γ36 g):=Γ35_ok

@[go_sem] def Γ37:FuncId → Con:=Γ36
theorem Γ37_ok:∀ g,ConOk Tryz.prog g (Γ37 g):=Γ36_ok

@[go_sem] def Γ38:FuncId → Con:=Γ37
theorem Γ38_ok:∀ g,ConOk Tryz.prog g (Γ38 g):=Γ37_ok

@[go_sem] def Γ39:FuncId → Con:=Γ38
theorem Wj:∀ g,ConOk Tryz.prog g (Γ39 g):=Γ38_ok

def NextTill (xs:List Int) (n k:Nat):Prop:=AllTill (fun i=>0 ≤ nth xs i ∧ nth xs i < n ∧ ¬ nth xs i ∈ xs.take i) k
theorem NextTill.dist {xs:List Int} {n k:Nat} (h:NextTill xs n k) (hk:xs.length ≤ k):Dist xs n:=fun i hi=>by obtain ⟨h1,h2,h3⟩:=h i (by omega);exact ⟨h1,by omega,h3⟩
theorem Dist.at {xs:List Int} {n:Nat} (h:Dist xs n) {k:Nat} (hk:k < xs.length):0 ≤ nth xs k ∧ nth xs k < n ∧ ¬ nth xs k ∈ xs.take k:=by obtain ⟨h1,h2,h3⟩:=h k hk;exact ⟨h1,by omega,h3⟩
def StateOk (a:List Ints2) (b:List (List Int)) (i:Nat):Prop:=1 ≤ (nth b i).length ∧ ValsOk (nth a i).2 ∧ Dist (nth b i) a.length
set_option maxHeartbeats 2000000 in

theorem zakv (a:List Ints2) (b:List (List Int))  : Pure Tryz.prog 131 [.st [li cP a,li cL b]] (.bool (B (GraphOk a b))):=by
  refine Pure.of_walk Tryz.func131 rfl (by simp [Tryz.f131]) (by simp [-zd,go_sem]) fun B hK=>?_
  (repeat' (first
 | refine Qt ?_
 | refine Qc (id:=0) Wj [] (by kernel_rfl) ?_;simp [-zg,-zd,↓Qb,↓Qa,go_sem];try (refine Xh hK 1 ?_;simp [go_sem])
 | refine Qc (id:=1) Wj [9,15] (by kernel_rfl) ?_;simp [-zg,-zd,↓Qb,↓Qa,go_sem];try (refine ⟨fun s1a=>?_,fun s1a=>?_⟩ <;> (try simp [B_iff,B_not] at s1a) <;> try (refine ⟨fun s1b=>?_,fun s1b=>?_⟩ <;> (try simp [B_iff,B_not] at s1b) <;> try (refine ⟨fun s1c=>?_,fun s1c=>?_⟩ <;> (try simp [B_iff,B_not] at s1c))))
 | (have ci:i < a.length:=(by omega));refine Xn (id:=6) Wj mixed [38,50] [1] (by kernel_rfl) (by kernel_rfl) ?_ ?_ <;> simp [-zg,-zd,↓Qb,↓Qa,go_sem,c28,Qk c28,zsP c28,ci,Qk ci,zsP ci];try (refine ⟨fun s6a=>?_,fun s6a=>?_⟩ <;> (try simp [B_iff,B_not] at s6a) <;> try (refine ⟨fun s6b=>?_,fun s6b=>?_⟩ <;> (try simp [B_iff,B_not] at s6b) <;> try (refine ⟨fun s6c=>?_,fun s6c=>?_⟩ <;> (try simp [B_iff,B_not] at s6c))))
 | refine Qc (id:=9) Wj [] (by kernel_rfl) ?_;simp [-zg,-zd,↓Qb,↓Qa,go_sem,c28,Qk c28,zsP c28]
 | refine Xn (id:=11) Wj mixed [79,93] [1,3,4] (by kernel_rfl) (by kernel_rfl) ?_ ?_ <;> simp [-zg,-zd,↓Qb,↓Qa,go_sem,c28,Qk c28,zsP c28,c67,Qk c67,zsP c67,Nat.le_of_lt c67];try (refine ⟨fun s11a=>?_,fun s11a=>?_⟩ <;> (try simp [B_iff,B_not] at s11a) <;> try (refine ⟨fun s11b=>?_,fun s11b=>?_⟩ <;> (try simp [B_iff,B_not] at s11b) <;> try (refine ⟨fun s11c=>?_,fun s11c=>?_⟩ <;> (try simp [B_iff,B_not] at s11c))))
 | refine Qc (id:=10) Wj [] (by kernel_rfl) ?_;simp [-zg,-zd,↓Qb,↓Qa,go_sem,wrapS (k:=k) (by omega)]
 | refine Qc (id:=5) Wj [] (by kernel_rfl) ?_;simp [-zg,-zd,↓Qb,↓Qa,go_sem,wrapS (k:=i) (by omega)]
 | refine Qj (c:=.tmp 28) ?_;simp [-zg,-zd,↓Qb,↓Qa,go_sem];try first | (refine ⟨?_,?_⟩ <;> refine zA ?_) | (refine ⟨fun c28=>?_,fun c28=>?_⟩ <;> (try simp [B_iff,B_not] at c28))
 | refine Qj (c:=.tmp 59) ?_;simp [-zg,-zd,↓Qb,↓Qa,go_sem];try first | (refine ⟨?_,?_⟩ <;> refine zA ?_) | (refine ⟨fun c59=>?_,fun c59=>?_⟩ <;> (try simp [B_iff,B_not] at c59))
 | refine Qj (c:=.tmp 67) ?_;simp [-zg,-zd,↓Qb,↓Qa,go_sem];try first | (refine ⟨?_,?_⟩ <;> refine zA ?_) | (refine ⟨fun c67=>?_,fun c67=>?_⟩ <;> (try simp [B_iff,B_not] at c67))
 | refine Qj (c:=.tmp 110) ?_;simp [-zg,-zd,↓Qb,↓Qa,go_sem];try first | (refine ⟨?_,?_⟩ <;> refine zA ?_) | (refine ⟨fun c110=>?_,fun c110=>?_⟩ <;> (try simp [B_iff,B_not] at c110))
 | (refine Qe (id:=0) (Qw (ι:=Nat) (fun i:Nat=>⟨(upd (upd (fun _=>.any) 1 (.pd [li cP a,li cL b])) 3 (.int .i64 i)),fun _=>none⟩) (fun i=>i ≤ b.length ∧ AllTill (StateOk a b) i) (fun i=>b.length - i) (0) ?_ ?_ ?_);exact ⟨Nat.zero_le _,.zero _⟩;((repeat' (first | exact Qg (by assumption) | exact Qi | refine Qf ?_ ?_ | refine Qh ?_)) <;> simp [-zg,-zd,↓Qb,↓Qa,go_sem]);rintro i ⟨hi,hu⟩)
 | (refine ⟨i + 1,⟨by omega,hu.succ ⟨by omega,c59,ht.dist (by omega)⟩⟩,by first | omega | (simp;done) | (simp;omega),?_⟩;((repeat' (first | exact Qg (by assumption) | exact Qi | refine Qf ?_ ?_ | refine Qh ?_)) <;> simp [-zg,-zd,↓Qb,↓Qa,go_sem]))
 | (refine Qe (id:=2) (Qw (ι:=Nat) (fun k:Nat=>⟨(upd (upd (upd (fun _=>.any) 1 (.pd [li cP a,li cL b])) 3 (.int .i64 i)) 4 (.int .i64 k)),fun _=>none⟩) (fun k=>k ≤ (nth b i).length ∧ NextTill (nth b i) a.length k) (fun k=>(nth b i).length - k) (0) ?_ ?_ ?_);exact ⟨Nat.zero_le _,.zero _⟩;((repeat' (first | exact Qg (by assumption) | exact Qi | refine Qf ?_ ?_ | refine Qh ?_)) <;> simp [-zg,-zd,↓Qb,↓Qa,go_sem]);rintro k ⟨hk,ht⟩)
 | (refine ⟨k + 1,⟨by omega,ht.succ ⟨by omega,by omega,c110⟩⟩,by first | omega | (simp;done) | (simp;omega),?_⟩;((repeat' (first | exact Qg (by assumption) | exact Qi | refine Qf ?_ ?_ | refine Qh ?_)) <;> simp [-zg,-zd,↓Qb,↓Qa,go_sem]))
 | (refine Qe ?_)
 | (refine Qs ?_;simp [-zg,-zd,↓Qb,↓Qa,go_sem])
 | (refine Qr ?_;simp [-zg,-zd,↓Qb,↓Qa,go_sem])
 | (refine Qq ?_;simp [-zg,-zd,↓Qb,↓Qa,go_sem,Tryz.results131])
 | (intro hx;refine zA ?_)
 | (refine ⟨?_,?_⟩ <;> refine zA ?_)
 | (intro hx;constructor <;> intro hs)
 | (constructor <;> intro hs)
 | (refine ⟨?_,fun hs=>?_⟩;refine zA ?_)
 | (refine ⟨fun hs=>?_,?_⟩;rotate_left;refine zA ?_;rotate_left)
 | (refine Qj ?_;simp [-zg,-zd,↓Qb,↓Qa,go_sem];try first | (refine ⟨?_,?_⟩ <;> refine zA ?_) | (refine ⟨fun cz=>?_,fun cz=>?_⟩ <;> (try simp [B_iff,B_not] at cz)))
 | (refine Qc Wj [] (by kernel_rfl) ?_;simp [-zg,-zd,↓Qb,↓Qa,go_sem])
 | fail))
  all_goals (first
 | (rintro ⟨g1,g2,g3,g4,g5⟩;omega)
 | (rintro ⟨g1,g2,g3,g4,g5⟩;obtain ⟨q1,q2⟩:=g5 i c28;have q3:=q2.len;omega)
 | (rintro ⟨g1,g2,g3,g4,g5⟩;exact c59 (g4 i ci))
 | (rintro ⟨g1,g2,g3,g4,g5⟩;obtain ⟨q1,q2⟩:=g5 i c28;obtain ⟨r1,r2,r3⟩:=q2.at c67;omega)
 | (rintro ⟨g1,g2,g3,g4,g5⟩;obtain ⟨q1,q2⟩:=g5 i c28;obtain ⟨r1,r2,r3⟩:=q2.at c67;exact r3 c110)
 | exact ⟨by omega,by omega,by omega,fun j hj=>(hu j (by omega)).2.1,fun j hj=>⟨(hu j (by omega)).1,(hu j (by omega)).2.2⟩⟩
 | skip)
@[go_sem] def zacb:Con:=.pure fun
  | [.st [.list n_a c_a,.list n_b c_b]]=>((Is cP n_a c_a) ∧ (Is cL n_b c_b),.bool (B (GraphOk (de cP c_a) (de cL c_b))))
  | _=>(False,.any)
theorem zahs:ConOk Tryz.prog 131 zacb:=by
  refine ⟨Qo Tryz.func131 (by decide) rfl,fun args h=>?_⟩
  revert h
  dsimp only
  split
  · intro h
    obtain ⟨⟨a,rfl,rfl⟩,⟨b,rfl,rfl⟩⟩:=h
    try simp only [Qm] at *
    exact ⟨zakv a b,by simp [go_sem]⟩
  · intro h
    exact h.elim
@[go_sem] def Γ40:FuncId → Con:=ext Γ39 131 zacb
theorem Γ40_ok:∀ g,ConOk Tryz.prog g (Γ40 g):=Qn Wj zahs


@[go_sem] def Γ41:FuncId → Con:=Γ40
theorem Γ41_ok:∀ g,ConOk Tryz.prog g (Γ41 g):=Γ40_ok

@[go_sem] def Γ42:FuncId → Con:=Γ41
theorem Γ42_ok:∀ g,ConOk Tryz.prog g (Γ42 g):=Γ41_ok

@[go_sem] def Γ43:FuncId → Con:=Γ42
theorem Γ43_ok:∀ g,ConOk Tryz.prog g (Γ43 g):=Γ42_ok

@[go_sem] def Γ44:FuncId → Con:=Γ43
theorem Γ44_ok:∀ g,ConOk Tryz.prog g (Γ44 g):=Γ43_ok

@[go_sem] def Γ45:FuncId → Con:=Γ44
theorem Γ45_ok:∀ g,ConOk Tryz.prog g (Γ45 g):=Γ44_ok

@[go_sem] def Γ46:FuncId → Con:=Γ45
theorem Γ46_ok:∀ g,ConOk Tryz.prog g (Γ46 g):=Γ45_ok

@[go_sem] theorem makeD_two (x:D):makeD [x] 2 = [x,x]:=by rw [Zs];rfl
@[go_sem] theorem is_two (a b:List Int) {n m:Nat} (h1:n = a.length) (h2:m = b.length):Is cL 2 [.list n (cat cI a),.list m (cat cI b)] = True:=by subst h1 h2;exact eq_true ⟨[a,b],rfl,rfl⟩
@[go_sem] theorem de_two (a b:List Int) {n m:Nat} (h1:n = a.length) (h2:m = b.length):de cL [.list n (cat cI a),.list m (cat cI b)] = [a,b]:=by
  subst h1 h2
  have:=Qm (f:=cL) [a,b];exact this
@[go_sem] def Γ47:FuncId → Con:=Γ46
theorem Γ47_ok:∀ g,ConOk Tryz.prog g (Γ47 g):=Γ46_ok

@[go_sem] def Γ48:FuncId → Con:=Γ47
theorem Γ48_ok:∀ g,ConOk Tryz.prog g (Γ48 g):=Γ47_ok


@[go_sem] def Γ49:FuncId → Con:=Γ48
theorem Γ49_ok:∀ g,ConOk Tryz.prog g (Γ49 g):=Γ48_ok

@[go_sem] def Γ50:FuncId → Con:=Γ49
theorem Γ50_ok:∀ g,ConOk Tryz.prog g (Γ50 g):=Γ49_ok
end
end Go.Proofs.YtiilmjojffjhlaaGreatDoor.Vm

