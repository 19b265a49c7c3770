import Derived.Test.YtmiimodggpjkmaaCat
/-
  Lists of numbers: the walks of the functions of the law's own kit. No conditions.
-/
namespace Go.Proofs.Ytmiimodggpjkmaa.Vm
open Go
open Nat renaming sub_pos_of_lt → zsP
open List renaming getD_eq_getElem?_getD → zg,drop_one → zd
noncomputable section
set_option linter.unusedVariables false
set_option linter.unusedSimpArgs false
set_option maxRecDepth 200000

def NoneTill (p:Nat → Bool) (k:Nat):Prop:=∀ i,i < k → p i = false
theorem NoneTill.zero (p:Nat → Bool):NoneTill p 0:=fun _ h=>absurd h (by omega)
theorem NoneTill.succ {p:Nat → Bool} {k:Nat} (h:NoneTill p k) (e:p k = false):NoneTill p (k + 1):=fun i hi=>by
  rcases Nat.lt_or_ge i k with h1 | h1
  · exact h i h1
  · obtain rfl:i = k:=by omega
    exact e
def neAt {α:Type} [DecidableEq α] [Inhabited α] (xs ys:List α) (i:Nat):Bool:=!decide (nth xs i = nth ys i)
theorem zafl {α:Type} [DecidableEq α] [Inhabited α] {xs ys:List α} {k:Nat} (hl:xs.length = ys.length) (h:NoneTill (neAt xs ys) k) (hk:xs.length ≤ k):xs = ys:=by
  apply List.ext_getElem hl
  intro i h1 h2
  have:=h i (by omega)
  simp [neAt,Qv h1,Qv h2] at this
  exact this
theorem in_pure (n:Int) (lo:Int) (hi:Int)  : Pure Try.prog 50 [.int .i64 n,.int .i64 lo,.int .i64 hi] (.bool (decide (lo ≤ n) && decide (n ≤ hi))):=by
  refine Pure.of_walk Try.func50 rfl (by simp [Try.f50]) (by simp [-zd,go_sem]) fun B hK=>?_
  (repeat' (first
 | refine Qs ?_
 | refine Qc (id:=0) Γ0_ok [] (by kernel_rfl) ?_;simp [-zg,-zd,↓Qb,↓Qa,go_sem]
 | refine Qc (id:=1) Γ0_ok [10] (by kernel_rfl) ?_;simp [-zg,-zd,↓Qb,↓Qa,go_sem];try (refine ⟨fun s1a=>?_,fun s1a=>?_⟩ <;> (try simp [B_iff,B_not] at s1a) <;> try (refine ⟨fun s1b=>?_,fun s1b=>?_⟩ <;> (try simp [B_iff,B_not] at s1b)))
 | (refine Qe ?_)
 | (refine Qr ?_;simp [-zg,-zd,↓Qb,↓Qa,go_sem])
 | (refine Qq ?_;simp [-zg,-zd,↓Qb,↓Qa,go_sem])
 | (refine Qp ?_;simp [-zg,-zd,↓Qb,↓Qa,go_sem,Try.results50])
 | (intro hx;refine zA ?_)
 | (refine ⟨?_,?_⟩ <;> refine zA ?_)
 | (intro hx;constructor <;> intro hs)
 | (constructor <;> intro hs)
 | (refine ⟨?_,fun hs=>?_⟩;refine zA ?_)
 | (refine ⟨fun hs=>?_,?_⟩;rotate_left;refine zA ?_;rotate_left)))
  all_goals (first
 | (intros;omega)
 | skip)
@[go_sem] def in_pureC:Con:=.pure fun
  | [.int .i64 n,.int .i64 lo,.int .i64 hi]=>(True,.bool (decide (lo ≤ n) && decide (n ≤ hi)))
  | _=>(False,.any)
theorem in_pureC_ok:ConOk Try.prog 50 in_pureC:=by
  refine ⟨Qn Try.func50 (by decide) rfl,fun args h=>?_⟩
  revert h
  dsimp only
  split
  · intro h
    skip
    skip
    exact ⟨in_pure _ _ _,by simp [go_sem]⟩
  · intro h
    exact h.elim
@[go_sem] def Γin:FuncId → Con:=ext Γ0 50 in_pureC
theorem Γin_ok:∀ g,ConOk Try.prog g (Γin g):=Qm Γ0_ok in_pureC_ok

@[go_sem] def Γ1:FuncId → Con:=Γin
theorem Γ1_ok:∀ g,ConOk Try.prog g (Γ1 g):=Γin_ok

theorem eqIntS_pure (xs:List Int) (ys:List Int)  : Pure Try.prog 18 [li cI xs,li cI ys] (.bool (decide (xs = ys))):=by
  refine Pure.of_walk Try.func18 rfl (by simp [Try.f18]) (by simp [-zd,go_sem]) fun B hK=>?_
  (repeat' (first
 | refine Qs ?_
 | (refine Zn 0 rfl fun hm=>?_);refine Qc (id:=0) Γ1_ok [] (by kernel_rfl) ?_;simp [-zg,-zd,↓Qb,↓Qa,go_sem]
 | refine Qc (id:=1) Γ1_ok [] (by kernel_rfl) ?_;simp [-zg,-zd,↓Qb,↓Qa,go_sem]
 | refine Qc (id:=2) Γ1_ok [] (by kernel_rfl) ?_;simp [-zg,-zd,↓Qb,↓Qa,go_sem]
 | refine Qc (id:=3) Γ1_ok [] (by kernel_rfl) ?_;simp [-zg,-zd,↓Qb,↓Qa,go_sem]
 | refine Qc (id:=4) Γ1_ok [] (by kernel_rfl) ?_;simp [-zg,-zd,↓Qb,↓Qa,go_sem]
 | (have cy:k < ys.length:=by omega);refine Xm (id:=6) Γ1_ok mixed [] [5] (by kernel_rfl) (by kernel_rfl) (by simp [-zg,-zd,↓Qb,↓Qa,go_sem,c14,Qg c14,zsP c14,cy,Qg cy,zsP cy]) ?_;simp [-zg,-zd,↓Qb,↓Qa,go_sem,c14,Qg c14,zsP c14,cy,Qg cy,zsP cy]
 | refine Qc (id:=7) Γ1_ok [] (by kernel_rfl) ?_;simp [-zg,-zd,↓Qb,↓Qa,go_sem]
 | refine Qc (id:=5) Γ1_ok [] (by kernel_rfl) ?_;simp [-zg,-zd,↓Qb,↓Qa,go_sem,wrapS (k:=k) (by omega)]
 | refine Qc (id:=8) Γ1_ok [] (by kernel_rfl) ?_;simp [-zg,-zd,↓Qb,↓Qa,go_sem]
 | refine Qd (c:=.tmp 10) ?_;simp [-zg,-zd,↓Qb,↓Qa,go_sem];try first | (refine ⟨?_,?_⟩ <;> refine zA ?_) | (refine ⟨fun c10=>?_,fun c10=>?_⟩ <;> (try simp [B_iff,B_not] at c10))
 | refine Qd (c:=.tmp 14) ?_;simp [-zg,-zd,↓Qb,↓Qa,go_sem];try first | (refine ⟨?_,?_⟩ <;> refine zA ?_) | (refine ⟨fun c14=>?_,fun c14=>?_⟩ <;> (try simp [B_iff,B_not] at c14))
 | refine Qd (c:=.tmp 25) ?_;simp [-zg,-zd,↓Qb,↓Qa,go_sem];try first | (refine ⟨?_,?_⟩ <;> refine zA ?_) | (refine ⟨fun c25=>?_,fun c25=>?_⟩ <;> (try simp [B_iff,B_not] at c25))
 | (refine Qe (id:=0) (Qy (ι:=Nat) (fun k:Nat=>⟨(upd (upd (upd (fun _=>.any) 0 (li cI xs)) 1 (li cI ys)) 5 (.int .i64 k)),fun _=>none⟩) (fun k=>k ≤ xs.length ∧ NoneTill (neAt xs ys) k) (fun k=>xs.length - k) (0) ?_ ?_ ?_);exact ⟨Nat.zero_le _,.zero _⟩;((repeat' (first | exact Qh (by assumption) | exact Qj | refine Qk ?_ ?_ | refine Qi ?_)) <;> simp [-zg,-zd,↓Qb,↓Qa,go_sem]);rintro k ⟨hk,ht⟩)
 | (refine ⟨k + 1,⟨by omega,ht.succ (by simp [neAt,c25])⟩,by first | omega | (simp;done) | (simp;omega),?_⟩;((repeat' (first | exact Qh (by assumption) | exact Qj | refine Qk ?_ ?_ | refine Qi ?_)) <;> simp [-zg,-zd,↓Qb,↓Qa,go_sem]))
 | (refine Qe ?_)
 | (refine Qr ?_;simp [-zg,-zd,↓Qb,↓Qa,go_sem])
 | (refine Qq ?_;simp [-zg,-zd,↓Qb,↓Qa,go_sem])
 | (refine Qp ?_;simp [-zg,-zd,↓Qb,↓Qa,go_sem,Try.results18])
 | (intro hx;refine zA ?_)
 | (refine ⟨?_,?_⟩ <;> refine zA ?_)
 | (intro hx;constructor <;> intro hs)
 | (constructor <;> intro hs)
 | (refine ⟨?_,fun hs=>?_⟩;refine zA ?_)
 | (refine ⟨fun hs=>?_,?_⟩;rotate_left;refine zA ?_;rotate_left)))
  all_goals (first
 | (rintro rfl;simp at c10;done)
 | (rintro rfl;exact c25 rfl)
 | exact zafl (by omega) ht (by omega)
 | skip)
@[go_sem] def zahi:Con:=.pure fun
  | [.list n_xs c_xs,.list n_ys c_ys]=>((Is cI n_xs c_xs) ∧ (Is cI n_ys c_ys),.bool (decide ((de cI c_xs) = (de cI c_ys))))
  | _=>(False,.any)
theorem zaon:ConOk Try.prog 18 zahi:=by
  refine ⟨Qn Try.func18 (by decide) rfl,fun args h=>?_⟩
  revert h
  dsimp only
  split
  · intro h
    obtain ⟨⟨xs,rfl,rfl⟩,⟨ys,rfl,rfl⟩⟩:=h
    try simp only [Qo] at *
    exact ⟨eqIntS_pure xs ys,by simp [go_sem]⟩
  · intro h
    exact h.elim
@[go_sem] def Γ2:FuncId → Con:=ext Γ1 18 zahi
theorem Γ2_ok:∀ g,ConOk Try.prog g (Γ2 g):=Qm Γ1_ok zaon

@[go_sem] def Γ3:FuncId → Con:=Γ2
theorem Γ3_ok:∀ g,ConOk Try.prog g (Γ3 g):=Γ2_ok

def msum {α:Type} (m:α → Nat) (xs:List α) (k:Nat):Nat:=((xs.take k).map m).sum
section
variable {α:Type} {m:α → Nat}
@[go_sem] theorem zakw (xs:List α):msum m xs 0 = 0:=by simp [msum]
theorem zakx [Inhabited α] {xs:List α} {k:Nat} (h:k < xs.length):msum m xs (k + 1) = msum m xs k + m (nth xs k):=by
  unfold msum
  rw [List.take_succ_eq_append_getElem h,List.map_append,List.sum_append,Qv h]
  simp
theorem msum_mono {xs:List α} {k j:Nat} (h:k ≤ j):msum m xs k ≤ msum m xs j:=by
  have e:xs.take j = xs.take k ++ (xs.take j).drop k:=by
    have:=List.take_append_drop k (xs.take j)
    rw [List.take_take,Nat.min_eq_left h] at this
    exact this.symm
  unfold msum
  rw [e,List.map_append,List.sum_append]
  omega
theorem msum_at [Inhabited α] {xs:List α} {k:Nat} (h:k < xs.length):m (nth xs k) ≤ msum m xs xs.length:=by
  have:=zakx (m:=m) h
  have:=msum_mono (m:=m) (xs:=xs) (show k + 1 ≤ xs.length from h)
  omega
end
def mP (s:Ints2):Nat:=s.1.length + s.2.length
def mL (s:List Int):Nat:=s.length

def AllTill (p:Nat → Prop) (k:Nat):Prop:=∀ i,i < k → p i
theorem AllTill.zero (p:Nat → Prop):AllTill p 0:=fun _ h=>absurd h (by omega)
theorem AllTill.succ {p:Nat → Prop} {k:Nat} (h:AllTill p k) (e:p k):AllTill p (k + 1):=fun i hi=>by
  rcases Nat.lt_or_ge i k with h1 | h1
  · exact h i h1
  · obtain rfl:i = k:=by omega
    exact e
def findI {α:Type} (p:α → Bool) (xs:List α):Int:=match xs.findIdx? p with
  | some i=>i
  | none=>-1
section
variable {α:Type} [Inhabited α] {p:α → Bool} {xs:List α} {k:Nat}
theorem zajq (h:NoneTill (fun i=>p (nth xs i)) k) (hk:k < xs.length) (e:p (nth xs k) = true):findI p xs = k:=by
  unfold findI
  have:xs.findIdx? p = some k:=by
    rw [List.findIdx?_eq_some_iff_getElem]
    refine ⟨hk,by rw [← Qv hk];exact e,fun j hj=>?_⟩
    have:=h j hj
    dsimp only at this
    rw [Qv (by omega)] at this
    simpa using this
  rw [this]
theorem zafj (h:NoneTill (fun i=>p (nth xs i)) k) (hk:xs.length ≤ k):findI p xs = -1:=by
  unfold findI
  have:xs.findIdx? p = none:=by
    rw [List.findIdx?_eq_none_iff]
    intro x hx
    obtain ⟨i,hi,rfl⟩:=List.getElem_of_mem hx
    have:=h i (by omega)
    dsimp only at this
    rw [Qv hi] at this
    simpa using this
  rw [this]
theorem findI_ge:(0 ≤ findI p xs) = (∃ i,i < xs.length ∧ p (nth xs i) = true):=by
  rw [eq_iff_iff]
  constructor
  · intro h
    unfold findI at h
    split at h
    · rename_i i hi
      rw [List.findIdx?_eq_some_iff_getElem] at hi
      obtain ⟨h1,h2,_⟩:=hi
      exact ⟨i,h1,by rw [Qv h1];exact h2⟩
    · omega
  · rintro ⟨i,h1,h2⟩
    unfold findI
    split
    · omega
    · rename_i h
      rw [List.findIdx?_eq_none_iff] at h
      have:=h _ (Xs h1)
      rw [h2] at this;cases this
theorem Zs {x:α}:(x ∈ xs) = (∃ i,i < xs.length ∧ nth xs i = x):=by
  rw [eq_iff_iff]
  constructor
  · intro h
    obtain ⟨i,hi,rfl⟩:=List.getElem_of_mem h
    exact ⟨i,hi,Qv hi⟩
  · rintro ⟨i,hi,rfl⟩;exact Xs hi
theorem Jo {j:Nat} (h:j < k):nth (xs.take k) j = nth xs j:=by simp [nth,List.getD_eq_getElem?_getD,List.getElem?_take,h]
end


@[go_sem] def Γ4:FuncId → Con:=Γ3
theorem Γ4_ok:∀ g,ConOk Try.prog g (Γ4 g):=Γ3_ok

@[go_sem] def Γ5:FuncId → Con:=Γ4
theorem Γ5_ok:∀ g,ConOk Try.prog g (Γ5 g):=Γ4_ok

@[go_sem] def Γ6:FuncId → Con:=Γ5
theorem Γ6_ok:∀ g,ConOk Try.prog g (Γ6 g):=Γ5_ok

@[go_sem] def Γ7:FuncId → Con:=Γ6
theorem Γ7_ok:∀ g,ConOk Try.prog g (Γ7 g):=Γ6_ok

@[go_sem] def Γ8:FuncId → Con:=Γ7
theorem Γ8_ok:∀ g,ConOk Try.prog g (Γ8 g):=Γ7_ok

@[go_sem] def Γ9:FuncId → Con:=Γ8
theorem Γ9_ok:∀ g,ConOk Try.prog g (Γ9 g):=Γ8_ok

@[go_sem] def Γ10:FuncId → Con:=Γ9
theorem Γ10_ok:∀ g,ConOk Try.prog g (Γ10 g):=Γ9_ok

@[go_sem] def Γ11:FuncId → Con:=Γ10
theorem Γ11_ok:∀ g,ConOk Try.prog g (Γ11 g):=Γ10_ok

@[go_sem] def Γ12:FuncId → Con:=Γ11
theorem Vu:∀ g,ConOk Try.prog g (Γ12 g):=Γ11_ok


theorem l2Ints_pure (xs:List Int) (ys:List Int)  : Pure Try.prog 115 [li cI xs,li cI ys] (.bool (decide (xs = ys))):=by
  refine Pure.of_walk Try.func115 rfl (by simp [Try.f115]) (by simp [-zd,go_sem]) fun B hK=>?_
  (repeat' (first
 | refine Qs ?_
 | (refine Zn 0 rfl fun hm=>?_);refine Qc (id:=0) Vu [] (by kernel_rfl) ?_;simp [-zg,-zd,↓Qb,↓Qa,go_sem]
 | refine Qc (id:=1) Vu [] (by kernel_rfl) ?_;simp [-zg,-zd,↓Qb,↓Qa,go_sem]
 | refine Qc (id:=2) Vu [] (by kernel_rfl) ?_;simp [-zg,-zd,↓Qb,↓Qa,go_sem]
 | refine Qc (id:=3) Vu [] (by kernel_rfl) ?_;simp [-zg,-zd,↓Qb,↓Qa,go_sem]
 | refine Qc (id:=4) Vu [] (by kernel_rfl) ?_;simp [-zg,-zd,↓Qb,↓Qa,go_sem]
 | (have cy:k < ys.length:=by omega);refine Xm (id:=6) Vu mixed [] [5] (by kernel_rfl) (by kernel_rfl) (by simp [-zg,-zd,↓Qb,↓Qa,go_sem,c14,Qg c14,zsP c14,cy,Qg cy,zsP cy]) ?_;simp [-zg,-zd,↓Qb,↓Qa,go_sem,c14,Qg c14,zsP c14,cy,Qg cy,zsP cy]
 | refine Qc (id:=7) Vu [] (by kernel_rfl) ?_;simp [-zg,-zd,↓Qb,↓Qa,go_sem]
 | refine Qc (id:=5) Vu [] (by kernel_rfl) ?_;simp [-zg,-zd,↓Qb,↓Qa,go_sem,wrapS (k:=k) (by omega)]
 | refine Qc (id:=8) Vu [] (by kernel_rfl) ?_;simp [-zg,-zd,↓Qb,↓Qa,go_sem]
 | refine Qd (c:=.tmp 10) ?_;simp [-zg,-zd,↓Qb,↓Qa,go_sem];try first | (refine ⟨?_,?_⟩ <;> refine zA ?_) | (refine ⟨fun c10=>?_,fun c10=>?_⟩ <;> (try simp [B_iff,B_not] at c10))
 | refine Qd (c:=.tmp 14) ?_;simp [-zg,-zd,↓Qb,↓Qa,go_sem];try first | (refine ⟨?_,?_⟩ <;> refine zA ?_) | (refine ⟨fun c14=>?_,fun c14=>?_⟩ <;> (try simp [B_iff,B_not] at c14))
 | refine Qd (c:=.tmp 25) ?_;simp [-zg,-zd,↓Qb,↓Qa,go_sem];try first | (refine ⟨?_,?_⟩ <;> refine zA ?_) | (refine ⟨fun c25=>?_,fun c25=>?_⟩ <;> (try simp [B_iff,B_not] at c25))
 | (refine Qe (id:=0) (Qy (ι:=Nat) (fun k:Nat=>⟨(upd (upd (upd (fun _=>.any) 0 (li cI xs)) 1 (li cI ys)) 5 (.int .i64 k)),fun _=>none⟩) (fun k=>k ≤ xs.length ∧ NoneTill (neAt xs ys) k) (fun k=>xs.length - k) (0) ?_ ?_ ?_);exact ⟨Nat.zero_le _,.zero _⟩;((repeat' (first | exact Qh (by assumption) | exact Qj | refine Qk ?_ ?_ | refine Qi ?_)) <;> simp [-zg,-zd,↓Qb,↓Qa,go_sem]);rintro k ⟨hk,ht⟩)
 | (refine ⟨k + 1,⟨by omega,ht.succ (by simp [neAt];first | exact c25 | (apply Prod.ext <;> simp_all;done) | (simp_all [Prod.ext_iff];done) | simp_all)⟩,by first | omega | (simp;done) | (simp;omega),?_⟩;((repeat' (first | exact Qh (by assumption) | exact Qj | refine Qk ?_ ?_ | refine Qi ?_)) <;> simp [-zg,-zd,↓Qb,↓Qa,go_sem]))
 | (refine Qe ?_)
 | (refine Qr ?_;simp [-zg,-zd,↓Qb,↓Qa,go_sem])
 | (refine Qq ?_;simp [-zg,-zd,↓Qb,↓Qa,go_sem])
 | (refine Qp ?_;simp [-zg,-zd,↓Qb,↓Qa,go_sem,Try.results115])
 | (intro hx;refine zA ?_)
 | (refine ⟨?_,?_⟩ <;> refine zA ?_)
 | (intro hx;constructor <;> intro hs)
 | (constructor <;> intro hs)
 | (refine ⟨?_,fun hs=>?_⟩;refine zA ?_)
 | (refine ⟨fun hs=>?_,?_⟩;rotate_left;refine zA ?_;rotate_left)))
  all_goals (first
 | (rintro rfl;simp at c10;done)
 | (rintro rfl;simp at c25;done)
 | exact zafl (by omega) ht (by omega)
 | skip)
@[go_sem] def zagw:Con:=.pure fun
  | [.list n_xs c_xs,.list n_ys c_ys]=>((Is cI n_xs c_xs) ∧ (Is cI n_ys c_ys),.bool (decide ((de cI c_xs) = (de cI c_ys))))
  | _=>(False,.any)
theorem zaof:ConOk Try.prog 115 zagw:=by
  refine ⟨Qn Try.func115 (by decide) rfl,fun args h=>?_⟩
  revert h
  dsimp only
  split
  · intro h
    obtain ⟨⟨xs,rfl,rfl⟩,⟨ys,rfl,rfl⟩⟩:=h
    try simp only [Qo] at *
    exact ⟨l2Ints_pure xs ys,by simp [go_sem]⟩
  · intro h
    exact h.elim
@[go_sem] def Γ13:FuncId → Con:=ext Γ12 115 zagw
theorem Vd:∀ g,ConOk Try.prog g (Γ13 g):=Qm Vu zaof

theorem zaln (xs:List Int) (ys:List Int)  : Pure Try.prog 49 [li cI xs,li cI ys] (.bool (decide (xs = ys))):=by
  refine Pure.of_walk Try.func49 rfl (by simp [Try.f49]) (by simp [-zd,go_sem]) fun B hK=>?_
  (repeat' (first
 | refine Qs ?_
 | (refine Zn 0 rfl fun hm=>?_);refine Qc (id:=0) Vd [] (by kernel_rfl) ?_;simp [-zg,-zd,↓Qb,↓Qa,go_sem]
 | refine Qc (id:=1) Vd [] (by kernel_rfl) ?_;simp [-zg,-zd,↓Qb,↓Qa,go_sem]
 | refine Qc (id:=2) Vd [] (by kernel_rfl) ?_;simp [-zg,-zd,↓Qb,↓Qa,go_sem]
 | refine Qc (id:=3) Vd [] (by kernel_rfl) ?_;simp [-zg,-zd,↓Qb,↓Qa,go_sem]
 | refine Qc (id:=4) Vd [] (by kernel_rfl) ?_;simp [-zg,-zd,↓Qb,↓Qa,go_sem]
 | refine Qc (id:=5) Vd [] (by kernel_rfl) ?_;simp [-zg,-zd,↓Qb,↓Qa,go_sem]
 | (have cy:k < ys.length:=by omega);refine Xm (id:=6) Vd mixed [] [5] (by kernel_rfl) (by kernel_rfl) (by simp [-zg,-zd,↓Qb,↓Qa,go_sem,c14,Qg c14,zsP c14,cy,Qg cy,zsP cy]) ?_;simp [-zg,-zd,↓Qb,↓Qa,go_sem,c14,Qg c14,zsP c14,cy,Qg cy,zsP cy]
 | refine Qc (id:=7) Vd [] (by kernel_rfl) ?_;simp [-zg,-zd,↓Qb,↓Qa,go_sem]
 | refine Qc (id:=8) Vd [] (by kernel_rfl) ?_;simp [-zg,-zd,↓Qb,↓Qa,go_sem,wrapS (k:=k) (by omega)]
 | refine Qc (id:=9) Vd [] (by kernel_rfl) ?_;simp [-zg,-zd,↓Qb,↓Qa,go_sem]
 | refine Qd (c:=.tmp 10) ?_;simp [-zg,-zd,↓Qb,↓Qa,go_sem];try first | (refine ⟨?_,?_⟩ <;> refine zA ?_) | (refine ⟨fun c10=>?_,fun c10=>?_⟩ <;> (try simp [B_iff,B_not] at c10))
 | refine Qd (c:=.tmp 14) ?_;simp [-zg,-zd,↓Qb,↓Qa,go_sem];try first | (refine ⟨?_,?_⟩ <;> refine zA ?_) | (refine ⟨fun c14=>?_,fun c14=>?_⟩ <;> (try simp [B_iff,B_not] at c14))
 | refine Qd (c:=.tmp 24) ?_;simp [-zg,-zd,↓Qb,↓Qa,go_sem];try first | (refine ⟨?_,?_⟩ <;> refine zA ?_) | (refine ⟨fun c24=>?_,fun c24=>?_⟩ <;> (try simp [B_iff,B_not] at c24))
 | (refine Qe (id:=0) (Qy (ι:=Nat) (fun k:Nat=>⟨(upd (upd (upd (upd (upd (fun _=>.any) 0 (li cI xs)) 1 (li cI ys)) 11 (li cI xs)) 12 (.int .i64 xs.length)) 13 (.int .i64 k)),fun _=>none⟩) (fun k=>k ≤ xs.length ∧ NoneTill (neAt xs ys) k) (fun k=>xs.length - k) (0) ?_ ?_ ?_);exact ⟨Nat.zero_le _,.zero _⟩;((repeat' (first | exact Qh (by assumption) | exact Qj | refine Qk ?_ ?_ | refine Qi ?_)) <;> simp [-zg,-zd,↓Qb,↓Qa,go_sem]);rintro k ⟨hk,ht⟩)
 | (refine ⟨k + 1,⟨by omega,ht.succ (by simp [neAt,c24])⟩,by first | omega | (simp;done) | (simp;omega),?_⟩;((repeat' (first | exact Qh (by assumption) | exact Qj | refine Qk ?_ ?_ | refine Qi ?_)) <;> simp [-zg,-zd,↓Qb,↓Qa,go_sem]))
 | (refine Qe ?_)
 | (refine Qr ?_;simp [-zg,-zd,↓Qb,↓Qa,go_sem])
 | (refine Qq ?_;simp [-zg,-zd,↓Qb,↓Qa,go_sem])
 | (refine Qp ?_;simp [-zg,-zd,↓Qb,↓Qa,go_sem,Try.results49])
 | (intro hx;refine zA ?_)
 | (refine ⟨?_,?_⟩ <;> refine zA ?_)
 | (intro hx;constructor <;> intro hs)
 | (constructor <;> intro hs)
 | (refine ⟨?_,fun hs=>?_⟩;refine zA ?_)
 | (refine ⟨fun hs=>?_,?_⟩;rotate_left;refine zA ?_;rotate_left)))
  all_goals (first
 | (rintro rfl;simp at c10;done)
 | (rintro rfl;exact c24 rfl)
 | exact zafl (by omega) ht (by omega)
 | skip)
@[go_sem] def zacq:Con:=.pure fun
  | [.list n_xs c_xs,.list n_ys c_ys]=>((Is cI n_xs c_xs) ∧ (Is cI n_ys c_ys),.bool (decide ((de cI c_xs) = (de cI c_ys))))
  | _=>(False,.any)
theorem zagr:ConOk Try.prog 49 zacq:=by
  refine ⟨Qn Try.func49 (by decide) rfl,fun args h=>?_⟩
  revert h
  dsimp only
  split
  · intro h
    obtain ⟨⟨xs,rfl,rfl⟩,⟨ys,rfl,rfl⟩⟩:=h
    try simp only [Qo] at *
    exact ⟨zaln xs ys,by simp [go_sem]⟩
  · intro h
    exact h.elim
@[go_sem] def Γ14:FuncId → Con:=ext Γ13 49 zacq
theorem Γ14_ok:∀ g,ConOk Try.prog g (Γ14 g):=Qm Vd zagr

theorem zaiu (a:List Int) (b:List Int) (c:List Int) (d:List Int)  : Pure Try.prog 200 [.st [li cI a,li cI b],.st [li cI c,li cI d]] (.bool (decide (a = c) && decide (b = d))):=by
  refine Pure.of_walk Try.func200 rfl (by simp [Try.f200]) (by simp [-zd,go_sem]) fun B hK=>?_
  (repeat' (first
 | refine Qs ?_
 | refine Qc (id:=0) Γ14_ok [] (by kernel_rfl) ?_;simp [-zg,-zd,↓Qb,↓Qa,go_sem];try (refine Xb hK 2 ?_;simp [go_sem];refine Xb hK 3 ?_;simp [go_sem])
 | refine Qc (id:=1) Γ14_ok [10] (by kernel_rfl) ?_;simp [-zg,-zd,↓Qb,↓Qa,go_sem];try (refine ⟨fun s1a=>?_,fun s1a=>?_⟩ <;> (try simp [B_iff,B_not] at s1a) <;> try (refine ⟨fun s1b=>?_,fun s1b=>?_⟩ <;> (try simp [B_iff,B_not] at s1b)))
 | (refine Qe ?_)
 | (refine Qr ?_;simp [-zg,-zd,↓Qb,↓Qa,go_sem])
 | (refine Qq ?_;simp [-zg,-zd,↓Qb,↓Qa,go_sem])
 | (refine Qp ?_;simp [-zg,-zd,↓Qb,↓Qa,go_sem,Try.results200])
 | (intro hx;refine zA ?_)
 | (refine ⟨?_,?_⟩ <;> refine zA ?_)
 | (intro hx;constructor <;> intro hs)
 | (constructor <;> intro hs)
 | (refine ⟨?_,fun hs=>?_⟩;refine zA ?_)
 | (refine ⟨fun hs=>?_,?_⟩;rotate_left;refine zA ?_;rotate_left)))
  all_goals (first
 | (simp_all;done)
 | (intros;simp_all;done)
 | skip)
@[go_sem] def zabr:Con:=.pure fun
  | [.st [.list n_a c_a,.list n_b c_b],.st [.list n_c c_c,.list n_d c_d]]=>((Is cI n_a c_a) ∧ (Is cI n_b c_b) ∧ (Is cI n_c c_c) ∧ (Is cI n_d c_d),.bool (decide ((de cI c_a) = (de cI c_c)) && decide ((de cI c_b) = (de cI c_d))))
  | _=>(False,.any)
theorem zaey:ConOk Try.prog 200 zabr:=by
  refine ⟨Qn Try.func200 (by decide) rfl,fun args h=>?_⟩
  revert h
  dsimp only
  split
  · intro h
    obtain ⟨⟨a,rfl,rfl⟩,⟨b,rfl,rfl⟩,⟨c,rfl,rfl⟩,⟨d,rfl,rfl⟩⟩:=h
    try simp only [Qo] at *
    exact ⟨zaiu a b c d,by simp [go_sem]⟩
  · intro h
    exact h.elim
@[go_sem] def Γ15:FuncId → Con:=ext Γ14 200 zabr
theorem Γ15_ok:∀ g,ConOk Try.prog g (Γ15 g):=Qm Γ14_ok zaey

theorem zajn (a:List Int) (b:List Int) (c:List Int) (d:List Int)  : Pure Try.prog 11 [.st [li cI a,li cI b],.st [li cI c,li cI d]] (.bool (decide (a = c) && decide (b = d))):=by
  refine Pure.of_walk Try.func11 rfl (by simp [Try.f11]) (by simp [-zd,go_sem]) fun B hK=>?_
  (repeat' (first
 | refine Qs ?_
 | refine Qc (id:=0) Γ15_ok [] (by kernel_rfl) ?_;simp [-zg,-zd,↓Qb,↓Qa,go_sem];try (refine Xb hK 2 ?_;simp [go_sem];refine Xb hK 3 ?_;simp [go_sem])
 | refine Qc (id:=1) Γ15_ok [10] (by kernel_rfl) ?_;simp [-zg,-zd,↓Qb,↓Qa,go_sem];try (refine ⟨fun s1a=>?_,fun s1a=>?_⟩ <;> (try simp [B_iff,B_not] at s1a) <;> try (refine ⟨fun s1b=>?_,fun s1b=>?_⟩ <;> (try simp [B_iff,B_not] at s1b)))
 | (refine Qe ?_)
 | (refine Qr ?_;simp [-zg,-zd,↓Qb,↓Qa,go_sem])
 | (refine Qq ?_;simp [-zg,-zd,↓Qb,↓Qa,go_sem])
 | (refine Qp ?_;simp [-zg,-zd,↓Qb,↓Qa,go_sem,Try.results11])
 | (intro hx;refine zA ?_)
 | (refine ⟨?_,?_⟩ <;> refine zA ?_)
 | (intro hx;constructor <;> intro hs)
 | (constructor <;> intro hs)
 | (refine ⟨?_,fun hs=>?_⟩;refine zA ?_)
 | (refine ⟨fun hs=>?_,?_⟩;rotate_left;refine zA ?_;rotate_left)))
  all_goals (first
 | (simp_all;done)
 | (intros;simp_all;done)
 | skip)
@[go_sem] def zabt:Con:=.pure fun
  | [.st [.list n_a c_a,.list n_b c_b],.st [.list n_c c_c,.list n_d c_d]]=>((Is cI n_a c_a) ∧ (Is cI n_b c_b) ∧ (Is cI n_c c_c) ∧ (Is cI n_d c_d),.bool (decide ((de cI c_a) = (de cI c_c)) && decide ((de cI c_b) = (de cI c_d))))
  | _=>(False,.any)
theorem zafh:ConOk Try.prog 11 zabt:=by
  refine ⟨Qn Try.func11 (by decide) rfl,fun args h=>?_⟩
  revert h
  dsimp only
  split
  · intro h
    obtain ⟨⟨a,rfl,rfl⟩,⟨b,rfl,rfl⟩,⟨c,rfl,rfl⟩,⟨d,rfl,rfl⟩⟩:=h
    try simp only [Qo] at *
    exact ⟨zajn a b c d,by simp [go_sem]⟩
  · intro h
    exact h.elim
@[go_sem] def Γ16:FuncId → Con:=ext Γ15 11 zabt
theorem Jr:∀ g,ConOk Try.prog g (Γ16 g):=Qm Γ15_ok zafh

theorem zanh (xs:List Ints2) (ys:List Ints2)   : Pure Try.prog 47 [li cP xs,li cP ys,.fn 11 []] (.bool (decide (xs = ys))):=by
  refine Pure.of_walk Try.func47 rfl (by simp [Try.f47]) (by simp [-zd,go_sem]) fun B hK=>?_
  (repeat' (first
 | refine Qs ?_
 | (refine Zn 0 rfl fun hm=>?_);refine Qc (id:=0) Jr [] (by kernel_rfl) ?_;simp [-zg,-zd,↓Qb,↓Qa,go_sem]
 | refine Qc (id:=1) Jr [] (by kernel_rfl) ?_;simp [-zg,-zd,↓Qb,↓Qa,go_sem]
 | refine Qc (id:=2) Jr [] (by kernel_rfl) ?_;simp [-zg,-zd,↓Qb,↓Qa,go_sem]
 | refine Qc (id:=3) Jr [] (by kernel_rfl) ?_;simp [-zg,-zd,↓Qb,↓Qa,go_sem]
 | refine Qc (id:=4) Jr [] (by kernel_rfl) ?_;simp [-zg,-zd,↓Qb,↓Qa,go_sem]
 | refine Qc (id:=5) Jr [] (by kernel_rfl) ?_;simp [-zg,-zd,↓Qb,↓Qa,go_sem,c18,Qg c18,zsP c18];try (try (refine Xb hK 8 ?_;simp [go_sem]))
 | (have cy:k < ys.length:=by omega);refine Qc (id:=6) Jr [] (by kernel_rfl) ?_;simp [-zg,-zd,↓Qb,↓Qa,go_sem,cy,Qg cy,zsP cy];try (try (refine Xb hK 9 ?_;simp [go_sem]))
 | refine Qc (id:=7) Jr [] (by kernel_rfl) ?_;simp [-zg,-zd,↓Qb,↓Qa,go_sem]
 | refine Qc (id:=8) Jr [] (by kernel_rfl) ?_;simp [-zg,-zd,↓Qb,↓Qa,go_sem]
 | refine Qc (id:=9) Jr [] (by kernel_rfl) ?_;simp [-zg,-zd,↓Qb,↓Qa,go_sem,wrapS (k:=k) (by omega)]
 | refine Qc (id:=10) Jr [] (by kernel_rfl) ?_;simp [-zg,-zd,↓Qb,↓Qa,go_sem]
 | refine Qd (c:=.tmp 14) ?_;simp [-zg,-zd,↓Qb,↓Qa,go_sem];try first | (refine ⟨?_,?_⟩ <;> refine zA ?_) | (refine ⟨fun c14=>?_,fun c14=>?_⟩ <;> (try simp [B_iff,B_not] at c14))
 | refine Qd (c:=.tmp 18) ?_;simp [-zg,-zd,↓Qb,↓Qa,go_sem];try first | (refine ⟨?_,?_⟩ <;> refine zA ?_) | (refine ⟨fun c18=>?_,fun c18=>?_⟩ <;> (try simp [B_iff,B_not] at c18))
 | refine Qd (c:=.tmp 30) ?_;simp [-zg,-zd,↓Qb,↓Qa,go_sem];try first | (refine ⟨?_,?_⟩ <;> refine zA ?_) | (refine ⟨fun c30=>?_,fun c30=>?_⟩ <;> (try simp [B_iff,B_not] at c30))
 | (refine Qe (id:=0) (Qy (ι:=Nat) (fun k:Nat=>⟨(upd (upd (upd (upd (upd (upd (fun _=>.any) 0 (li cP xs)) 1 (li cP ys)) 2 (.fn 11 [])) 15 (li cP xs)) 16 (.int .i64 xs.length)) 17 (.int .i64 k)),fun _=>none⟩) (fun k=>k ≤ xs.length ∧ NoneTill (neAt xs ys) k) (fun k=>xs.length - k) (0) ?_ ?_ ?_);exact ⟨Nat.zero_le _,.zero _⟩;((repeat' (first | exact Qh (by assumption) | exact Qj | refine Qk ?_ ?_ | refine Qi ?_)) <;> simp [-zg,-zd,↓Qb,↓Qa,go_sem]);rintro k ⟨hk,ht⟩)
 | (refine ⟨k + 1,⟨by omega,ht.succ (by simp [neAt];first | exact c30 | (apply Prod.ext <;> simp_all;done) | simp_all)⟩,by first | omega | (simp;done) | (simp;omega),?_⟩;((repeat' (first | exact Qh (by assumption) | exact Qj | refine Qk ?_ ?_ | refine Qi ?_)) <;> simp [-zg,-zd,↓Qb,↓Qa,go_sem]))
 | (refine Qe ?_)
 | (refine Qr ?_;simp [-zg,-zd,↓Qb,↓Qa,go_sem])
 | (refine Qq ?_;simp [-zg,-zd,↓Qb,↓Qa,go_sem])
 | (refine Qp ?_;simp [-zg,-zd,↓Qb,↓Qa,go_sem,Try.results47])
 | (intro hx;refine zA ?_)
 | (refine ⟨?_,?_⟩ <;> refine zA ?_)
 | (intro hx;constructor <;> intro hs)
 | (constructor <;> intro hs)
 | (refine ⟨?_,fun hs=>?_⟩;refine zA ?_)
 | (refine ⟨fun hs=>?_,?_⟩;rotate_left;refine zA ?_;rotate_left)))
  all_goals (first
 | (rintro rfl;simp at c14;done)
 | (rintro rfl;simp at c30;done)
 | exact zafl (by omega) ht (by omega)
 | skip)
@[go_sem] def zacu:Con:=.pure fun
  | [.list n_xs c_xs,.list n_ys c_ys,.fn 11 []]=>((Is cP n_xs c_xs) ∧ (Is cP n_ys c_ys),.bool (decide ((de cP c_xs) = (de cP c_ys))))
  | _=>(False,.any)
theorem zahj:ConOk Try.prog 47 zacu:=by
  refine ⟨Qn Try.func47 (by decide) rfl,fun args h=>?_⟩
  revert h
  dsimp only
  split
  · intro h
    obtain ⟨⟨xs,rfl,rfl⟩,⟨ys,rfl,rfl⟩⟩:=h
    try simp only [Qo] at *
    exact ⟨zanh xs ys ,by simp [go_sem]⟩
  · intro h
    exact h.elim
@[go_sem] def Γ17:FuncId → Con:=ext Γ16 47 zacu
theorem Jq:∀ g,ConOk Try.prog g (Γ17 g):=Qm Jr zahj

theorem zaoo (xs:List (List Int)) (ys:List (List Int))   : Pure Try.prog 48 [li cL xs,li cL ys,.fn 49 []] (.bool (decide (xs = ys))):=by
  refine Pure.of_walk Try.func48 rfl (by simp [Try.f48]) (by simp [-zd,go_sem]) fun B hK=>?_
  (repeat' (first
 | refine Qs ?_
 | (refine Zn 0 rfl fun hm=>?_);refine Qc (id:=0) Jq [] (by kernel_rfl) ?_;simp [-zg,-zd,↓Qb,↓Qa,go_sem]
 | refine Qc (id:=1) Jq [] (by kernel_rfl) ?_;simp [-zg,-zd,↓Qb,↓Qa,go_sem]
 | refine Qc (id:=2) Jq [] (by kernel_rfl) ?_;simp [-zg,-zd,↓Qb,↓Qa,go_sem]
 | refine Qc (id:=3) Jq [] (by kernel_rfl) ?_;simp [-zg,-zd,↓Qb,↓Qa,go_sem]
 | refine Qc (id:=4) Jq [] (by kernel_rfl) ?_;simp [-zg,-zd,↓Qb,↓Qa,go_sem]
 | refine Qc (id:=5) Jq [] (by kernel_rfl) ?_;simp [-zg,-zd,↓Qb,↓Qa,go_sem,c18,Qg c18,zsP c18];try (try (refine Xb hK 8 ?_;simp [go_sem]))
 | (have cy:k < ys.length:=by omega);refine Qc (id:=6) Jq [] (by kernel_rfl) ?_;simp [-zg,-zd,↓Qb,↓Qa,go_sem,cy,Qg cy,zsP cy];try (try (refine Xb hK 9 ?_;simp [go_sem]))
 | refine Qc (id:=7) Jq [] (by kernel_rfl) ?_;simp [-zg,-zd,↓Qb,↓Qa,go_sem]
 | refine Qc (id:=8) Jq [] (by kernel_rfl) ?_;simp [-zg,-zd,↓Qb,↓Qa,go_sem]
 | refine Qc (id:=9) Jq [] (by kernel_rfl) ?_;simp [-zg,-zd,↓Qb,↓Qa,go_sem,wrapS (k:=k) (by omega)]
 | refine Qc (id:=10) Jq [] (by kernel_rfl) ?_;simp [-zg,-zd,↓Qb,↓Qa,go_sem]
 | refine Qd (c:=.tmp 14) ?_;simp [-zg,-zd,↓Qb,↓Qa,go_sem];try first | (refine ⟨?_,?_⟩ <;> refine zA ?_) | (refine ⟨fun c14=>?_,fun c14=>?_⟩ <;> (try simp [B_iff,B_not] at c14))
 | refine Qd (c:=.tmp 18) ?_;simp [-zg,-zd,↓Qb,↓Qa,go_sem];try first | (refine ⟨?_,?_⟩ <;> refine zA ?_) | (refine ⟨fun c18=>?_,fun c18=>?_⟩ <;> (try simp [B_iff,B_not] at c18))
 | refine Qd (c:=.tmp 30) ?_;simp [-zg,-zd,↓Qb,↓Qa,go_sem];try first | (refine ⟨?_,?_⟩ <;> refine zA ?_) | (refine ⟨fun c30=>?_,fun c30=>?_⟩ <;> (try simp [B_iff,B_not] at c30))
 | (refine Qe (id:=0) (Qy (ι:=Nat) (fun k:Nat=>⟨(upd (upd (upd (upd (upd (upd (fun _=>.any) 0 (li cL xs)) 1 (li cL ys)) 2 (.fn 49 [])) 15 (li cL xs)) 16 (.int .i64 xs.length)) 17 (.int .i64 k)),fun _=>none⟩) (fun k=>k ≤ xs.length ∧ NoneTill (neAt xs ys) k) (fun k=>xs.length - k) (0) ?_ ?_ ?_);exact ⟨Nat.zero_le _,.zero _⟩;((repeat' (first | exact Qh (by assumption) | exact Qj | refine Qk ?_ ?_ | refine Qi ?_)) <;> simp [-zg,-zd,↓Qb,↓Qa,go_sem]);rintro k ⟨hk,ht⟩)
 | (refine ⟨k + 1,⟨by omega,ht.succ (by simp [neAt];first | exact c30 | (apply Prod.ext <;> simp_all;done) | simp_all)⟩,by first | omega | (simp;done) | (simp;omega),?_⟩;((repeat' (first | exact Qh (by assumption) | exact Qj | refine Qk ?_ ?_ | refine Qi ?_)) <;> simp [-zg,-zd,↓Qb,↓Qa,go_sem]))
 | (refine Qe ?_)
 | (refine Qr ?_;simp [-zg,-zd,↓Qb,↓Qa,go_sem])
 | (refine Qq ?_;simp [-zg,-zd,↓Qb,↓Qa,go_sem])
 | (refine Qp ?_;simp [-zg,-zd,↓Qb,↓Qa,go_sem,Try.results48])
 | (intro hx;refine zA ?_)
 | (refine ⟨?_,?_⟩ <;> refine zA ?_)
 | (intro hx;constructor <;> intro hs)
 | (constructor <;> intro hs)
 | (refine ⟨?_,fun hs=>?_⟩;refine zA ?_)
 | (refine ⟨fun hs=>?_,?_⟩;rotate_left;refine zA ?_;rotate_left)))
  all_goals (first
 | (rintro rfl;simp at c14;done)
 | (rintro rfl;simp at c30;done)
 | exact zafl (by omega) ht (by omega)
 | skip)
@[go_sem] def zadj:Con:=.pure fun
  | [.list n_xs c_xs,.list n_ys c_ys,.fn 49 []]=>((Is cL n_xs c_xs) ∧ (Is cL n_ys c_ys),.bool (decide ((de cL c_xs) = (de cL c_ys))))
  | _=>(False,.any)
theorem zaik:ConOk Try.prog 48 zadj:=by
  refine ⟨Qn Try.func48 (by decide) rfl,fun args h=>?_⟩
  revert h
  dsimp only
  split
  · intro h
    obtain ⟨⟨xs,rfl,rfl⟩,⟨ys,rfl,rfl⟩⟩:=h
    try simp only [Qo] at *
    exact ⟨zaoo xs ys ,by simp [go_sem]⟩
  · intro h
    exact h.elim
@[go_sem] def Γ18:FuncId → Con:=ext Γ17 48 zadj
theorem Γ18_ok:∀ g,ConOk Try.prog g (Γ18 g):=Qm Jq zaik

@[go_sem] def Γ19:FuncId → Con:=Γ18
theorem Γ19_ok:∀ g,ConOk Try.prog g (Γ19 g):=Γ18_ok

@[go_sem] def Γ20:FuncId → Con:=Γ19
theorem Γ20_ok:∀ g,ConOk Try.prog g (Γ20 g):=Γ19_ok

@[go_sem] def Γ21:FuncId → Con:=Γ20
theorem Γ21_ok:∀ g,ConOk Try.prog g (Γ21 g):=Γ20_ok

theorem zajo (a:List Ints2) (b:List (List Int)) (c:List Ints2) (d:List (List Int))  : Pure Try.prog 10 [.st [li cP a,li cL b],.st [li cP c,li cL d]] (.bool (decide (a = c) && decide (b = d))):=by
  refine Pure.of_walk Try.func10 rfl (by simp [Try.f10]) (by simp [-zd,go_sem]) fun B hK=>?_
  (repeat' (first
 | refine Qs ?_
 | refine Qc (id:=0) Γ21_ok [] (by kernel_rfl) ?_;simp [-zg,-zd,↓Qb,↓Qa,go_sem];try (refine Xb hK 2 ?_;simp [go_sem];refine Xb hK 3 ?_;simp [go_sem])
 | refine Qc (id:=1) Γ21_ok [10] (by kernel_rfl) ?_;simp [-zg,-zd,↓Qb,↓Qa,go_sem];try (refine ⟨fun s1a=>?_,fun s1a=>?_⟩ <;> (try simp [B_iff,B_not] at s1a) <;> try (refine ⟨fun s1b=>?_,fun s1b=>?_⟩ <;> (try simp [B_iff,B_not] at s1b)))
 | (refine Qe ?_)
 | (refine Qr ?_;simp [-zg,-zd,↓Qb,↓Qa,go_sem])
 | (refine Qq ?_;simp [-zg,-zd,↓Qb,↓Qa,go_sem])
 | (refine Qp ?_;simp [-zg,-zd,↓Qb,↓Qa,go_sem,Try.results10])
 | (intro hx;refine zA ?_)
 | (refine ⟨?_,?_⟩ <;> refine zA ?_)
 | (intro hx;constructor <;> intro hs)
 | (constructor <;> intro hs)
 | (refine ⟨?_,fun hs=>?_⟩;refine zA ?_)
 | (refine ⟨fun hs=>?_,?_⟩;rotate_left;refine zA ?_;rotate_left)))
  all_goals (first
 | (simp_all;done)
 | (intros;simp_all;done)
 | skip)
@[go_sem] def zabu:Con:=.pure fun
  | [.st [.list n_a c_a,.list n_b c_b],.st [.list n_c c_c,.list n_d c_d]]=>((Is cP n_a c_a) ∧ (Is cL n_b c_b) ∧ (Is cP n_c c_c) ∧ (Is cL n_d c_d),.bool (decide ((de cP c_a) = (de cP c_c)) && decide ((de cL c_b) = (de cL c_d))))
  | _=>(False,.any)
theorem zafi:ConOk Try.prog 10 zabu:=by
  refine ⟨Qn Try.func10 (by decide) rfl,fun args h=>?_⟩
  revert h
  dsimp only
  split
  · intro h
    obtain ⟨⟨a,rfl,rfl⟩,⟨b,rfl,rfl⟩,⟨c,rfl,rfl⟩,⟨d,rfl,rfl⟩⟩:=h
    try simp only [Qo] at *
    exact ⟨zajo a b c d,by simp [go_sem]⟩
  · intro h
    exact h.elim
@[go_sem] def Γ22:FuncId → Con:=ext Γ21 10 zabu
theorem Γ22_ok:∀ g,ConOk Try.prog g (Γ22 g):=Qm Γ21_ok zafi

@[go_sem] def Γ23:FuncId → Con:=Γ22
theorem Xo:∀ g,ConOk Try.prog g (Γ23 g):=Γ22_ok
end
end Go.Proofs.Ytmiimodggpjkmaa.Vm

