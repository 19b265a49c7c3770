import Derived.Test.YtmiimodggpjkmaaCat
/-
  Lists of numbers: the walks of the functions of the law's own kit. No conditions.
-/
namespace Go.Proofs.Ytmiimodggpjkmaa.Vm
open Go
open Nat renaming sub_pos_of_lt → zsP
open List renaming getD_eq_getElem?_getD → zg,drop_one → zd,replicate → zrP
noncomputable section
set_option linter.unusedVariables false
set_option linter.unusedSimpArgs false
set_option maxRecDepth 200000

def NoneTill (p:Nat → Bool) (k:Nat):Prop:=∀ i,i < k → p i = false
theorem NoneTill.zero (p:Nat → Bool):NoneTill p 0:=fun _ h=>absurd h (by omega)
theorem NoneTill.succ {p:Nat → Bool} {k:Nat} (h:NoneTill p k) (e:p k = false):NoneTill p (k + 1):=fun i hi=>by
  rcases Nat.lt_or_ge i k with h1 | h1
  · exact h i h1
  · obtain rfl:i = k:=by omega
    exact e
def neAt {α:Type} [DecidableEq α] [Inhabited α] (xs ys:List α) (i:Nat):Bool:=!decide (nth xs i = nth ys i)
theorem zabd {α:Type} [DecidableEq α] [Inhabited α] {xs ys:List α} {k:Nat} (hl:xs.length = ys.length) (h:NoneTill (neAt xs ys) k) (hk:xs.length ≤ k):xs = ys:=by
  apply List.ext_getElem hl
  intro i h1 h2
  have:=h i (by omega)
  simp [neAt,Qw h1,Qw h2] at this
  exact this
def szOf (left:Int) (n:Nat):Int:=if (n:Int) ≤ left then left - n else -1
theorem szOf_no {left:Int} {n:Nat} (h:left < n):szOf left n = -1:=if_neg (by omega)
theorem szOf_yes {left:Int} {n:Nat} (h:(n:Int) ≤ left):szOf left n = left - n:=if_pos h
theorem wrap_sub {left:Int} {n:Nat} (h1:-1 ≤ left) (h2:left ≤ 1048576) (h3:n ≤ 9223372036854775807):IntKind.i64.wrap (left - n) = left - n:=Zx (by omega) (by omega)

theorem in_pure (n:Int) (lo:Int) (hi:Int)  : Pure Try.prog 50 [.int .i64 n,.int .i64 lo,.int .i64 hi] (.bool (decide (lo ≤ n) && decide (n ≤ hi))):=by
  refine Pure.of_walk Try.func50 rfl (by simp [Try.f50]) (by simp [-zd,go_sem]) fun B hK=>?_
  (repeat' (first
 | refine Qr ?_
 | refine Qc (id:=0) Γ0_ok [] (by kernel_rfl) ?_;simp [-zg,-zd,↓Qb,↓Qa,go_sem]
 | refine Qc (id:=1) Γ0_ok [10] (by kernel_rfl) ?_;simp [-zg,-zd,↓Qb,↓Qa,go_sem];try (refine ⟨fun s1a=>?_,fun s1a=>?_⟩ <;> (try simp [B_iff,B_not] at s1a) <;> try (refine ⟨fun s1b=>?_,fun s1b=>?_⟩ <;> (try simp [B_iff,B_not] at s1b)))
 | (refine Qf ?_)
 | (refine Qq ?_;simp [-zg,-zd,↓Qb,↓Qa,go_sem])
 | (refine Qp ?_;simp [-zg,-zd,↓Qb,↓Qa,go_sem])
 | (refine Qs ?_;simp [-zg,-zd,↓Qb,↓Qa,go_sem,Try.results50])
 | (intro hx;refine zA ?_)
 | (refine ⟨?_,?_⟩ <;> refine zA ?_)
 | (intro hx;constructor <;> intro hs)
 | (constructor <;> intro hs)
 | (refine ⟨?_,fun hs=>?_⟩;refine zA ?_)
 | (refine ⟨fun hs=>?_,?_⟩;rotate_left;refine zA ?_;rotate_left)))
  all_goals (first
 | (intros;omega)
 | skip)
@[go_sem] def in_pureC:Con:=.pure fun
  | [.int .i64 n,.int .i64 lo,.int .i64 hi]=>(True,.bool (decide (lo ≤ n) && decide (n ≤ hi)))
  | _=>(False,.any)
theorem in_pureC_ok:ConOk Try.prog 50 in_pureC:=by
  refine ⟨Qn Try.func50 (by decide) rfl,fun args h=>?_⟩
  revert h
  dsimp only
  split
  · intro h
    skip
    skip
    exact ⟨in_pure _ _ _,by simp [go_sem]⟩
  · intro h
    exact h.elim
@[go_sem] def Γin:FuncId → Con:=ext Γ0 50 in_pureC
theorem zahv:∀ g,ConOk Try.prog g (Γin g):=Qo Γ0_ok in_pureC_ok

theorem szIntS_pure (xs:List Int) (left:Int) (h0:-1 ≤ left) (h1:left ≤ 1048576):Pure Try.prog 67 [li cI xs,.int .i64 left] (.int .i64 (szOf left xs.length)):=by
  refine Pure.of_walk Try.func67 rfl (by simp [Try.f67]) (by simp [-zd,go_sem]) fun B hK=>?_
  (repeat' (first
 | refine Qr ?_
 | (refine Xr 0 rfl fun hm=>?_);refine Qc (id:=0) zahv [] (by kernel_rfl) ?_;simp [-zg,-zd,↓Qb,↓Qa,go_sem]
 | refine Qc (id:=1) zahv [] (by kernel_rfl) ?_;simp [-zg,-zd,↓Qb,↓Qa,go_sem,wrap_sub h0 h1 hm]
 | refine Qc (id:=2) zahv [] (by kernel_rfl) ?_;simp [-zg,-zd,↓Qb,↓Qa,go_sem]
 | refine Qc (id:=3) zahv [] (by kernel_rfl) ?_;simp [-zg,-zd,↓Qb,↓Qa,go_sem]
 | refine Qc (id:=4) zahv [] (by kernel_rfl) ?_;simp [-zg,-zd,↓Qb,↓Qa,go_sem]
 | refine Qe (c:=.tmp 10) ?_;simp [-zg,-zd,↓Qb,↓Qa,go_sem];try first | (refine ⟨?_,?_⟩ <;> refine zA ?_) | (refine ⟨fun c10=>?_,fun c10=>?_⟩ <;> (try simp [B_iff,B_not] at c10))
 | (refine Qf ?_)
 | (refine Qq ?_;simp [-zg,-zd,↓Qb,↓Qa,go_sem])
 | (refine Qp ?_;simp [-zg,-zd,↓Qb,↓Qa,go_sem])
 | (refine Qs ?_;simp [-zg,-zd,↓Qb,↓Qa,go_sem,Try.results67])
 | (intro hx;refine zA ?_)
 | (refine ⟨?_,?_⟩ <;> refine zA ?_)
 | (intro hx;constructor <;> intro hs)
 | (constructor <;> intro hs)
 | (refine ⟨?_,fun hs=>?_⟩;refine zA ?_)
 | (refine ⟨fun hs=>?_,?_⟩;rotate_left;refine zA ?_;rotate_left)))
  all_goals (first
 | rw [szOf_no (by omega)]
 | rw [szOf_yes (by omega)]
 | skip)
@[go_sem] def zacv:Con:=.pure fun
  | [.list n_xs c_xs,.int .i64 left]=>((Is cI n_xs c_xs) ∧ (-1 ≤ left) ∧ (left ≤ 1048576),.int .i64 (szOf left (de cI c_xs).length))
  | _=>(False,.any)
theorem zahi:ConOk Try.prog 67 zacv:=by
  refine ⟨Qn Try.func67 (by decide) rfl,fun args h=>?_⟩
  revert h
  dsimp only
  split
  · intro h
    obtain ⟨⟨xs,rfl,rfl⟩,h0,h1⟩:=h
    try simp only [Qt] at *
    exact ⟨szIntS_pure xs _ h0 h1,by simp [go_sem]⟩
  · intro h
    exact h.elim
@[go_sem] def Γ1:FuncId → Con:=ext Γin 67 zacv
theorem Γ1_ok:∀ g,ConOk Try.prog g (Γ1 g):=Qo zahv zahi

theorem eqIntS_pure (xs:List Int) (ys:List Int)  : Pure Try.prog 18 [li cI xs,li cI ys] (.bool (decide (xs = ys))):=by
  refine Pure.of_walk Try.func18 rfl (by simp [Try.f18]) (by simp [-zd,go_sem]) fun B hK=>?_
  (repeat' (first
 | refine Qr ?_
 | (refine Xr 0 rfl fun hm=>?_);refine Qc (id:=0) Γ1_ok [] (by kernel_rfl) ?_;simp [-zg,-zd,↓Qb,↓Qa,go_sem]
 | refine Qc (id:=1) Γ1_ok [] (by kernel_rfl) ?_;simp [-zg,-zd,↓Qb,↓Qa,go_sem]
 | refine Qc (id:=2) Γ1_ok [] (by kernel_rfl) ?_;simp [-zg,-zd,↓Qb,↓Qa,go_sem]
 | refine Qc (id:=3) Γ1_ok [] (by kernel_rfl) ?_;simp [-zg,-zd,↓Qb,↓Qa,go_sem]
 | refine Qc (id:=4) Γ1_ok [] (by kernel_rfl) ?_;simp [-zg,-zd,↓Qb,↓Qa,go_sem]
 | (have cy:k < ys.length:=by omega);refine Zg (id:=6) Γ1_ok mixed [] [5] (by kernel_rfl) (by kernel_rfl) (by simp [-zg,-zd,↓Qb,↓Qa,go_sem,c14,Qh c14,zsP c14,cy,Qh cy,zsP cy]) ?_;simp [-zg,-zd,↓Qb,↓Qa,go_sem,c14,Qh c14,zsP c14,cy,Qh cy,zsP cy]
 | refine Qc (id:=7) Γ1_ok [] (by kernel_rfl) ?_;simp [-zg,-zd,↓Qb,↓Qa,go_sem]
 | refine Qc (id:=5) Γ1_ok [] (by kernel_rfl) ?_;simp [-zg,-zd,↓Qb,↓Qa,go_sem,wrapS (k:=k) (by omega)]
 | refine Qc (id:=8) Γ1_ok [] (by kernel_rfl) ?_;simp [-zg,-zd,↓Qb,↓Qa,go_sem]
 | refine Qe (c:=.tmp 10) ?_;simp [-zg,-zd,↓Qb,↓Qa,go_sem];try first | (refine ⟨?_,?_⟩ <;> refine zA ?_) | (refine ⟨fun c10=>?_,fun c10=>?_⟩ <;> (try simp [B_iff,B_not] at c10))
 | refine Qe (c:=.tmp 14) ?_;simp [-zg,-zd,↓Qb,↓Qa,go_sem];try first | (refine ⟨?_,?_⟩ <;> refine zA ?_) | (refine ⟨fun c14=>?_,fun c14=>?_⟩ <;> (try simp [B_iff,B_not] at c14))
 | refine Qe (c:=.tmp 25) ?_;simp [-zg,-zd,↓Qb,↓Qa,go_sem];try first | (refine ⟨?_,?_⟩ <;> refine zA ?_) | (refine ⟨fun c25=>?_,fun c25=>?_⟩ <;> (try simp [B_iff,B_not] at c25))
 | (refine Qf (id:=0) (Xc (ι:=Nat) (fun k:Nat=>⟨(upd (upd (upd (fun _=>.any) 0 (li cI xs)) 1 (li cI ys)) 5 (.int .i64 k)),fun _=>none⟩) (fun k=>k ≤ xs.length ∧ NoneTill (neAt xs ys) k) (fun k=>xs.length - k) (0) ?_ ?_ ?_);exact ⟨Nat.zero_le _,.zero _⟩;((repeat' (first | exact Qi (by assumption) | exact Qk | refine Ql ?_ ?_ | refine Qj ?_)) <;> simp [-zg,-zd,↓Qb,↓Qa,go_sem]);rintro k ⟨hk,ht⟩)
 | (refine ⟨k + 1,⟨by omega,ht.succ (by simp [neAt,c25])⟩,by first | omega | (simp;done) | (simp;omega),?_⟩;((repeat' (first | exact Qi (by assumption) | exact Qk | refine Ql ?_ ?_ | refine Qj ?_)) <;> simp [-zg,-zd,↓Qb,↓Qa,go_sem]))
 | (refine Qf ?_)
 | (refine Qq ?_;simp [-zg,-zd,↓Qb,↓Qa,go_sem])
 | (refine Qp ?_;simp [-zg,-zd,↓Qb,↓Qa,go_sem])
 | (refine Qs ?_;simp [-zg,-zd,↓Qb,↓Qa,go_sem,Try.results18])
 | (intro hx;refine zA ?_)
 | (refine ⟨?_,?_⟩ <;> refine zA ?_)
 | (intro hx;constructor <;> intro hs)
 | (constructor <;> intro hs)
 | (refine ⟨?_,fun hs=>?_⟩;refine zA ?_)
 | (refine ⟨fun hs=>?_,?_⟩;rotate_left;refine zA ?_;rotate_left)))
  all_goals (first
 | (rintro rfl;simp at c10;done)
 | (rintro rfl;exact c25 rfl)
 | exact zabd (by omega) ht (by omega)
 | skip)
@[go_sem] def zadj:Con:=.pure fun
  | [.list n_xs c_xs,.list n_ys c_ys]=>((Is cI n_xs c_xs) ∧ (Is cI n_ys c_ys),.bool (decide ((de cI c_xs) = (de cI c_ys))))
  | _=>(False,.any)
theorem zahu:ConOk Try.prog 18 zadj:=by
  refine ⟨Qn Try.func18 (by decide) rfl,fun args h=>?_⟩
  revert h
  dsimp only
  split
  · intro h
    obtain ⟨⟨xs,rfl,rfl⟩,⟨ys,rfl,rfl⟩⟩:=h
    try simp only [Qt] at *
    exact ⟨eqIntS_pure xs ys,by simp [go_sem]⟩
  · intro h
    exact h.elim
@[go_sem] def Γ2:FuncId → Con:=ext Γ1 18 zadj
theorem Γ2_ok:∀ g,ConOk Try.prog g (Γ2 g):=Qo Γ1_ok zahu

theorem toIntS_pure (xs:List Int) (h0:xs.length ≤ 1048576):Pure Try.prog 16 [li cI xs] (fr 1 cI xs):=by
  refine Pure.of_walk Try.func16 rfl (by simp [Try.f16]) (by simp [-zd,go_sem]) fun B hK=>?_
  (repeat' (first
 | refine Qr ?_
 | refine Qc (id:=0) Γ2_ok [] (by kernel_rfl) ?_;simp [-zg,-zd,↓Qb,↓Qa,go_sem]
 | refine Qc (id:=1) Γ2_ok [] (by kernel_rfl) ?_;simp [-zg,-zd,↓Qb,↓Qa,go_sem,(by omega:8 * (xs.length:Int) ≤ 281474976710656),(by omega:(xs.length:Int) ≤ 9223372036854775807)];try ((refine Zq 3 rfl fun b cp j _ hcp hj=>?_))
 | refine Qc (id:=2) Γ2_ok [] (by kernel_rfl) ?_;simp [-zg,-zd,↓Qb,↓Qa,go_sem]
 | refine Qc (id:=3) Γ2_ok [] (by kernel_rfl) ?_;simp [-zg,-zd,↓Qb,↓Qa,go_sem]
 | refine Qc (id:=5) Γ2_ok [] (by kernel_rfl) ?_;simp [-zg,-zd,↓Qb,↓Qa,go_sem,c11,Qh c11,zsP c11]
 | refine Qc (id:=4) Γ2_ok [] (by kernel_rfl) ?_;simp [-zg,-zd,↓Qb,↓Qa,go_sem,wrapS (k:=k) (by omega)]
 | ((obtain rfl:k = xs.length:=by omega);refine Jd 3 (b:=b) (all:=cat cI xs ++ zrP j .any) rfl (by simp [go_sem,zagu]) (by omega) (by simp [Qu]) (by simp [Qu];omega) ?_);refine Qc (id:=6) Γ2_ok [] (by kernel_rfl) ?_;simp [-zg,-zd,↓Qb,↓Qa,go_sem]
 | refine Qe (c:=.tmp 11) ?_;simp [-zg,-zd,↓Qb,↓Qa,go_sem];try first | (refine ⟨?_,?_⟩ <;> refine zA ?_) | (refine ⟨fun c11=>?_,fun c11=>?_⟩ <;> (try simp [B_iff,B_not] at c11))
 | (refine Qf (id:=0) (Xc (ι:=Nat) (fun k:Nat=>⟨(upd (upd (upd (fun _=>.any) 0 (li cI xs)) 3 (.sl b 1 0 xs.length cp)) 4 (.int .i64 k)),upd (fun _=>none) b (some (fillC cI [.int .i64 0] 1 xs k (zrP j .any)))⟩) (fun k=>k ≤ xs.length) (fun k=>xs.length - k) (0) ?_ ?_ ?_);exact Nat.zero_le _;((repeat' (first | exact Qi (by assumption) | exact Qk | refine Ql ?_ ?_ | refine Qj ?_)) <;> simp [-zg,-zd,↓Qb,↓Qa,go_sem,Ja]);rintro k hk)
 | (refine ⟨k + 1,by omega,by first | omega | (simp;done) | (simp;omega),?_⟩;((repeat' (first | exact Qi (by assumption) | exact Qk | refine Ql ?_ ?_ | refine Qj ?_)) <;> simp [-zg,-zd,↓Qb,↓Qa,go_sem,Ja]))
 | (refine Qf ?_)
 | (refine Qq ?_;simp [-zg,-zd,↓Qb,↓Qa,go_sem])
 | (refine Qp ?_;simp [-zg,-zd,↓Qb,↓Qa,go_sem])
 | (refine Qs ?_;simp [-zg,-zd,↓Qb,↓Qa,go_sem,Try.results16])
 | (intro hx;refine zA ?_)
 | (refine ⟨?_,?_⟩ <;> refine zA ?_)
 | (intro hx;constructor <;> intro hs)
 | (constructor <;> intro hs)
 | (refine ⟨?_,fun hs=>?_⟩;refine zA ?_)
 | (refine ⟨fun hs=>?_,?_⟩;rotate_left;refine zA ?_;rotate_left)))
@[go_sem] def zacu:Con:=.pure fun
  | [.list n_xs c_xs]=>((Is cI n_xs c_xs) ∧ ((de cI c_xs).length ≤ 1048576),fr 1 cI (de cI c_xs))
  | _=>(False,.any)
theorem zahh:ConOk Try.prog 16 zacu:=by
  refine ⟨Qn Try.func16 (by decide) rfl,fun args h=>?_⟩
  revert h
  dsimp only
  split
  · intro h
    obtain ⟨⟨xs,rfl,rfl⟩,h0⟩:=h
    try simp only [Qt] at *
    exact ⟨toIntS_pure xs h0,by simp [go_sem]⟩
  · intro h
    exact h.elim
@[go_sem] def Γ3:FuncId → Con:=ext Γ2 16 zacu
theorem Γ3_ok:∀ g,ConOk Try.prog g (Γ3 g):=Qo Γ2_ok zahh

theorem szOf_lo {left:Int} (h:-1 ≤ left) (n:Nat):-1 ≤ szOf left n:=by unfold szOf;split <;> omega
theorem szOf_hi {left:Int} (h:left ≤ 1048576) (n:Nat):szOf left n ≤ 1048576:=by unfold szOf;split <;> omega
theorem szOf_le {left:Int} {n:Nat} (h:0 ≤ szOf left n):(n:Int) ≤ left:=by unfold szOf at h;split at h <;> omega
theorem Zs {left:Int} (h:-1 ≤ left) (a b:Nat):szOf (szOf left a) b = szOf left (a + b):=by unfold szOf;split <;> split <;> split <;> omega
theorem zadx {left:Int} {a b:Nat} (h:szOf left a < 0) (h0:-1 ≤ left) (hab:a ≤ b):szOf left b = -1:=by unfold szOf at *;split at h <;> split <;> omega
def msum {α:Type} (m:α → Nat) (xs:List α) (k:Nat):Nat:=((xs.take k).map m).sum
section
variable {α:Type} {m:α → Nat}
@[go_sem] theorem zafb (xs:List α):msum m xs 0 = 0:=by simp [msum]
theorem zabl [Inhabited α] {xs:List α} {k:Nat} (h:k < xs.length):msum m xs (k + 1) = msum m xs k + m (nth xs k):=by
  unfold msum
  rw [List.take_succ_eq_append_getElem h,List.map_append,List.sum_append,Qw h]
  simp
theorem zadp {xs:List α} {k j:Nat} (h:k ≤ j):msum m xs k ≤ msum m xs j:=by
  have e:xs.take j = xs.take k ++ (xs.take j).drop k:=by
    have:=List.take_append_drop k (xs.take j)
    rw [List.take_take,Nat.min_eq_left h] at this
    exact this.symm
  unfold msum
  rw [e,List.map_append,List.sum_append]
  omega
theorem msum_at [Inhabited α] {xs:List α} {k:Nat} (h:k < xs.length):m (nth xs k) ≤ msum m xs xs.length:=by
  have:=zabl (m:=m) h
  have:=zadp (m:=m) (xs:=xs) (show k + 1 ≤ xs.length from h)
  omega
theorem msum_ge {xs:List α} {k:Nat} (h:xs.length ≤ k):msum m xs k = msum m xs xs.length:=by simp [msum,List.take_of_length_le h]
end
def mP (s:Ints2):Nat:=s.1.length + s.2.length
def mL (s:List Int):Nat:=s.length

def AllTill (p:Nat → Prop) (k:Nat):Prop:=∀ i,i < k → p i
theorem AllTill.zero (p:Nat → Prop):AllTill p 0:=fun _ h=>absurd h (by omega)
theorem AllTill.succ {p:Nat → Prop} {k:Nat} (h:AllTill p k) (e:p k):AllTill p (k + 1):=fun i hi=>by
  rcases Nat.lt_or_ge i k with h1 | h1
  · exact h i h1
  · obtain rfl:i = k:=by omega
    exact e
def findI {α:Type} (p:α → Bool) (xs:List α):Int:=match xs.findIdx? p with
  | some i=>i
  | none=>-1
section
variable {α:Type} [Inhabited α] {p:α → Bool} {xs:List α} {k:Nat}
theorem findI_at (h:NoneTill (fun i=>p (nth xs i)) k) (hk:k < xs.length) (e:p (nth xs k) = true):findI p xs = k:=by
  unfold findI
  have:xs.findIdx? p = some k:=by
    rw [List.findIdx?_eq_some_iff_getElem]
    refine ⟨hk,by rw [← Qw hk];exact e,fun j hj=>?_⟩
    have:=h j hj
    dsimp only at this
    rw [Qw (by omega)] at this
    simpa using this
  rw [this]
theorem zadt (h:NoneTill (fun i=>p (nth xs i)) k) (hk:xs.length ≤ k):findI p xs = -1:=by
  unfold findI
  have:xs.findIdx? p = none:=by
    rw [List.findIdx?_eq_none_iff]
    intro x hx
    obtain ⟨i,hi,rfl⟩:=List.getElem_of_mem hx
    have:=h i (by omega)
    dsimp only at this
    rw [Qw hi] at this
    simpa using this
  rw [this]
theorem findI_ge:(0 ≤ findI p xs) = (∃ i,i < xs.length ∧ p (nth xs i) = true):=by
  rw [eq_iff_iff]
  constructor
  · intro h
    unfold findI at h
    split at h
    · rename_i i hi
      rw [List.findIdx?_eq_some_iff_getElem] at hi
      obtain ⟨h1,h2,_⟩:=hi
      exact ⟨i,h1,by rw [Qw h1];exact h2⟩
    · omega
  · rintro ⟨i,h1,h2⟩
    unfold findI
    split
    · omega
    · rename_i h
      rw [List.findIdx?_eq_none_iff] at h
      have:=h _ (nth_mem h1)
      rw [h2] at this;cases this
theorem Zj {x:α}:(x ∈ xs) = (∃ i,i < xs.length ∧ nth xs i = x):=by
  rw [eq_iff_iff]
  constructor
  · intro h
    obtain ⟨i,hi,rfl⟩:=List.getElem_of_mem h
    exact ⟨i,hi,Qw hi⟩
  · rintro ⟨i,hi,rfl⟩;exact nth_mem hi
theorem zadz {j:Nat} (h:j < k):nth (xs.take k) j = nth xs j:=by simp [nth,List.getD_eq_getElem?_getD,List.getElem?_take,h]
end


theorem szState_pure (a:List Int) (b:List Int) (left:Int) (h0:-1 ≤ left) (h1:left ≤ 1048576):Pure Try.prog 105 [.st [li cI a,li cI b],.int .i64 left] (.int .i64 (szOf left (a.length + b.length))):=by
  refine Pure.of_walk Try.func105 rfl (by simp [Try.f105]) (by simp [-zd,go_sem]) fun B hK=>?_
  (repeat' (first
 | refine Qr ?_
 | refine Qc (id:=0) Γ3_ok [] (by kernel_rfl) ?_;simp [-zg,-zd,↓Qb,↓Qa,go_sem];try (refine Xh hK 2 ?_;simp [go_sem])
 | refine Qc (id:=1) Γ3_ok [] (by kernel_rfl) ?_;simp [-zg,-zd,↓Qb,↓Qa,go_sem,h0,h1]
 | refine Qc (id:=2) Γ3_ok [] (by kernel_rfl) ?_;simp [-zg,-zd,↓Qb,↓Qa,go_sem]
 | refine Qc (id:=3) Γ3_ok [] (by kernel_rfl) ?_;simp [-zg,-zd,↓Qb,↓Qa,go_sem]
 | refine Qc (id:=4) Γ3_ok [] (by kernel_rfl) ?_;simp [-zg,-zd,↓Qb,↓Qa,go_sem,szOf_lo h0,szOf_hi h1]
 | refine Qc (id:=5) Γ3_ok [] (by kernel_rfl) ?_;simp [-zg,-zd,↓Qb,↓Qa,go_sem]
 | refine Qc (id:=6) Γ3_ok [] (by kernel_rfl) ?_;simp [-zg,-zd,↓Qb,↓Qa,go_sem]
 | refine Qc (id:=7) Γ3_ok [] (by kernel_rfl) ?_;simp [-zg,-zd,↓Qb,↓Qa,go_sem,Zs h0]
 | refine Qe (c:=.tmp 10) ?_;simp [-zg,-zd,↓Qb,↓Qa,go_sem];try first | (refine ⟨?_,?_⟩ <;> refine zA ?_) | (refine ⟨fun c10=>?_,fun c10=>?_⟩ <;> (try simp [B_iff,B_not] at c10))
 | refine Qe (c:=.tmp 16) ?_;simp [-zg,-zd,↓Qb,↓Qa,go_sem];try first | (refine ⟨?_,?_⟩ <;> refine zA ?_) | (refine ⟨fun c16=>?_,fun c16=>?_⟩ <;> (try simp [B_iff,B_not] at c16))
 | (refine Qf ?_)
 | (refine Qq ?_;simp [-zg,-zd,↓Qb,↓Qa,go_sem])
 | (refine Qp ?_;simp [-zg,-zd,↓Qb,↓Qa,go_sem])
 | (refine Qs ?_;simp [-zg,-zd,↓Qb,↓Qa,go_sem,Try.results105])
 | (intro hx;refine zA ?_)
 | (refine ⟨?_,?_⟩ <;> refine zA ?_)
 | (intro hx;constructor <;> intro hs)
 | (constructor <;> intro hs)
 | (refine ⟨?_,fun hs=>?_⟩;refine zA ?_)
 | (refine ⟨fun hs=>?_,?_⟩;rotate_left;refine zA ?_;rotate_left)))
  all_goals (first
 | exact (zadx (by assumption) h0 (by omega)).symm
 | (rw [Zs h0] at *;exact (zadx (by assumption) h0 (by omega)).symm)
 | (rw [Zs h0])
 | skip)
@[go_sem] def zaca:Con:=.pure fun
  | [.st [.list n_a c_a,.list n_b c_b],.int .i64 left]=>((Is cI n_a c_a) ∧ (Is cI n_b c_b) ∧ (-1 ≤ left) ∧ (left ≤ 1048576),.int .i64 (szOf left ((de cI c_a).length + (de cI c_b).length)))
  | _=>(False,.any)
theorem zafs:ConOk Try.prog 105 zaca:=by
  refine ⟨Qn Try.func105 (by decide) rfl,fun args h=>?_⟩
  revert h
  dsimp only
  split
  · intro h
    obtain ⟨⟨a,rfl,rfl⟩,⟨b,rfl,rfl⟩,h0,h1⟩:=h
    try simp only [Qt] at *
    exact ⟨szState_pure a b _ h0 h1,by simp [go_sem]⟩
  · intro h
    exact h.elim
@[go_sem] def Γ4:FuncId → Con:=ext Γ3 105 zaca
theorem Γ4_ok:∀ g,ConOk Try.prog g (Γ4 g):=Qo Γ3_ok zafs

theorem toState_pure (a:List Int) (b:List Int) (h0:a.length ≤ 1048576) (h1:b.length ≤ 1048576):Pure Try.prog 108 [.st [li cI a,li cI b]] (.st [fr 1 cI a,fr 1 cI b]):=by
  refine Pure.of_walk Try.func108 rfl (by simp [Try.f108]) (by simp [-zd,go_sem]) fun B hK=>?_
  (repeat' (first
 | refine Qr ?_
 | refine Qc (id:=0) Γ4_ok [] (by kernel_rfl) ?_;simp [-zg,-zd,↓Qb,↓Qa,go_sem];try (refine Xh hK 1 ?_;simp [go_sem])
 | refine Qc (id:=1) Γ4_ok [] (by kernel_rfl) ?_;simp [-zg,-zd,↓Qb,↓Qa,go_sem];try (refine zadw 3 rfl fun b3 hb3=>?_)
 | refine Qc (id:=2) Γ4_ok [] (by kernel_rfl) ?_;simp [-zg,-zd,↓Qb,↓Qa,go_sem,h0,h1]
 | refine Qc (id:=3) Γ4_ok [] (by kernel_rfl) ?_;simp [-zg,-zd,↓Qb,↓Qa,go_sem,h0,h1]
 | refine Qc (id:=4) Γ4_ok [] (by kernel_rfl) ?_;simp [-zg,-zd,↓Qb,↓Qa,go_sem]
 | (refine Qf ?_)
 | (refine Qq ?_;simp [-zg,-zd,↓Qb,↓Qa,go_sem])
 | (refine Qp ?_;simp [-zg,-zd,↓Qb,↓Qa,go_sem])
 | (refine Qs ?_;simp [-zg,-zd,↓Qb,↓Qa,go_sem,Try.results108])
 | (intro hx;refine zA ?_)
 | (refine ⟨?_,?_⟩ <;> refine zA ?_)
 | (intro hx;constructor <;> intro hs)
 | (constructor <;> intro hs)
 | (refine ⟨?_,fun hs=>?_⟩;refine zA ?_)
 | (refine ⟨fun hs=>?_,?_⟩;rotate_left;refine zA ?_;rotate_left)))
@[go_sem] def zabx:Con:=.pure fun
  | [.st [.list n_a c_a,.list n_b c_b]]=>((Is cI n_a c_a) ∧ (Is cI n_b c_b) ∧ ((de cI c_a).length ≤ 1048576) ∧ ((de cI c_b).length ≤ 1048576),.st [fr 1 cI (de cI c_a),fr 1 cI (de cI c_b)])
  | _=>(False,.any)
theorem zafp:ConOk Try.prog 108 zabx:=by
  refine ⟨Qn Try.func108 (by decide) rfl,fun args h=>?_⟩
  revert h
  dsimp only
  split
  · intro h
    obtain ⟨⟨a,rfl,rfl⟩,⟨b,rfl,rfl⟩,h0,h1⟩:=h
    try simp only [Qt] at *
    exact ⟨toState_pure a b h0 h1,by simp [go_sem]⟩
  · intro h
    exact h.elim
@[go_sem] def Γ5:FuncId → Con:=ext Γ4 108 zabx
theorem Γ5_ok:∀ g,ConOk Try.prog g (Γ5 g):=Qo Γ4_ok zafp

theorem eqState_pure (a:List Int) (b:List Int) (c:List Int) (d:List Int)  : Pure Try.prog 113 [.st [li cI a,li cI b],.st [li cI c,li cI d]] (.bool (decide (a = c) && decide (b = d))):=by
  refine Pure.of_walk Try.func113 rfl (by simp [Try.f113]) (by simp [-zd,go_sem]) fun B hK=>?_
  (repeat' (first
 | refine Qr ?_
 | refine Qc (id:=0) Γ5_ok [] (by kernel_rfl) ?_;simp [-zg,-zd,↓Qb,↓Qa,go_sem];try (refine Xh hK 2 ?_;simp [go_sem];refine Xh hK 3 ?_;simp [go_sem])
 | refine Qc (id:=1) Γ5_ok [] (by kernel_rfl) ?_;simp [-zg,-zd,↓Qb,↓Qa,go_sem]
 | refine Qc (id:=2) Γ5_ok [] (by kernel_rfl) ?_;simp [-zg,-zd,↓Qb,↓Qa,go_sem]
 | refine Qc (id:=3) Γ5_ok [] (by kernel_rfl) ?_;simp [-zg,-zd,↓Qb,↓Qa,go_sem]
 | refine Qc (id:=4) Γ5_ok [] (by kernel_rfl) ?_;simp [-zg,-zd,↓Qb,↓Qa,go_sem]
 | refine Qc (id:=5) Γ5_ok [] (by kernel_rfl) ?_;simp [-zg,-zd,↓Qb,↓Qa,go_sem]
 | refine Qe (c:=.tmp 10) ?_;simp [-zg,-zd,↓Qb,↓Qa,go_sem];try first | (refine ⟨?_,?_⟩ <;> refine zA ?_) | (refine ⟨fun c10=>?_,fun c10=>?_⟩ <;> (try simp [B_iff,B_not] at c10))
 | refine Qe (c:=.tmp 16) ?_;simp [-zg,-zd,↓Qb,↓Qa,go_sem];try first | (refine ⟨?_,?_⟩ <;> refine zA ?_) | (refine ⟨fun c16=>?_,fun c16=>?_⟩ <;> (try simp [B_iff,B_not] at c16))
 | (refine Qf ?_)
 | (refine Qq ?_;simp [-zg,-zd,↓Qb,↓Qa,go_sem])
 | (refine Qp ?_;simp [-zg,-zd,↓Qb,↓Qa,go_sem])
 | (refine Qs ?_;simp [-zg,-zd,↓Qb,↓Qa,go_sem,Try.results113])
 | (intro hx;refine zA ?_)
 | (refine ⟨?_,?_⟩ <;> refine zA ?_)
 | (intro hx;constructor <;> intro hs)
 | (constructor <;> intro hs)
 | (refine ⟨?_,fun hs=>?_⟩;refine zA ?_)
 | (refine ⟨fun hs=>?_,?_⟩;rotate_left;refine zA ?_;rotate_left)))
  all_goals (first
 | (simp_all;done)
 | (intros;simp_all;done)
 | skip)
@[go_sem] def zace:Con:=.pure fun
  | [.st [.list n_a c_a,.list n_b c_b],.st [.list n_c c_c,.list n_d c_d]]=>((Is cI n_a c_a) ∧ (Is cI n_b c_b) ∧ (Is cI n_c c_c) ∧ (Is cI n_d c_d),.bool (decide ((de cI c_a) = (de cI c_c)) && decide ((de cI c_b) = (de cI c_d))))
  | _=>(False,.any)
theorem zagw:ConOk Try.prog 113 zace:=by
  refine ⟨Qn Try.func113 (by decide) rfl,fun args h=>?_⟩
  revert h
  dsimp only
  split
  · intro h
    obtain ⟨⟨a,rfl,rfl⟩,⟨b,rfl,rfl⟩,⟨c,rfl,rfl⟩,⟨d,rfl,rfl⟩⟩:=h
    try simp only [Qt] at *
    exact ⟨eqState_pure a b c d,by simp [go_sem]⟩
  · intro h
    exact h.elim
@[go_sem] def Γ6:FuncId → Con:=ext Γ5 113 zace
theorem Γ6_ok:∀ g,ConOk Try.prog g (Γ6 g):=Qo Γ5_ok zagw

theorem szStateS_pure (xs:List Ints2) (left:Int) (h0:-1 ≤ left) (h1:left ≤ 1048576):Pure Try.prog 57 [li cP xs,.int .i64 left] (.int .i64 (szOf left (xs.length + msum mP xs xs.length))):=by
  refine Pure.of_walk Try.func57 rfl (by simp [Try.f57]) (by simp [-zd,go_sem]) fun B hK=>?_
  (repeat' (first
 | refine Qr ?_
 | (refine Xr 0 rfl fun hm=>?_);refine Qc (id:=0) Γ6_ok [] (by kernel_rfl) ?_;simp [-zg,-zd,↓Qb,↓Qa,go_sem]
 | refine Qc (id:=1) Γ6_ok [] (by kernel_rfl) ?_;simp [-zg,-zd,↓Qb,↓Qa,go_sem,wrap_sub h0 h1 hm]
 | refine Qc (id:=2) Γ6_ok [] (by kernel_rfl) ?_;simp [-zg,-zd,↓Qb,↓Qa,go_sem]
 | refine Qc (id:=3) Γ6_ok [] (by kernel_rfl) ?_;simp [-zg,-zd,↓Qb,↓Qa,go_sem]
 | refine Qc (id:=4) Γ6_ok [] (by kernel_rfl) ?_;simp [-zg,-zd,↓Qb,↓Qa,go_sem]
 | refine Qc (id:=5) Γ6_ok [] (by kernel_rfl) ?_;simp [-zg,-zd,↓Qb,↓Qa,go_sem,wrapS (k:=k) (by omega)]
 | refine Qc (id:=7) Γ6_ok [] (by kernel_rfl) ?_;simp [-zg,-zd,↓Qb,↓Qa,go_sem,c15,Qh c15,zsP c15,szOf_lo h0,szOf_hi h1]
 | refine Qc (id:=8) Γ6_ok [] (by kernel_rfl) ?_;simp [-zg,-zd,↓Qb,↓Qa,go_sem]
 | refine Qc (id:=9) Γ6_ok [] (by kernel_rfl) ?_;simp [-zg,-zd,↓Qb,↓Qa,go_sem]
 | refine Qc (id:=6) Γ6_ok [] (by kernel_rfl) ?_;simp [-zg,-zd,↓Qb,↓Qa,go_sem,wrapS (k:=k) (by omega)]
 | refine Qc (id:=10) Γ6_ok [] (by kernel_rfl) ?_;simp [-zg,-zd,↓Qb,↓Qa,go_sem]
 | refine Qe (c:=.tmp 11) ?_;simp [-zg,-zd,↓Qb,↓Qa,go_sem];try first | (refine ⟨?_,?_⟩ <;> refine zA ?_) | (refine ⟨fun c11=>?_,fun c11=>?_⟩ <;> (try simp [B_iff,B_not] at c11))
 | refine Qe (c:=.tmp 15) ?_;simp [-zg,-zd,↓Qb,↓Qa,go_sem];try first | (refine ⟨?_,?_⟩ <;> refine zA ?_) | (refine ⟨fun c15=>?_,fun c15=>?_⟩ <;> (try simp [B_iff,B_not] at c15))
 | refine Qe (c:=.tmp 25) ?_;simp [-zg,-zd,↓Qb,↓Qa,go_sem];try first | (refine ⟨?_,?_⟩ <;> refine zA ?_) | (refine ⟨fun c25=>?_,fun c25=>?_⟩ <;> (try simp [B_iff,B_not] at c25))
 | (refine Qf (id:=0) (Xc (ι:=Nat) (fun k:Nat=>⟨(upd (upd (upd (fun _=>.any) 0 (li cP xs)) 1 (.int .i64 (szOf left (xs.length + msum mP xs k)))) 5 (.int .i64 k)),fun _=>none⟩) (fun k=>k ≤ xs.length) (fun k=>xs.length - k) (0) ?_ ?_ ?_);exact Nat.zero_le _;((repeat' (first | exact Qi (by assumption) | exact Qk | refine Ql ?_ ?_ | refine Qj ?_)) <;> simp [-zg,-zd,↓Qb,↓Qa,go_sem,szOf_yes c11]);rintro k hk)
 | (refine ⟨k + 1,by omega,by first | omega | (simp;done) | (simp;omega),?_⟩;((repeat' (first | exact Qi (by assumption) | exact Qk | refine Ql ?_ ?_ | refine Qj ?_)) <;> simp [-zg,-zd,↓Qb,↓Qa,go_sem,Zs h0,zabl c15,mP,Nat.add_assoc]))
 | (refine Qf ?_)
 | (refine Qq ?_;simp [-zg,-zd,↓Qb,↓Qa,go_sem])
 | (refine Qp ?_;simp [-zg,-zd,↓Qb,↓Qa,go_sem])
 | (refine Qs ?_;simp [-zg,-zd,↓Qb,↓Qa,go_sem,Try.results57])
 | (intro hx;refine zA ?_)
 | (refine ⟨?_,?_⟩ <;> refine zA ?_)
 | (intro hx;constructor <;> intro hs)
 | (constructor <;> intro hs)
 | (refine ⟨?_,fun hs=>?_⟩;refine zA ?_)
 | (refine ⟨fun hs=>?_,?_⟩;rotate_left;refine zA ?_;rotate_left)))
  all_goals (first
 | rw [szOf_no (by omega)]
 | (rw [Zs h0,Nat.add_assoc] at *;have hms:=zabl (m:=mP) c15;have hmm:=zadp (m:=mP) (xs:=xs) (show k + 1 ≤ xs.length from c15);simp only [mP] at hms;exact (zadx (by assumption) h0 (by omega)).symm)
 | (rw [msum_ge (by omega)])
 | skip)
@[go_sem] def zabi:Con:=.pure fun
  | [.list n_xs c_xs,.int .i64 left]=>((Is cP n_xs c_xs) ∧ (-1 ≤ left) ∧ (left ≤ 1048576),.int .i64 (szOf left ((de cP c_xs).length + msum mP (de cP c_xs) (de cP c_xs).length)))
  | _=>(False,.any)
theorem zaes:ConOk Try.prog 57 zabi:=by
  refine ⟨Qn Try.func57 (by decide) rfl,fun args h=>?_⟩
  revert h
  dsimp only
  split
  · intro h
    obtain ⟨⟨xs,rfl,rfl⟩,h0,h1⟩:=h
    try simp only [Qt] at *
    exact ⟨szStateS_pure xs _ h0 h1,by simp [go_sem]⟩
  · intro h
    exact h.elim
@[go_sem] def Γ7:FuncId → Con:=ext Γ6 57 zabi
theorem Γ7_ok:∀ g,ConOk Try.prog g (Γ7 g):=Qo Γ6_ok zaes

theorem toStateS_pure (xs:List Ints2) (h0:xs.length + msum mP xs xs.length ≤ 1048576):Pure Try.prog 60 [li cP xs] (fr 2 oP xs):=by
  refine Pure.of_walk Try.func60 rfl (by simp [Try.f60]) (by simp [-zd,go_sem]) fun B hK=>?_
  (repeat' (first
 | refine Qr ?_
 | refine Qc (id:=0) Γ7_ok [] (by kernel_rfl) ?_;simp [-zg,-zd,↓Qb,↓Qa,go_sem]
 | refine Qc (id:=1) Γ7_ok [] (by kernel_rfl) ?_;simp [-zg,-zd,↓Qb,↓Qa,go_sem,(by omega:48 * (xs.length:Int) ≤ 281474976710656),(by omega:24 * (xs.length:Int) ≤ 281474976710656),(by omega:64 * (xs.length:Int) ≤ 281474976710656),(by omega:(xs.length:Int) ≤ 9223372036854775807)];try ((refine Zq 3 rfl fun b cp j _ hcp hj=>?_))
 | refine Qc (id:=2) Γ7_ok [] (by kernel_rfl) ?_;simp [-zg,-zd,↓Qb,↓Qa,go_sem]
 | refine Qc (id:=3) Γ7_ok [] (by kernel_rfl) ?_;simp [-zg,-zd,↓Qb,↓Qa,go_sem]
 | (have hms:=msum_at (m:=mP) c11;simp only [mP] at hms);refine Qc (id:=5) Γ7_ok [] (by kernel_rfl) ?_;simp [-zg,-zd,↓Qb,↓Qa,go_sem,c11,Qh c11,zsP c11,(by omega:(nth xs k).1.length ≤ 1048576),(by omega:(nth xs k).2.length ≤ 1048576)]
 | refine Qc (id:=4) Γ7_ok [] (by kernel_rfl) ?_;simp [-zg,-zd,↓Qb,↓Qa,go_sem,wrapS (k:=k) (by omega)]
 | ((obtain rfl:k = xs.length:=by omega);refine Jd 3 (b:=b) (all:=cat oP xs ++ zrP j .any) rfl (by simp [go_sem,zagu]) (by omega) (by simp [Qu]) (by simp [Qu];omega) ?_);refine Qc (id:=6) Γ7_ok [] (by kernel_rfl) ?_;simp [-zg,-zd,↓Qb,↓Qa,go_sem]
 | refine Qe (c:=.tmp 11) ?_;simp [-zg,-zd,↓Qb,↓Qa,go_sem];try first | (refine ⟨?_,?_⟩ <;> refine zA ?_) | (refine ⟨fun c11=>?_,fun c11=>?_⟩ <;> (try simp [B_iff,B_not] at c11))
 | (refine Qf (id:=0) (Xc (ι:=Nat) (fun k:Nat=>⟨(upd (upd (upd (fun _=>.any) 0 (li cP xs)) 3 (.sl b 2 0 xs.length cp)) 4 (.int .i64 k)),upd (fun _=>none) b (some (fillC oP [.nil,.nil] 2 xs k (zrP j .any)))⟩) (fun k=>k ≤ xs.length) (fun k=>xs.length - k) (0) ?_ ?_ ?_);exact Nat.zero_le _;((repeat' (first | exact Qi (by assumption) | exact Qk | refine Ql ?_ ?_ | refine Qj ?_)) <;> simp [-zg,-zd,↓Qb,↓Qa,go_sem,Ja]);rintro k hk)
 | (refine ⟨k + 1,by omega,by first | omega | (simp;done) | (simp;omega),?_⟩;((repeat' (first | exact Qi (by assumption) | exact Qk | refine Ql ?_ ?_ | refine Qj ?_)) <;> simp [-zg,-zd,↓Qb,↓Qa,go_sem,Ja]))
 | (refine Qf ?_)
 | (refine Qq ?_;simp [-zg,-zd,↓Qb,↓Qa,go_sem])
 | (refine Qp ?_;simp [-zg,-zd,↓Qb,↓Qa,go_sem])
 | (refine Qs ?_;simp [-zg,-zd,↓Qb,↓Qa,go_sem,Try.results60])
 | (intro hx;refine zA ?_)
 | (refine ⟨?_,?_⟩ <;> refine zA ?_)
 | (intro hx;constructor <;> intro hs)
 | (constructor <;> intro hs)
 | (refine ⟨?_,fun hs=>?_⟩;refine zA ?_)
 | (refine ⟨fun hs=>?_,?_⟩;rotate_left;refine zA ?_;rotate_left)))
@[go_sem] def zabh:Con:=.pure fun
  | [.list n_xs c_xs]=>((Is cP n_xs c_xs) ∧ ((de cP c_xs).length + msum mP (de cP c_xs) (de cP c_xs).length ≤ 1048576),fr 2 oP (de cP c_xs))
  | _=>(False,.any)
theorem zaer:ConOk Try.prog 60 zabh:=by
  refine ⟨Qn Try.func60 (by decide) rfl,fun args h=>?_⟩
  revert h
  dsimp only
  split
  · intro h
    obtain ⟨⟨xs,rfl,rfl⟩,h0⟩:=h
    try simp only [Qt] at *
    exact ⟨toStateS_pure xs h0,by simp [go_sem]⟩
  · intro h
    exact h.elim
@[go_sem] def Γ8:FuncId → Con:=ext Γ7 60 zabh
theorem Γ8_ok:∀ g,ConOk Try.prog g (Γ8 g):=Qo Γ7_ok zaer

theorem eqStateS_pure (xs:List Ints2) (ys:List Ints2)  : Pure Try.prog 63 [li cP xs,li cP ys] (.bool (decide (xs = ys))):=by
  refine Pure.of_walk Try.func63 rfl (by simp [Try.f63]) (by simp [-zd,go_sem]) fun B hK=>?_
  (repeat' (first
 | refine Qr ?_
 | (refine Xr 0 rfl fun hm=>?_);refine Qc (id:=0) Γ8_ok [] (by kernel_rfl) ?_;simp [-zg,-zd,↓Qb,↓Qa,go_sem]
 | refine Qc (id:=1) Γ8_ok [] (by kernel_rfl) ?_;simp [-zg,-zd,↓Qb,↓Qa,go_sem]
 | refine Qc (id:=2) Γ8_ok [] (by kernel_rfl) ?_;simp [-zg,-zd,↓Qb,↓Qa,go_sem]
 | refine Qc (id:=3) Γ8_ok [] (by kernel_rfl) ?_;simp [-zg,-zd,↓Qb,↓Qa,go_sem]
 | refine Qc (id:=4) Γ8_ok [] (by kernel_rfl) ?_;simp [-zg,-zd,↓Qb,↓Qa,go_sem]
 | (have cy:k < ys.length:=by omega);refine Zg (id:=6) Γ8_ok mixed [] [5] (by kernel_rfl) (by kernel_rfl) (by simp [-zg,-zd,↓Qb,↓Qa,go_sem,c14,Qh c14,zsP c14,cy,Qh cy,zsP cy]) ?_;simp [-zg,-zd,↓Qb,↓Qa,go_sem,c14,Qh c14,zsP c14,cy,Qh cy,zsP cy]
 | refine Qc (id:=7) Γ8_ok [] (by kernel_rfl) ?_;simp [-zg,-zd,↓Qb,↓Qa,go_sem]
 | refine Qc (id:=5) Γ8_ok [] (by kernel_rfl) ?_;simp [-zg,-zd,↓Qb,↓Qa,go_sem,wrapS (k:=k) (by omega)]
 | refine Qc (id:=8) Γ8_ok [] (by kernel_rfl) ?_;simp [-zg,-zd,↓Qb,↓Qa,go_sem]
 | refine Qe (c:=.tmp 10) ?_;simp [-zg,-zd,↓Qb,↓Qa,go_sem];try first | (refine ⟨?_,?_⟩ <;> refine zA ?_) | (refine ⟨fun c10=>?_,fun c10=>?_⟩ <;> (try simp [B_iff,B_not] at c10))
 | refine Qe (c:=.tmp 14) ?_;simp [-zg,-zd,↓Qb,↓Qa,go_sem];try first | (refine ⟨?_,?_⟩ <;> refine zA ?_) | (refine ⟨fun c14=>?_,fun c14=>?_⟩ <;> (try simp [B_iff,B_not] at c14))
 | refine Qe (c:=.tmp 26) ?_;simp [-zg,-zd,↓Qb,↓Qa,go_sem];try first | (refine ⟨?_,?_⟩ <;> refine zA ?_) | (refine ⟨fun c26=>?_,fun c26=>?_⟩ <;> (try simp [B_iff,B_not] at c26))
 | (refine Qf (id:=0) (Xc (ι:=Nat) (fun k:Nat=>⟨(upd (upd (upd (fun _=>.any) 0 (li cP xs)) 1 (li cP ys)) 5 (.int .i64 k)),fun _=>none⟩) (fun k=>k ≤ xs.length ∧ NoneTill (neAt xs ys) k) (fun k=>xs.length - k) (0) ?_ ?_ ?_);exact ⟨Nat.zero_le _,.zero _⟩;((repeat' (first | exact Qi (by assumption) | exact Qk | refine Ql ?_ ?_ | refine Qj ?_)) <;> simp [-zg,-zd,↓Qb,↓Qa,go_sem]);rintro k ⟨hk,ht⟩)
 | (refine ⟨k + 1,⟨by omega,ht.succ (by simp [neAt];first | exact c26 | (apply Prod.ext <;> simp_all;done) | (simp_all [Prod.ext_iff];done) | simp_all)⟩,by first | omega | (simp;done) | (simp;omega),?_⟩;((repeat' (first | exact Qi (by assumption) | exact Qk | refine Ql ?_ ?_ | refine Qj ?_)) <;> simp [-zg,-zd,↓Qb,↓Qa,go_sem]))
 | (refine Qf ?_)
 | (refine Qq ?_;simp [-zg,-zd,↓Qb,↓Qa,go_sem])
 | (refine Qp ?_;simp [-zg,-zd,↓Qb,↓Qa,go_sem])
 | (refine Qs ?_;simp [-zg,-zd,↓Qb,↓Qa,go_sem,Try.results63])
 | (intro hx;refine zA ?_)
 | (refine ⟨?_,?_⟩ <;> refine zA ?_)
 | (intro hx;constructor <;> intro hs)
 | (constructor <;> intro hs)
 | (refine ⟨?_,fun hs=>?_⟩;refine zA ?_)
 | (refine ⟨fun hs=>?_,?_⟩;rotate_left;refine zA ?_;rotate_left)))
  all_goals (first
 | (rintro rfl;simp at c10;done)
 | (rintro rfl;simp at c26;done)
 | exact zabd (by omega) ht (by omega)
 | skip)
@[go_sem] def zabq:Con:=.pure fun
  | [.list n_xs c_xs,.list n_ys c_ys]=>((Is cP n_xs c_xs) ∧ (Is cP n_ys c_ys),.bool (decide ((de cP c_xs) = (de cP c_ys))))
  | _=>(False,.any)
theorem zaev:ConOk Try.prog 63 zabq:=by
  refine ⟨Qn Try.func63 (by decide) rfl,fun args h=>?_⟩
  revert h
  dsimp only
  split
  · intro h
    obtain ⟨⟨xs,rfl,rfl⟩,⟨ys,rfl,rfl⟩⟩:=h
    try simp only [Qt] at *
    exact ⟨eqStateS_pure xs ys,by simp [go_sem]⟩
  · intro h
    exact h.elim
@[go_sem] def Γ9:FuncId → Con:=ext Γ8 63 zabq
theorem Γ9_ok:∀ g,ConOk Try.prog g (Γ9 g):=Qo Γ8_ok zaev

theorem szIntSS_pure (xs:List (List Int)) (left:Int) (h0:-1 ≤ left) (h1:left ≤ 1048576):Pure Try.prog 58 [li cL xs,.int .i64 left] (.int .i64 (szOf left (xs.length + msum mL xs xs.length))):=by
  refine Pure.of_walk Try.func58 rfl (by simp [Try.f58]) (by simp [-zd,go_sem]) fun B hK=>?_
  (repeat' (first
 | refine Qr ?_
 | (refine Xr 0 rfl fun hm=>?_);refine Qc (id:=0) Γ9_ok [] (by kernel_rfl) ?_;simp [-zg,-zd,↓Qb,↓Qa,go_sem]
 | refine Qc (id:=1) Γ9_ok [] (by kernel_rfl) ?_;simp [-zg,-zd,↓Qb,↓Qa,go_sem,wrap_sub h0 h1 hm]
 | refine Qc (id:=2) Γ9_ok [] (by kernel_rfl) ?_;simp [-zg,-zd,↓Qb,↓Qa,go_sem]
 | refine Qc (id:=3) Γ9_ok [] (by kernel_rfl) ?_;simp [-zg,-zd,↓Qb,↓Qa,go_sem]
 | refine Qc (id:=4) Γ9_ok [] (by kernel_rfl) ?_;simp [-zg,-zd,↓Qb,↓Qa,go_sem]
 | refine Qc (id:=5) Γ9_ok [] (by kernel_rfl) ?_;simp [-zg,-zd,↓Qb,↓Qa,go_sem,wrapS (k:=k) (by omega)]
 | refine Qc (id:=7) Γ9_ok [] (by kernel_rfl) ?_;simp [-zg,-zd,↓Qb,↓Qa,go_sem,c15,Qh c15,zsP c15,szOf_lo h0,szOf_hi h1]
 | refine Qc (id:=8) Γ9_ok [] (by kernel_rfl) ?_;simp [-zg,-zd,↓Qb,↓Qa,go_sem]
 | refine Qc (id:=9) Γ9_ok [] (by kernel_rfl) ?_;simp [-zg,-zd,↓Qb,↓Qa,go_sem]
 | refine Qc (id:=6) Γ9_ok [] (by kernel_rfl) ?_;simp [-zg,-zd,↓Qb,↓Qa,go_sem,wrapS (k:=k) (by omega)]
 | refine Qc (id:=10) Γ9_ok [] (by kernel_rfl) ?_;simp [-zg,-zd,↓Qb,↓Qa,go_sem]
 | refine Qe (c:=.tmp 11) ?_;simp [-zg,-zd,↓Qb,↓Qa,go_sem];try first | (refine ⟨?_,?_⟩ <;> refine zA ?_) | (refine ⟨fun c11=>?_,fun c11=>?_⟩ <;> (try simp [B_iff,B_not] at c11))
 | refine Qe (c:=.tmp 15) ?_;simp [-zg,-zd,↓Qb,↓Qa,go_sem];try first | (refine ⟨?_,?_⟩ <;> refine zA ?_) | (refine ⟨fun c15=>?_,fun c15=>?_⟩ <;> (try simp [B_iff,B_not] at c15))
 | refine Qe (c:=.tmp 25) ?_;simp [-zg,-zd,↓Qb,↓Qa,go_sem];try first | (refine ⟨?_,?_⟩ <;> refine zA ?_) | (refine ⟨fun c25=>?_,fun c25=>?_⟩ <;> (try simp [B_iff,B_not] at c25))
 | (refine Qf (id:=0) (Xc (ι:=Nat) (fun k:Nat=>⟨(upd (upd (upd (fun _=>.any) 0 (li cL xs)) 1 (.int .i64 (szOf left (xs.length + msum mL xs k)))) 5 (.int .i64 k)),fun _=>none⟩) (fun k=>k ≤ xs.length) (fun k=>xs.length - k) (0) ?_ ?_ ?_);exact Nat.zero_le _;((repeat' (first | exact Qi (by assumption) | exact Qk | refine Ql ?_ ?_ | refine Qj ?_)) <;> simp [-zg,-zd,↓Qb,↓Qa,go_sem,szOf_yes c11]);rintro k hk)
 | (refine ⟨k + 1,by omega,by first | omega | (simp;done) | (simp;omega),?_⟩;((repeat' (first | exact Qi (by assumption) | exact Qk | refine Ql ?_ ?_ | refine Qj ?_)) <;> simp [-zg,-zd,↓Qb,↓Qa,go_sem,Zs h0,zabl c15,mL,Nat.add_assoc]))
 | (refine Qf ?_)
 | (refine Qq ?_;simp [-zg,-zd,↓Qb,↓Qa,go_sem])
 | (refine Qp ?_;simp [-zg,-zd,↓Qb,↓Qa,go_sem])
 | (refine Qs ?_;simp [-zg,-zd,↓Qb,↓Qa,go_sem,Try.results58])
 | (intro hx;refine zA ?_)
 | (refine ⟨?_,?_⟩ <;> refine zA ?_)
 | (intro hx;constructor <;> intro hs)
 | (constructor <;> intro hs)
 | (refine ⟨?_,fun hs=>?_⟩;refine zA ?_)
 | (refine ⟨fun hs=>?_,?_⟩;rotate_left;refine zA ?_;rotate_left)))
  all_goals (first
 | rw [szOf_no (by omega)]
 | (rw [Zs h0,Nat.add_assoc] at *;have hms:=zabl (m:=mL) c15;have hmm:=zadp (m:=mL) (xs:=xs) (show k + 1 ≤ xs.length from c15);simp only [mL] at hms;exact (zadx (by assumption) h0 (by omega)).symm)
 | (rw [msum_ge (by omega)])
 | skip)
@[go_sem] def zacb:Con:=.pure fun
  | [.list n_xs c_xs,.int .i64 left]=>((Is cL n_xs c_xs) ∧ (-1 ≤ left) ∧ (left ≤ 1048576),.int .i64 (szOf left ((de cL c_xs).length + msum mL (de cL c_xs) (de cL c_xs).length)))
  | _=>(False,.any)
theorem zaft:ConOk Try.prog 58 zacb:=by
  refine ⟨Qn Try.func58 (by decide) rfl,fun args h=>?_⟩
  revert h
  dsimp only
  split
  · intro h
    obtain ⟨⟨xs,rfl,rfl⟩,h0,h1⟩:=h
    try simp only [Qt] at *
    exact ⟨szIntSS_pure xs _ h0 h1,by simp [go_sem]⟩
  · intro h
    exact h.elim
@[go_sem] def Γ10:FuncId → Con:=ext Γ9 58 zacb
theorem Jp:∀ g,ConOk Try.prog g (Γ10 g):=Qo Γ9_ok zaft

theorem toIntSS_pure (xs:List (List Int)) (h0:xs.length + msum mL xs xs.length ≤ 1048576):Pure Try.prog 61 [li cL xs] (fr 1 oL xs):=by
  refine Pure.of_walk Try.func61 rfl (by simp [Try.f61]) (by simp [-zd,go_sem]) fun B hK=>?_
  (repeat' (first
 | refine Qr ?_
 | refine Qc (id:=0) Jp [] (by kernel_rfl) ?_;simp [-zg,-zd,↓Qb,↓Qa,go_sem]
 | refine Qc (id:=1) Jp [] (by kernel_rfl) ?_;simp [-zg,-zd,↓Qb,↓Qa,go_sem,(by omega:48 * (xs.length:Int) ≤ 281474976710656),(by omega:24 * (xs.length:Int) ≤ 281474976710656),(by omega:64 * (xs.length:Int) ≤ 281474976710656),(by omega:(xs.length:Int) ≤ 9223372036854775807)];try ((refine Zq 3 rfl fun b cp j _ hcp hj=>?_))
 | refine Qc (id:=2) Jp [] (by kernel_rfl) ?_;simp [-zg,-zd,↓Qb,↓Qa,go_sem]
 | refine Qc (id:=3) Jp [] (by kernel_rfl) ?_;simp [-zg,-zd,↓Qb,↓Qa,go_sem]
 | (have hms:=msum_at (m:=mL) c11;simp only [mL] at hms);refine Qc (id:=5) Jp [] (by kernel_rfl) ?_;simp [-zg,-zd,↓Qb,↓Qa,go_sem,c11,Qh c11,zsP c11,hms,(by omega:(nth xs k).length ≤ 1048576)]
 | refine Qc (id:=4) Jp [] (by kernel_rfl) ?_;simp [-zg,-zd,↓Qb,↓Qa,go_sem,wrapS (k:=k) (by omega)]
 | ((obtain rfl:k = xs.length:=by omega);refine Jd 3 (b:=b) (all:=cat oL xs ++ zrP j .any) rfl (by simp [go_sem,zagu]) (by omega) (by simp [Qu]) (by simp [Qu];omega) ?_);refine Qc (id:=6) Jp [] (by kernel_rfl) ?_;simp [-zg,-zd,↓Qb,↓Qa,go_sem]
 | refine Qe (c:=.tmp 11) ?_;simp [-zg,-zd,↓Qb,↓Qa,go_sem];try first | (refine ⟨?_,?_⟩ <;> refine zA ?_) | (refine ⟨fun c11=>?_,fun c11=>?_⟩ <;> (try simp [B_iff,B_not] at c11))
 | (refine Qf (id:=0) (Xc (ι:=Nat) (fun k:Nat=>⟨(upd (upd (upd (fun _=>.any) 0 (li cL xs)) 3 (.sl b 1 0 xs.length cp)) 4 (.int .i64 k)),upd (fun _=>none) b (some (fillC oL [.nil] 1 xs k (zrP j .any)))⟩) (fun k=>k ≤ xs.length) (fun k=>xs.length - k) (0) ?_ ?_ ?_);exact Nat.zero_le _;((repeat' (first | exact Qi (by assumption) | exact Qk | refine Ql ?_ ?_ | refine Qj ?_)) <;> simp [-zg,-zd,↓Qb,↓Qa,go_sem,Ja]);rintro k hk)
 | (refine ⟨k + 1,by omega,by first | omega | (simp;done) | (simp;omega),?_⟩;((repeat' (first | exact Qi (by assumption) | exact Qk | refine Ql ?_ ?_ | refine Qj ?_)) <;> simp [-zg,-zd,↓Qb,↓Qa,go_sem,Ja]))
 | (refine Qf ?_)
 | (refine Qq ?_;simp [-zg,-zd,↓Qb,↓Qa,go_sem])
 | (refine Qp ?_;simp [-zg,-zd,↓Qb,↓Qa,go_sem])
 | (refine Qs ?_;simp [-zg,-zd,↓Qb,↓Qa,go_sem,Try.results61])
 | (intro hx;refine zA ?_)
 | (refine ⟨?_,?_⟩ <;> refine zA ?_)
 | (intro hx;constructor <;> intro hs)
 | (constructor <;> intro hs)
 | (refine ⟨?_,fun hs=>?_⟩;refine zA ?_)
 | (refine ⟨fun hs=>?_,?_⟩;rotate_left;refine zA ?_;rotate_left)))
@[go_sem] def zaby:Con:=.pure fun
  | [.list n_xs c_xs]=>((Is cL n_xs c_xs) ∧ ((de cL c_xs).length + msum mL (de cL c_xs) (de cL c_xs).length ≤ 1048576),fr 1 oL (de cL c_xs))
  | _=>(False,.any)
theorem zafq:ConOk Try.prog 61 zaby:=by
  refine ⟨Qn Try.func61 (by decide) rfl,fun args h=>?_⟩
  revert h
  dsimp only
  split
  · intro h
    obtain ⟨⟨xs,rfl,rfl⟩,h0⟩:=h
    try simp only [Qt] at *
    exact ⟨toIntSS_pure xs h0,by simp [go_sem]⟩
  · intro h
    exact h.elim
@[go_sem] def Γ11:FuncId → Con:=ext Γ10 61 zaby
theorem Zw:∀ g,ConOk Try.prog g (Γ11 g):=Qo Jp zafq

theorem eqIntSS_pure (xs:List (List Int)) (ys:List (List Int))  : Pure Try.prog 64 [li cL xs,li cL ys] (.bool (decide (xs = ys))):=by
  refine Pure.of_walk Try.func64 rfl (by simp [Try.f64]) (by simp [-zd,go_sem]) fun B hK=>?_
  (repeat' (first
 | refine Qr ?_
 | (refine Xr 0 rfl fun hm=>?_);refine Qc (id:=0) Zw [] (by kernel_rfl) ?_;simp [-zg,-zd,↓Qb,↓Qa,go_sem]
 | refine Qc (id:=1) Zw [] (by kernel_rfl) ?_;simp [-zg,-zd,↓Qb,↓Qa,go_sem]
 | refine Qc (id:=2) Zw [] (by kernel_rfl) ?_;simp [-zg,-zd,↓Qb,↓Qa,go_sem]
 | refine Qc (id:=3) Zw [] (by kernel_rfl) ?_;simp [-zg,-zd,↓Qb,↓Qa,go_sem]
 | refine Qc (id:=4) Zw [] (by kernel_rfl) ?_;simp [-zg,-zd,↓Qb,↓Qa,go_sem]
 | (have cy:k < ys.length:=by omega);refine Zg (id:=6) Zw mixed [] [5] (by kernel_rfl) (by kernel_rfl) (by simp [-zg,-zd,↓Qb,↓Qa,go_sem,c14,Qh c14,zsP c14,cy,Qh cy,zsP cy]) ?_;simp [-zg,-zd,↓Qb,↓Qa,go_sem,c14,Qh c14,zsP c14,cy,Qh cy,zsP cy]
 | refine Qc (id:=7) Zw [] (by kernel_rfl) ?_;simp [-zg,-zd,↓Qb,↓Qa,go_sem]
 | refine Qc (id:=5) Zw [] (by kernel_rfl) ?_;simp [-zg,-zd,↓Qb,↓Qa,go_sem,wrapS (k:=k) (by omega)]
 | refine Qc (id:=8) Zw [] (by kernel_rfl) ?_;simp [-zg,-zd,↓Qb,↓Qa,go_sem]
 | refine Qe (c:=.tmp 10) ?_;simp [-zg,-zd,↓Qb,↓Qa,go_sem];try first | (refine ⟨?_,?_⟩ <;> refine zA ?_) | (refine ⟨fun c10=>?_,fun c10=>?_⟩ <;> (try simp [B_iff,B_not] at c10))
 | refine Qe (c:=.tmp 14) ?_;simp [-zg,-zd,↓Qb,↓Qa,go_sem];try first | (refine ⟨?_,?_⟩ <;> refine zA ?_) | (refine ⟨fun c14=>?_,fun c14=>?_⟩ <;> (try simp [B_iff,B_not] at c14))
 | refine Qe (c:=.tmp 26) ?_;simp [-zg,-zd,↓Qb,↓Qa,go_sem];try first | (refine ⟨?_,?_⟩ <;> refine zA ?_) | (refine ⟨fun c26=>?_,fun c26=>?_⟩ <;> (try simp [B_iff,B_not] at c26))
 | (refine Qf (id:=0) (Xc (ι:=Nat) (fun k:Nat=>⟨(upd (upd (upd (fun _=>.any) 0 (li cL xs)) 1 (li cL ys)) 5 (.int .i64 k)),fun _=>none⟩) (fun k=>k ≤ xs.length ∧ NoneTill (neAt xs ys) k) (fun k=>xs.length - k) (0) ?_ ?_ ?_);exact ⟨Nat.zero_le _,.zero _⟩;((repeat' (first | exact Qi (by assumption) | exact Qk | refine Ql ?_ ?_ | refine Qj ?_)) <;> simp [-zg,-zd,↓Qb,↓Qa,go_sem]);rintro k ⟨hk,ht⟩)
 | (refine ⟨k + 1,⟨by omega,ht.succ (by simp [neAt];first | exact c26 | (apply Prod.ext <;> simp_all;done) | (simp_all [Prod.ext_iff];done) | simp_all)⟩,by first | omega | (simp;done) | (simp;omega),?_⟩;((repeat' (first | exact Qi (by assumption) | exact Qk | refine Ql ?_ ?_ | refine Qj ?_)) <;> simp [-zg,-zd,↓Qb,↓Qa,go_sem]))
 | (refine Qf ?_)
 | (refine Qq ?_;simp [-zg,-zd,↓Qb,↓Qa,go_sem])
 | (refine Qp ?_;simp [-zg,-zd,↓Qb,↓Qa,go_sem])
 | (refine Qs ?_;simp [-zg,-zd,↓Qb,↓Qa,go_sem,Try.results64])
 | (intro hx;refine zA ?_)
 | (refine ⟨?_,?_⟩ <;> refine zA ?_)
 | (intro hx;constructor <;> intro hs)
 | (constructor <;> intro hs)
 | (refine ⟨?_,fun hs=>?_⟩;refine zA ?_)
 | (refine ⟨fun hs=>?_,?_⟩;rotate_left;refine zA ?_;rotate_left)))
  all_goals (first
 | (rintro rfl;simp at c10;done)
 | (rintro rfl;simp at c26;done)
 | exact zabd (by omega) ht (by omega)
 | skip)
@[go_sem] def zacf:Con:=.pure fun
  | [.list n_xs c_xs,.list n_ys c_ys]=>((Is cL n_xs c_xs) ∧ (Is cL n_ys c_ys),.bool (decide ((de cL c_xs) = (de cL c_ys))))
  | _=>(False,.any)
theorem zagx:ConOk Try.prog 64 zacf:=by
  refine ⟨Qn Try.func64 (by decide) rfl,fun args h=>?_⟩
  revert h
  dsimp only
  split
  · intro h
    obtain ⟨⟨xs,rfl,rfl⟩,⟨ys,rfl,rfl⟩⟩:=h
    try simp only [Qt] at *
    exact ⟨eqIntSS_pure xs ys,by simp [go_sem]⟩
  · intro h
    exact h.elim
@[go_sem] def Γ12:FuncId → Con:=ext Γ11 64 zacf
theorem Zv:∀ g,ConOk Try.prog g (Γ12 g):=Qo Zw zagx


theorem l2Ints_pure (xs:List Int) (ys:List Int)  : Pure Try.prog 115 [li cI xs,li cI ys] (.bool (decide (xs = ys))):=by
  refine Pure.of_walk Try.func115 rfl (by simp [Try.f115]) (by simp [-zd,go_sem]) fun B hK=>?_
  (repeat' (first
 | refine Qr ?_
 | (refine Xr 0 rfl fun hm=>?_);refine Qc (id:=0) Zv [] (by kernel_rfl) ?_;simp [-zg,-zd,↓Qb,↓Qa,go_sem]
 | refine Qc (id:=1) Zv [] (by kernel_rfl) ?_;simp [-zg,-zd,↓Qb,↓Qa,go_sem]
 | refine Qc (id:=2) Zv [] (by kernel_rfl) ?_;simp [-zg,-zd,↓Qb,↓Qa,go_sem]
 | refine Qc (id:=3) Zv [] (by kernel_rfl) ?_;simp [-zg,-zd,↓Qb,↓Qa,go_sem]
 | refine Qc (id:=4) Zv [] (by kernel_rfl) ?_;simp [-zg,-zd,↓Qb,↓Qa,go_sem]
 | (have cy:k < ys.length:=by omega);refine Zg (id:=6) Zv mixed [] [5] (by kernel_rfl) (by kernel_rfl) (by simp [-zg,-zd,↓Qb,↓Qa,go_sem,c14,Qh c14,zsP c14,cy,Qh cy,zsP cy]) ?_;simp [-zg,-zd,↓Qb,↓Qa,go_sem,c14,Qh c14,zsP c14,cy,Qh cy,zsP cy]
 | refine Qc (id:=7) Zv [] (by kernel_rfl) ?_;simp [-zg,-zd,↓Qb,↓Qa,go_sem]
 | refine Qc (id:=5) Zv [] (by kernel_rfl) ?_;simp [-zg,-zd,↓Qb,↓Qa,go_sem,wrapS (k:=k) (by omega)]
 | refine Qc (id:=8) Zv [] (by kernel_rfl) ?_;simp [-zg,-zd,↓Qb,↓Qa,go_sem]
 | refine Qe (c:=.tmp 10) ?_;simp [-zg,-zd,↓Qb,↓Qa,go_sem];try first | (refine ⟨?_,?_⟩ <;> refine zA ?_) | (refine ⟨fun c10=>?_,fun c10=>?_⟩ <;> (try simp [B_iff,B_not] at c10))
 | refine Qe (c:=.tmp 14) ?_;simp [-zg,-zd,↓Qb,↓Qa,go_sem];try first | (refine ⟨?_,?_⟩ <;> refine zA ?_) | (refine ⟨fun c14=>?_,fun c14=>?_⟩ <;> (try simp [B_iff,B_not] at c14))
 | refine Qe (c:=.tmp 25) ?_;simp [-zg,-zd,↓Qb,↓Qa,go_sem];try first | (refine ⟨?_,?_⟩ <;> refine zA ?_) | (refine ⟨fun c25=>?_,fun c25=>?_⟩ <;> (try simp [B_iff,B_not] at c25))
 | (refine Qf (id:=0) (Xc (ι:=Nat) (fun k:Nat=>⟨(upd (upd (upd (fun _=>.any) 0 (li cI xs)) 1 (li cI ys)) 5 (.int .i64 k)),fun _=>none⟩) (fun k=>k ≤ xs.length ∧ NoneTill (neAt xs ys) k) (fun k=>xs.length - k) (0) ?_ ?_ ?_);exact ⟨Nat.zero_le _,.zero _⟩;((repeat' (first | exact Qi (by assumption) | exact Qk | refine Ql ?_ ?_ | refine Qj ?_)) <;> simp [-zg,-zd,↓Qb,↓Qa,go_sem]);rintro k ⟨hk,ht⟩)
 | (refine ⟨k + 1,⟨by omega,ht.succ (by simp [neAt];first | exact c25 | (apply Prod.ext <;> simp_all;done) | (simp_all [Prod.ext_iff];done) | simp_all)⟩,by first | omega | (simp;done) | (simp;omega),?_⟩;((repeat' (first | exact Qi (by assumption) | exact Qk | refine Ql ?_ ?_ | refine Qj ?_)) <;> simp [-zg,-zd,↓Qb,↓Qa,go_sem]))
 | (refine Qf ?_)
 | (refine Qq ?_;simp [-zg,-zd,↓Qb,↓Qa,go_sem])
 | (refine Qp ?_;simp [-zg,-zd,↓Qb,↓Qa,go_sem])
 | (refine Qs ?_;simp [-zg,-zd,↓Qb,↓Qa,go_sem,Try.results115])
 | (intro hx;refine zA ?_)
 | (refine ⟨?_,?_⟩ <;> refine zA ?_)
 | (intro hx;constructor <;> intro hs)
 | (constructor <;> intro hs)
 | (refine ⟨?_,fun hs=>?_⟩;refine zA ?_)
 | (refine ⟨fun hs=>?_,?_⟩;rotate_left;refine zA ?_;rotate_left)))
  all_goals (first
 | (rintro rfl;simp at c10;done)
 | (rintro rfl;simp at c25;done)
 | exact zabd (by omega) ht (by omega)
 | skip)
@[go_sem] def zadc:Con:=.pure fun
  | [.list n_xs c_xs,.list n_ys c_ys]=>((Is cI n_xs c_xs) ∧ (Is cI n_ys c_ys),.bool (decide ((de cI c_xs) = (de cI c_ys))))
  | _=>(False,.any)
theorem zahq:ConOk Try.prog 115 zadc:=by
  refine ⟨Qn Try.func115 (by decide) rfl,fun args h=>?_⟩
  revert h
  dsimp only
  split
  · intro h
    obtain ⟨⟨xs,rfl,rfl⟩,⟨ys,rfl,rfl⟩⟩:=h
    try simp only [Qt] at *
    exact ⟨l2Ints_pure xs ys,by simp [go_sem]⟩
  · intro h
    exact h.elim
@[go_sem] def Γ13:FuncId → Con:=ext Γ12 115 zadc
theorem Zo:∀ g,ConOk Try.prog g (Γ13 g):=Qo Zv zahq

theorem zafx (xs:List Int) (ys:List Int)  : Pure Try.prog 49 [li cI xs,li cI ys] (.bool (decide (xs = ys))):=by
  refine Pure.of_walk Try.func49 rfl (by simp [Try.f49]) (by simp [-zd,go_sem]) fun B hK=>?_
  (repeat' (first
 | refine Qr ?_
 | (refine Xr 0 rfl fun hm=>?_);refine Qc (id:=0) Zo [] (by kernel_rfl) ?_;simp [-zg,-zd,↓Qb,↓Qa,go_sem]
 | refine Qc (id:=1) Zo [] (by kernel_rfl) ?_;simp [-zg,-zd,↓Qb,↓Qa,go_sem]
 | refine Qc (id:=2) Zo [] (by kernel_rfl) ?_;simp [-zg,-zd,↓Qb,↓Qa,go_sem]
 | refine Qc (id:=3) Zo [] (by kernel_rfl) ?_;simp [-zg,-zd,↓Qb,↓Qa,go_sem]
 | refine Qc (id:=4) Zo [] (by kernel_rfl) ?_;simp [-zg,-zd,↓Qb,↓Qa,go_sem]
 | refine Qc (id:=5) Zo [] (by kernel_rfl) ?_;simp [-zg,-zd,↓Qb,↓Qa,go_sem]
 | (have cy:k < ys.length:=by omega);refine Zg (id:=6) Zo mixed [] [5] (by kernel_rfl) (by kernel_rfl) (by simp [-zg,-zd,↓Qb,↓Qa,go_sem,c14,Qh c14,zsP c14,cy,Qh cy,zsP cy]) ?_;simp [-zg,-zd,↓Qb,↓Qa,go_sem,c14,Qh c14,zsP c14,cy,Qh cy,zsP cy]
 | refine Qc (id:=7) Zo [] (by kernel_rfl) ?_;simp [-zg,-zd,↓Qb,↓Qa,go_sem]
 | refine Qc (id:=8) Zo [] (by kernel_rfl) ?_;simp [-zg,-zd,↓Qb,↓Qa,go_sem,wrapS (k:=k) (by omega)]
 | refine Qc (id:=9) Zo [] (by kernel_rfl) ?_;simp [-zg,-zd,↓Qb,↓Qa,go_sem]
 | refine Qe (c:=.tmp 10) ?_;simp [-zg,-zd,↓Qb,↓Qa,go_sem];try first | (refine ⟨?_,?_⟩ <;> refine zA ?_) | (refine ⟨fun c10=>?_,fun c10=>?_⟩ <;> (try simp [B_iff,B_not] at c10))
 | refine Qe (c:=.tmp 14) ?_;simp [-zg,-zd,↓Qb,↓Qa,go_sem];try first | (refine ⟨?_,?_⟩ <;> refine zA ?_) | (refine ⟨fun c14=>?_,fun c14=>?_⟩ <;> (try simp [B_iff,B_not] at c14))
 | refine Qe (c:=.tmp 24) ?_;simp [-zg,-zd,↓Qb,↓Qa,go_sem];try first | (refine ⟨?_,?_⟩ <;> refine zA ?_) | (refine ⟨fun c24=>?_,fun c24=>?_⟩ <;> (try simp [B_iff,B_not] at c24))
 | (refine Qf (id:=0) (Xc (ι:=Nat) (fun k:Nat=>⟨(upd (upd (upd (upd (upd (fun _=>.any) 0 (li cI xs)) 1 (li cI ys)) 11 (li cI xs)) 12 (.int .i64 xs.length)) 13 (.int .i64 k)),fun _=>none⟩) (fun k=>k ≤ xs.length ∧ NoneTill (neAt xs ys) k) (fun k=>xs.length - k) (0) ?_ ?_ ?_);exact ⟨Nat.zero_le _,.zero _⟩;((repeat' (first | exact Qi (by assumption) | exact Qk | refine Ql ?_ ?_ | refine Qj ?_)) <;> simp [-zg,-zd,↓Qb,↓Qa,go_sem]);rintro k ⟨hk,ht⟩)
 | (refine ⟨k + 1,⟨by omega,ht.succ (by simp [neAt,c24])⟩,by first | omega | (simp;done) | (simp;omega),?_⟩;((repeat' (first | exact Qi (by assumption) | exact Qk | refine Ql ?_ ?_ | refine Qj ?_)) <;> simp [-zg,-zd,↓Qb,↓Qa,go_sem]))
 | (refine Qf ?_)
 | (refine Qq ?_;simp [-zg,-zd,↓Qb,↓Qa,go_sem])
 | (refine Qp ?_;simp [-zg,-zd,↓Qb,↓Qa,go_sem])
 | (refine Qs ?_;simp [-zg,-zd,↓Qb,↓Qa,go_sem,Try.results49])
 | (intro hx;refine zA ?_)
 | (refine ⟨?_,?_⟩ <;> refine zA ?_)
 | (intro hx;constructor <;> intro hs)
 | (constructor <;> intro hs)
 | (refine ⟨?_,fun hs=>?_⟩;refine zA ?_)
 | (refine ⟨fun hs=>?_,?_⟩;rotate_left;refine zA ?_;rotate_left)))
  all_goals (first
 | (rintro rfl;simp at c10;done)
 | (rintro rfl;exact c24 rfl)
 | exact zabd (by omega) ht (by omega)
 | skip)
@[go_sem] def zaam:Con:=.pure fun
  | [.list n_xs c_xs,.list n_ys c_ys]=>((Is cI n_xs c_xs) ∧ (Is cI n_ys c_ys),.bool (decide ((de cI c_xs) = (de cI c_ys))))
  | _=>(False,.any)
theorem zacy:ConOk Try.prog 49 zaam:=by
  refine ⟨Qn Try.func49 (by decide) rfl,fun args h=>?_⟩
  revert h
  dsimp only
  split
  · intro h
    obtain ⟨⟨xs,rfl,rfl⟩,⟨ys,rfl,rfl⟩⟩:=h
    try simp only [Qt] at *
    exact ⟨zafx xs ys,by simp [go_sem]⟩
  · intro h
    exact h.elim
@[go_sem] def Γ14:FuncId → Con:=ext Γ13 49 zaam
theorem Γ14_ok:∀ g,ConOk Try.prog g (Γ14 g):=Qo Zo zacy

@[go_sem] def Γ15:FuncId → Con:=Γ14
theorem Γ15_ok:∀ g,ConOk Try.prog g (Γ15 g):=Γ14_ok

@[go_sem] def Γ16:FuncId → Con:=Γ15
theorem Γ16_ok:∀ g,ConOk Try.prog g (Γ16 g):=Γ15_ok

@[go_sem] def Γ17:FuncId → Con:=Γ16
theorem Γ17_ok:∀ g,ConOk Try.prog g (Γ17 g):=Γ16_ok

@[go_sem] def Γ18:FuncId → Con:=Γ17
theorem Jk:∀ g,ConOk Try.prog g (Γ18 g):=Γ17_ok

theorem szGraph_pure (a:List Ints2) (b:List (List Int)) (left:Int) (h0:-1 ≤ left) (h1:left ≤ 1048576):Pure Try.prog 13 [.st [li cP a,li cL b],.int .i64 left] (.int .i64 (szOf left ((a.length + msum mP a a.length) + (b.length + msum mL b b.length)))):=by
  refine Pure.of_walk Try.func13 rfl (by simp [Try.f13]) (by simp [-zd,go_sem]) fun B hK=>?_
  (repeat' (first
 | refine Qr ?_
 | refine Qc (id:=0) Jk [] (by kernel_rfl) ?_;simp [-zg,-zd,↓Qb,↓Qa,go_sem];try (refine Xh hK 2 ?_;simp [go_sem])
 | refine Qc (id:=1) Jk [] (by kernel_rfl) ?_;simp [-zg,-zd,↓Qb,↓Qa,go_sem,h0,h1]
 | refine Qc (id:=2) Jk [] (by kernel_rfl) ?_;simp [-zg,-zd,↓Qb,↓Qa,go_sem]
 | refine Qc (id:=3) Jk [] (by kernel_rfl) ?_;simp [-zg,-zd,↓Qb,↓Qa,go_sem]
 | refine Qc (id:=4) Jk [] (by kernel_rfl) ?_;simp [-zg,-zd,↓Qb,↓Qa,go_sem,szOf_lo h0,szOf_hi h1]
 | refine Qc (id:=5) Jk [] (by kernel_rfl) ?_;simp [-zg,-zd,↓Qb,↓Qa,go_sem]
 | refine Qc (id:=6) Jk [] (by kernel_rfl) ?_;simp [-zg,-zd,↓Qb,↓Qa,go_sem]
 | refine Qc (id:=7) Jk [] (by kernel_rfl) ?_;simp [-zg,-zd,↓Qb,↓Qa,go_sem,Zs h0]
 | refine Qe (c:=.tmp 10) ?_;simp [-zg,-zd,↓Qb,↓Qa,go_sem];try first | (refine ⟨?_,?_⟩ <;> refine zA ?_) | (refine ⟨fun c10=>?_,fun c10=>?_⟩ <;> (try simp [B_iff,B_not] at c10))
 | refine Qe (c:=.tmp 16) ?_;simp [-zg,-zd,↓Qb,↓Qa,go_sem];try first | (refine ⟨?_,?_⟩ <;> refine zA ?_) | (refine ⟨fun c16=>?_,fun c16=>?_⟩ <;> (try simp [B_iff,B_not] at c16))
 | (refine Qf ?_)
 | (refine Qq ?_;simp [-zg,-zd,↓Qb,↓Qa,go_sem])
 | (refine Qp ?_;simp [-zg,-zd,↓Qb,↓Qa,go_sem])
 | (refine Qs ?_;simp [-zg,-zd,↓Qb,↓Qa,go_sem,Try.results13])
 | (intro hx;refine zA ?_)
 | (refine ⟨?_,?_⟩ <;> refine zA ?_)
 | (intro hx;constructor <;> intro hs)
 | (constructor <;> intro hs)
 | (refine ⟨?_,fun hs=>?_⟩;refine zA ?_)
 | (refine ⟨fun hs=>?_,?_⟩;rotate_left;refine zA ?_;rotate_left)))
  all_goals (first
 | exact (zadx (by assumption) h0 (by omega)).symm
 | (rw [Zs h0] at *;exact (zadx (by assumption) h0 (by omega)).symm)
 | (rw [Zs h0])
 | skip)
@[go_sem] def zacc:Con:=.pure fun
  | [.st [.list n_a c_a,.list n_b c_b],.int .i64 left]=>((Is cP n_a c_a) ∧ (Is cL n_b c_b) ∧ (-1 ≤ left) ∧ (left ≤ 1048576),.int .i64 (szOf left (((de cP c_a).length + msum mP (de cP c_a) (de cP c_a).length) + ((de cL c_b).length + msum mL (de cL c_b) (de cL c_b).length))))
  | _=>(False,.any)
theorem zafu:ConOk Try.prog 13 zacc:=by
  refine ⟨Qn Try.func13 (by decide) rfl,fun args h=>?_⟩
  revert h
  dsimp only
  split
  · intro h
    obtain ⟨⟨a,rfl,rfl⟩,⟨b,rfl,rfl⟩,h0,h1⟩:=h
    try simp only [Qt] at *
    exact ⟨szGraph_pure a b _ h0 h1,by simp [go_sem]⟩
  · intro h
    exact h.elim
@[go_sem] def Γ19:FuncId → Con:=ext Γ18 13 zacc
theorem zahw:∀ g,ConOk Try.prog g (Γ19 g):=Qo Jk zafu

theorem toGraph_pure (a:List Ints2) (b:List (List Int)) (h0:a.length + msum mP a a.length ≤ 1048576) (h1:b.length + msum mL b b.length ≤ 1048576):Pure Try.prog 15 [.st [li cP a,li cL b]] (.st [fr 2 oP a,fr 1 oL b]):=by
  refine Pure.of_walk Try.func15 rfl (by simp [Try.f15]) (by simp [-zd,go_sem]) fun B hK=>?_
  (repeat' (first
 | refine Qr ?_
 | refine Qc (id:=0) zahw [] (by kernel_rfl) ?_;simp [-zg,-zd,↓Qb,↓Qa,go_sem];try (refine Xh hK 1 ?_;simp [go_sem])
 | refine Qc (id:=1) zahw [] (by kernel_rfl) ?_;simp [-zg,-zd,↓Qb,↓Qa,go_sem];try (refine zadw 3 rfl fun b3 hb3=>?_)
 | refine Qc (id:=2) zahw [] (by kernel_rfl) ?_;simp [-zg,-zd,↓Qb,↓Qa,go_sem,h0,h1]
 | refine Qc (id:=3) zahw [] (by kernel_rfl) ?_;simp [-zg,-zd,↓Qb,↓Qa,go_sem,h0,h1]
 | refine Qc (id:=4) zahw [] (by kernel_rfl) ?_;simp [-zg,-zd,↓Qb,↓Qa,go_sem]
 | (refine Qf ?_)
 | (refine Qq ?_;simp [-zg,-zd,↓Qb,↓Qa,go_sem])
 | (refine Qp ?_;simp [-zg,-zd,↓Qb,↓Qa,go_sem])
 | (refine Qs ?_;simp [-zg,-zd,↓Qb,↓Qa,go_sem,Try.results15])
 | (intro hx;refine zA ?_)
 | (refine ⟨?_,?_⟩ <;> refine zA ?_)
 | (intro hx;constructor <;> intro hs)
 | (constructor <;> intro hs)
 | (refine ⟨?_,fun hs=>?_⟩;refine zA ?_)
 | (refine ⟨fun hs=>?_,?_⟩;rotate_left;refine zA ?_;rotate_left)))
@[go_sem] def zabz:Con:=.pure fun
  | [.st [.list n_a c_a,.list n_b c_b]]=>((Is cP n_a c_a) ∧ (Is cL n_b c_b) ∧ ((de cP c_a).length + msum mP (de cP c_a) (de cP c_a).length ≤ 1048576) ∧ ((de cL c_b).length + msum mL (de cL c_b) (de cL c_b).length ≤ 1048576),.st [fr 2 oP (de cP c_a),fr 1 oL (de cL c_b)])
  | _=>(False,.any)
theorem zafr:ConOk Try.prog 15 zabz:=by
  refine ⟨Qn Try.func15 (by decide) rfl,fun args h=>?_⟩
  revert h
  dsimp only
  split
  · intro h
    obtain ⟨⟨a,rfl,rfl⟩,⟨b,rfl,rfl⟩,h0,h1⟩:=h
    try simp only [Qt] at *
    exact ⟨toGraph_pure a b h0 h1,by simp [go_sem]⟩
  · intro h
    exact h.elim
@[go_sem] def Γ20:FuncId → Con:=ext Γ19 15 zabz
theorem zafm:∀ g,ConOk Try.prog g (Γ20 g):=Qo zahw zafr

theorem eqGraph_pure (a:List Ints2) (b:List (List Int)) (c:List Ints2) (d:List (List Int))  : Pure Try.prog 19 [.st [li cP a,li cL b],.st [li cP c,li cL d]] (.bool (decide (a = c) && decide (b = d))):=by
  refine Pure.of_walk Try.func19 rfl (by simp [Try.f19]) (by simp [-zd,go_sem]) fun B hK=>?_
  (repeat' (first
 | refine Qr ?_
 | refine Qc (id:=0) zafm [] (by kernel_rfl) ?_;simp [-zg,-zd,↓Qb,↓Qa,go_sem];try (refine Xh hK 2 ?_;simp [go_sem];refine Xh hK 3 ?_;simp [go_sem])
 | refine Qc (id:=1) zafm [] (by kernel_rfl) ?_;simp [-zg,-zd,↓Qb,↓Qa,go_sem]
 | refine Qc (id:=2) zafm [] (by kernel_rfl) ?_;simp [-zg,-zd,↓Qb,↓Qa,go_sem]
 | refine Qc (id:=3) zafm [] (by kernel_rfl) ?_;simp [-zg,-zd,↓Qb,↓Qa,go_sem]
 | refine Qc (id:=4) zafm [] (by kernel_rfl) ?_;simp [-zg,-zd,↓Qb,↓Qa,go_sem]
 | refine Qc (id:=5) zafm [] (by kernel_rfl) ?_;simp [-zg,-zd,↓Qb,↓Qa,go_sem]
 | refine Qe (c:=.tmp 10) ?_;simp [-zg,-zd,↓Qb,↓Qa,go_sem];try first | (refine ⟨?_,?_⟩ <;> refine zA ?_) | (refine ⟨fun c10=>?_,fun c10=>?_⟩ <;> (try simp [B_iff,B_not] at c10))
 | refine Qe (c:=.tmp 16) ?_;simp [-zg,-zd,↓Qb,↓Qa,go_sem];try first | (refine ⟨?_,?_⟩ <;> refine zA ?_) | (refine ⟨fun c16=>?_,fun c16=>?_⟩ <;> (try simp [B_iff,B_not] at c16))
 | (refine Qf ?_)
 | (refine Qq ?_;simp [-zg,-zd,↓Qb,↓Qa,go_sem])
 | (refine Qp ?_;simp [-zg,-zd,↓Qb,↓Qa,go_sem])
 | (refine Qs ?_;simp [-zg,-zd,↓Qb,↓Qa,go_sem,Try.results19])
 | (intro hx;refine zA ?_)
 | (refine ⟨?_,?_⟩ <;> refine zA ?_)
 | (intro hx;constructor <;> intro hs)
 | (constructor <;> intro hs)
 | (refine ⟨?_,fun hs=>?_⟩;refine zA ?_)
 | (refine ⟨fun hs=>?_,?_⟩;rotate_left;refine zA ?_;rotate_left)))
  all_goals (first
 | (simp_all;done)
 | (intros;simp_all;done)
 | skip)
@[go_sem] def zacg:Con:=.pure fun
  | [.st [.list n_a c_a,.list n_b c_b],.st [.list n_c c_c,.list n_d c_d]]=>((Is cP n_a c_a) ∧ (Is cL n_b c_b) ∧ (Is cP n_c c_c) ∧ (Is cL n_d c_d),.bool (decide ((de cP c_a) = (de cP c_c)) && decide ((de cL c_b) = (de cL c_d))))
  | _=>(False,.any)
theorem zagy:ConOk Try.prog 19 zacg:=by
  refine ⟨Qn Try.func19 (by decide) rfl,fun args h=>?_⟩
  revert h
  dsimp only
  split
  · intro h
    obtain ⟨⟨a,rfl,rfl⟩,⟨b,rfl,rfl⟩,⟨c,rfl,rfl⟩,⟨d,rfl,rfl⟩⟩:=h
    try simp only [Qt] at *
    exact ⟨eqGraph_pure a b c d,by simp [go_sem]⟩
  · intro h
    exact h.elim
@[go_sem] def Γ21:FuncId → Con:=ext Γ20 19 zacg
theorem Γ21_ok:∀ g,ConOk Try.prog g (Γ21 g):=Qo zafm zagy

@[go_sem] def Γ22:FuncId → Con:=Γ21
theorem Γ22_ok:∀ g,ConOk Try.prog g (Γ22 g):=Γ21_ok

@[go_sem] def Γ23:FuncId → Con:=Γ22
theorem Xe:∀ g,ConOk Try.prog g (Γ23 g):=Γ22_ok
end
end Go.Proofs.Ytmiimodggpjkmaa.Vm

