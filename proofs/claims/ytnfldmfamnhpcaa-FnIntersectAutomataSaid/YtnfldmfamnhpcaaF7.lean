import Derived.Test.YtnfldmfamnhpcaaF3
/-
  Valid graphs, both ways. No conditions.
-/
namespace Go.Proofs.Ytnfldmfamnhpcaa.Vm
open Go
open List renaming getD_eq_getElem?_getD → zg,drop_one → zd
noncomputable section
set_option linter.unusedVariables false
set_option linter.unusedSimpArgs false
set_option maxRecDepth 200000

def ValsOk (xs:List Int):Prop:=xs.length = 3 ∧ ∀ i,i < xs.length → 0 ≤ nth xs i ∧ nth xs i ≤ 3
def Dist (xs:List Int) (n:Int):Prop:=∀ i,i < xs.length → 0 ≤ nth xs i ∧ nth xs i ≤ n - 1 ∧ ¬ nth xs i ∈ xs.take i
theorem pigeon:∀ (n:Nat) (xs:List Int),xs.Nodup → (∀ x ∈ xs,0 ≤ x ∧ x < n) → xs.length ≤ n
  | 0,xs,_,h=>by
    cases xs with
    | nil=>simp
    | cons x xs=>have:=h x (by simp);omega
  | n + 1,xs,hn,h=>by
    have:=pigeon n (xs.erase n) (hn.erase _) fun x hx=>by
      have h1:=h x (List.mem_of_mem_erase hx)
      have h2:x ≠ n:=fun e=>by subst e;exact (List.Nodup.not_mem_erase hn) hx
      omega
    rw [List.length_erase] at this
    split at this <;> omega
theorem Dist.nodup {xs:List Int} {n:Int} (h:Dist xs n):xs.Nodup:=by
  rw [List.nodup_iff_pairwise_ne,List.pairwise_iff_getElem]
  intro i j hi hj hij e
  have:=(h j hj).2.2
  apply this
  rw [Ww]
  exact ⟨i,by simp;omega,by rw [Vq hij,Qy hi,Qy hj,e]⟩
theorem Dist.len {xs:List Int} {n:Nat} (h:Dist xs n):xs.length ≤ n :=
  pigeon n xs h.nodup fun x hx=>by
    rw [Ww] at hx
    obtain ⟨i,hi,rfl⟩:=hx
    have:=h i hi
    omega
def GraphOk (a:List Ints2) (b:List (List Int)):Prop :=
  1 ≤ a.length ∧ a.length ≤ 60 ∧ b.length = a.length ∧ (∀ i,i < a.length → ValsOk (nth a i).2) ∧ ∀ i,i < b.length → 1 ≤ (nth b i).length ∧ Dist (nth b i) a.length

@[go_sem] def Γ24:FuncId → Con:=Γ23
theorem Γ24_ok:∀ g,ConOk Try.prog g (Γ24 g):=Γ23_ok

@[go_sem] def Γ25:FuncId → Con:=Γ24
theorem Γ25_ok:∀ g,ConOk Try.prog g (Γ25 g):=Γ24_ok
@[go_sem] def Γ26:FuncId → Con:=Γ25
theorem Γ26_ok:∀ g,ConOk Try.prog g (Γ26 g):=Γ25_ok

@[go_sem] def Γ27:FuncId → Con:=Γ26
theorem Γ27_ok:∀ g,ConOk Try.prog g (Γ27 g):=Γ26_ok

@[go_sem] def Γ28:FuncId → Con:=Γ27
theorem Γ28_ok:∀ g,ConOk Try.prog g (Γ28 g):=Γ27_ok

@[go_sem] def Γ29:FuncId → Con:=Γ28
theorem Γ29_ok:∀ g,ConOk Try.prog g (Γ29 g):=Γ28_ok

@[go_sem] def Γ30:FuncId → Con:=Γ29
theorem Γ30_ok:∀ g,ConOk Try.prog g (Γ30 g):=Γ29_ok

@[go_sem] def Γ31:FuncId → Con:=Γ30
theorem Γ31_ok:∀ g,ConOk Try.prog g (Γ31 g):=Γ30_ok

@[go_sem] def Γ32:FuncId → Con:=Γ31
theorem Uw:∀ g,ConOk Try.prog g (Γ32 g):=Γ31_ok

def isN (n:Int) (x:Int):Bool:=decide (n = x)
theorem findI_isN {n:Int} {xs:List Int}:(0 ≤ findI (isN n) xs) = (n ∈ xs):=by
  rw [findI_ge,Ww];simp only [isN,decide_eq_true_eq]
  rw [eq_iff_iff];exact ⟨fun ⟨i,h,e⟩=>⟨i,h,e.symm⟩,fun ⟨i,h,e⟩=>⟨i,h,e.symm⟩⟩

theorem index_pure (xs:List Int) (n:Int)  : Pure Try.prog 105 [li cI xs,.int .i64 n] (.int .i64 (findI (isN n) xs)):=by
  refine Pure.of_walk Try.func105 rfl (by simp [Try.f105]) (by simp [-zd,go_sem]) fun B hK=>?_
  (repeat' (first
 | refine Qu ?_
 | (refine Vb 0 rfl fun hm=>?_);refine Qc (id:=0) Uw [] (by kernel_rfl) ?_;simp [-zg,-zd,↓Qb,↓Qa,go_sem]
 | refine Qc (id:=1) Uw [] (by kernel_rfl) ?_;simp [-zg,-zd,↓Qb,↓Qa,go_sem]
 | refine Qc (id:=2) Uw [] (by kernel_rfl) ?_;simp [-zg,-zd,↓Qb,↓Qa,go_sem]
 | refine Qc (id:=3) Uw [] (by kernel_rfl) ?_;simp [-zg,-zd,↓Qb,↓Qa,go_sem]
 | refine Qc (id:=4) Uw [] (by kernel_rfl) ?_;simp [-zg,-zd,↓Qb,↓Qa,go_sem,c9,Qj c9,Nat.sub_pos_of_lt c9]
 | refine Qc (id:=5) Uw [] (by kernel_rfl) ?_;simp [-zg,-zd,↓Qb,↓Qa,go_sem]
 | refine Qc (id:=6) Uw [] (by kernel_rfl) ?_;simp [-zg,-zd,↓Qb,↓Qa,go_sem,wrapS (k:=k) (by omega)]
 | refine Qc (id:=7) Uw [] (by kernel_rfl) ?_;simp [-zg,-zd,↓Qb,↓Qa,go_sem]
 | refine Qd (c:=.tmp 9) ?_;simp [-zg,-zd,↓Qb,↓Qa,go_sem];try first | (refine ⟨?_,?_⟩ <;> refine zA ?_) | (refine ⟨fun c9=>?_,fun c9=>?_⟩ <;> (try simp [B_iff,B_not] at c9))
 | refine Qd (c:=.tmp 16) ?_;simp [-zg,-zd,↓Qb,↓Qa,go_sem];try first | (refine ⟨?_,?_⟩ <;> refine zA ?_) | (refine ⟨fun c16=>?_,fun c16=>?_⟩ <;> (try simp [B_iff,B_not] at c16))
 | (refine Qe (id:=0) (Qz (ι:=Nat) (fun k:Nat=>⟨(upd (upd (upd (upd (upd (fun _=>.any) 0 (li cI xs)) 1 (.int .i64 n)) 6 (li cI xs)) 7 (.int .i64 xs.length)) 8 (.int .i64 k)),fun _=>none⟩) (fun k=>k ≤ xs.length ∧ NoneTill (fun i=>isN n (nth xs i)) k) (fun k=>xs.length - k) (0) ?_ ?_ ?_);exact ⟨Nat.zero_le _,.zero _⟩;((repeat' (first | exact Qg (by assumption) | exact Qi | refine Qf ?_ ?_ | refine Qh ?_)) <;> simp [-zg,-zd,↓Qb,↓Qa,go_sem]);rintro k ⟨hk,ht⟩)
 | (refine ⟨k + 1,⟨by omega,ht.succ (by simp_all [isN])⟩,by first | omega | (simp;done) | (simp;omega),?_⟩;((repeat' (first | exact Qg (by assumption) | exact Qi | refine Qf ?_ ?_ | refine Qh ?_)) <;> simp [-zg,-zd,↓Qb,↓Qa,go_sem]))
 | (refine Qe ?_)
 | (refine Qt ?_;simp [-zg,-zd,↓Qb,↓Qa,go_sem])
 | (refine Qs ?_;simp [-zg,-zd,↓Qb,↓Qa,go_sem])
 | (refine Qv ?_;simp [-zg,-zd,↓Qb,↓Qa,go_sem,Try.results105])
 | (intro hx;refine zA ?_)
 | (refine ⟨?_,?_⟩ <;> refine zA ?_)
 | (intro hx;constructor <;> intro hs)
 | (constructor <;> intro hs)
 | (refine ⟨?_,fun hs=>?_⟩;refine zA ?_)
 | (refine ⟨fun hs=>?_,?_⟩;rotate_left;refine zA ?_;rotate_left)))
  all_goals (first
 | (rw [findI_at ht c9 (by simp_all [isN])])
 | (rw [zahj ht (by omega)])
 | skip)
@[go_sem] def zaij:Con:=.pure fun
  | [.list n_xs c_xs,.int .i64 n]=>((Is cI n_xs c_xs),.int .i64 (findI (isN n) (de cI c_xs)))
  | _=>(False,.any)
theorem index_pureC_ok:ConOk Try.prog 105 zaij:=by
  refine ⟨Qp Try.func105 (by decide) rfl,fun args h=>?_⟩
  revert h
  dsimp only
  split
  · intro h
    obtain ⟨xs,rfl,rfl⟩:=h
    try simp only [Qr] at *
    exact ⟨index_pure xs _,by simp [go_sem]⟩
  · intro h
    exact h.elim
@[go_sem] def Γ33:FuncId → Con:=ext Γ32 105 zaij
theorem Γ33_ok:∀ g,ConOk Try.prog g (Γ33 g):=Qo Uw index_pureC_ok

theorem contains_pure (xs:List Int) (n:Int)  : Pure Try.prog 85 [li cI xs,.int .i64 n] (.bool (B (n ∈ xs))):=by
  refine Pure.of_walk Try.func85 rfl (by simp [Try.f85]) (by simp [-zd,go_sem]) fun B hK=>?_
  (repeat' (first
 | refine Qu ?_
 | refine Qc (id:=0) Γ33_ok [] (by kernel_rfl) ?_;simp [-zg,-zd,↓Qb,↓Qa,go_sem,findI_isN]
 | refine Qc (id:=1) Γ33_ok [] (by kernel_rfl) ?_;simp [-zg,-zd,↓Qb,↓Qa,go_sem,findI_isN]
 | (refine Qe ?_)
 | (refine Qt ?_;simp [-zg,-zd,↓Qb,↓Qa,go_sem])
 | (refine Qs ?_;simp [-zg,-zd,↓Qb,↓Qa,go_sem])
 | (refine Qv ?_;simp [-zg,-zd,↓Qb,↓Qa,go_sem,Try.results85,findI_isN])
 | (intro hx;refine zA ?_)
 | (refine ⟨?_,?_⟩ <;> refine zA ?_)
 | (intro hx;constructor <;> intro hs)
 | (constructor <;> intro hs)
 | (refine ⟨?_,fun hs=>?_⟩;refine zA ?_)
 | (refine ⟨fun hs=>?_,?_⟩;rotate_left;refine zA ?_;rotate_left)))
  all_goals (rw [Bool.eq_iff_iff,B_iff,decide_eq_true_eq])
@[go_sem] def zaeb:Con:=.pure fun
  | [.list n_xs c_xs,.int .i64 n]=>((Is cI n_xs c_xs),.bool (B (n ∈ (de cI c_xs))))
  | _=>(False,.any)
theorem zajj:ConOk Try.prog 85 zaeb:=by
  refine ⟨Qp Try.func85 (by decide) rfl,fun args h=>?_⟩
  revert h
  dsimp only
  split
  · intro h
    obtain ⟨xs,rfl,rfl⟩:=h
    try simp only [Qr] at *
    exact ⟨contains_pure xs _,by simp [go_sem]⟩
  · intro h
    exact h.elim
@[go_sem] def Γ34:FuncId → Con:=ext Γ33 85 zaeb
theorem Γ34_ok:∀ g,ConOk Try.prog g (Γ34 g):=Qo Γ33_ok zajj

@[go_sem] def Γ35:FuncId → Con:=Γ34
theorem Γ35_ok:∀ g,ConOk Try.prog g (Γ35 g):=Γ34_ok
@[go_sem] def Γ36:FuncId → Con:=Γ35
theorem Γ36_ok:∀ g,ConOk Try.prog g (Γ36 g):=Γ35_ok

@[go_sem] def Γ37:FuncId → Con:=Γ36
theorem Γ37_ok:∀ g,ConOk Try.prog g (Γ37 g):=Γ36_ok

@[go_sem] def Γ38:FuncId → Con:=Γ37
theorem Γ38_ok:∀ g,ConOk Try.prog g (Γ38 g):=Γ37_ok

@[go_sem] def Γ39:FuncId → Con:=Γ38
theorem Γ39_ok:∀ g,ConOk Try.prog g (Γ39 g):=Γ38_ok

def NextTill (xs:List Int) (n k:Nat):Prop:=AllTill (fun i=>0 ≤ nth xs i ∧ nth xs i < n ∧ ¬ nth xs i ∈ xs.take i) k
theorem NextTill.dist {xs:List Int} {n k:Nat} (h:NextTill xs n k) (hk:xs.length ≤ k):Dist xs n:=fun i hi=>by obtain ⟨h1,h2,h3⟩:=h i (by omega);exact ⟨h1,by omega,h3⟩
theorem Dist.at {xs:List Int} {n:Nat} (h:Dist xs n) {k:Nat} (hk:k < xs.length):0 ≤ nth xs k ∧ nth xs k < n ∧ ¬ nth xs k ∈ xs.take k:=by obtain ⟨h1,h2,h3⟩:=h k hk;exact ⟨h1,by omega,h3⟩
@[go_sem] def Γ40:FuncId → Con:=Γ39
theorem Γ40_ok:∀ g,ConOk Try.prog g (Γ40 g):=Γ39_ok

def StepOk (a:List Ints2) (b:List (List Int)) (p:List Int) (i:Nat):Prop:=0 ≤ nth p i ∧ nth p i < a.length ∧ (0 < i → nth p i ∈ nth b (nth p (i - 1)).toNat)
def PathOk (a:List Ints2) (b:List (List Int)) (p:List Int):Prop:=GraphOk a b ∧ 1 ≤ p.length ∧ ∀ i,i < p.length → StepOk a b p i

@[go_sem] def Γ41:FuncId → Con:=Γ40
theorem Γ41_ok:∀ g,ConOk Try.prog g (Γ41 g):=Γ40_ok

@[go_sem] def Γ42:FuncId → Con:=Γ41
theorem Γ42_ok:∀ g,ConOk Try.prog g (Γ42 g):=Γ41_ok

@[go_sem] def Γ43:FuncId → Con:=Γ42
theorem Γ43_ok:∀ g,ConOk Try.prog g (Γ43 g):=Γ42_ok

@[go_sem] def Γ44:FuncId → Con:=Γ43
theorem Γ44_ok:∀ g,ConOk Try.prog g (Γ44 g):=Γ43_ok

@[go_sem] def Γ45:FuncId → Con:=Γ44
theorem Wu:∀ g,ConOk Try.prog g (Γ45 g):=Γ44_ok

theorem grow_spec (n:Int) (H:Hp) (h0:0 ≤ n) (h1:n ≤ 1048576):Spec Try.prog 103 [.nil,.int .i64 n] H (.fr 1 0 []) H:=by
  refine Spec.of_walk Try.func103 rfl (by simp [Try.f103]) fun B=>?_
  (repeat' (first
 | refine Qu ?_
 | refine Qc (id:=0) Wu [] (by kernel_rfl) ?_;simp [-zg,-zd,↓Qb,↓Qa,go_sem]
 | refine Qc (id:=1) Wu [] (by kernel_rfl) ?_;simp [-zg,-zd,↓Qb,↓Qa,go_sem]
 | refine Qc (id:=2) Wu [] (by kernel_rfl) ?_;simp [-zg,-zd,↓Qb,↓Qa,go_sem]
 | refine Qc (id:=3) Wu [] (by kernel_rfl) ?_;simp [-zg,-zd,↓Qb,↓Qa,go_sem,(by decide:IntKind.i64.wrap 0 = 0),Qw (x:=n) (by omega) (by omega)]
 | refine Qc (id:=4) Wu [] (by kernel_rfl) ?_;simp [-zg,-zd,↓Qb,↓Qa,go_sem]
 | refine Qc (id:=5) Wu [] (by kernel_rfl) ?_;simp [-zg,-zd,↓Qb,↓Qa,go_sem,(by omega:(1:Int) ≤ n),(by omega:n ≤ 9223372036854775807),(by omega:n.toNat * 8 ≤ 281474976710656),(by omega:0 ≤ n),(by omega:(0:Int) ≤ max n 0)]
 | (first | refine Wq 0 1 rfl ?_ | skip);refine Qc (id:=6) Wu [] (by kernel_rfl) ?_;simp [-zg,-zd,↓Qb,↓Qa,go_sem]
 | refine Qd (c:=.tmp 6) ?_;simp [-zg,-zd,↓Qb,↓Qa,go_sem];try first | (refine ⟨?_,?_⟩ <;> refine zA ?_) | (refine ⟨fun c6=>?_,fun c6=>?_⟩ <;> (try simp [B_iff,B_not] at c6))
 | refine Qd (c:=.tmp 16) ?_;simp [-zg,-zd,↓Qb,↓Qa,go_sem];try first | (refine ⟨?_,?_⟩ <;> refine zA ?_) | (refine ⟨fun c16=>?_,fun c16=>?_⟩ <;> (try simp [B_iff,B_not] at c16))
 | (refine Qe ?_)
 | (refine Qt ?_;simp [-zg,-zd,↓Qb,↓Qa,go_sem])
 | (refine Qs ?_;simp [-zg,-zd,↓Qb,↓Qa,go_sem])
 | (refine Qv ?_;simp [-zg,-zd,↓Qb,↓Qa,go_sem,Try.results103])
 | (intro hx;refine zA ?_)
 | (refine ⟨?_,?_⟩ <;> refine zA ?_)
 | (intro hx;constructor <;> intro hs)
 | (constructor <;> intro hs)
 | (refine ⟨?_,fun hs=>?_⟩;refine zA ?_)
 | (refine ⟨fun hs=>?_,?_⟩;rotate_left;refine zA ?_;rotate_left)
 | (exfalso;omega)))
@[go_sem] def growC:Con:=.gen fun args H=>match args with
  | [.nil,.int .i64 n]=>(0 ≤ n ∧ n ≤ 1048576,.fr 1 0 [],H)
  | _=>(False,.any,H)
theorem growC_ok:ConOk Try.prog 103 growC:=by
  refine ⟨Qp Try.func103 (by decide) rfl,fun args H h=>?_⟩
  revert h
  dsimp only
  split
  · rintro ⟨h0,h1⟩
    exact grow_spec _ H h0 h1
  · intro h
    exact h.elim
@[go_sem] def Γ46:FuncId → Con:=ext Γ45 103 growC
theorem Zy:∀ g,ConOk Try.prog g (Γ46 g):=Qo Wu growC_ok

theorem flat_succ {xss:List (List Int)} {k:Nat} (h:k < xss.length):(xss.take (k + 1)).flatten = (xss.take k).flatten ++ nth xss k:=by
  rw [List.take_succ_eq_append_getElem h,List.flatten_append,Qy h];simp
theorem msum_flat (xss:List (List Int)) (k:Nat):msum mL xss k = ((xss.take k).flatten).length:=by
  simp [msum,List.length_flatten];rfl
@[go_sem] theorem makeD_two (x:D):makeD [x] 2 = [x,x]:=by rw [Jp];rfl
@[go_sem] theorem is_two (a b:List Int) {n m:Nat} (h1:n = a.length) (h2:m = b.length):Is cL 2 [.list n (cat cI a),.list m (cat cI b)] = True:=by subst h1 h2;exact eq_true ⟨[a,b],rfl,rfl⟩
@[go_sem] theorem de_two (a b:List Int) {n m:Nat} (h1:n = a.length) (h2:m = b.length):de cL [.list n (cat cI a),.list m (cat cI b)] = [a,b]:=by
  subst h1 h2
  have:=Qr (f:=cL) [a,b];exact this

theorem concat_pure (xss:List (List Int)) (h0:xss.flatten.length ≤ 1048576):Pure Try.prog 83 [li cL xss] (fr 1 cI xss.flatten):=by
  refine Pure.of_walk Try.func83 rfl (by simp [Try.f83]) (by simp [-zd,go_sem]) fun B hK=>?_
  (repeat' (first
 | refine Qu ?_
 | refine Qc (id:=0) Zy [] (by kernel_rfl) ?_;simp [-zg,-zd,↓Qb,↓Qa,go_sem]
 | refine Qc (id:=1) Zy [] (by kernel_rfl) ?_;simp [-zg,-zd,↓Qb,↓Qa,go_sem]
 | (refine Vb 0 rfl fun hm=>?_;have ht:=msum_flat xss xss.length;(rw [List.take_length] at ht));refine Qc (id:=2) Zy [] (by kernel_rfl) ?_;simp [-zg,-zd,↓Qb,↓Qa,go_sem]
 | refine Qc (id:=3) Zy [] (by kernel_rfl) ?_;simp [-zg,-zd,↓Qb,↓Qa,go_sem]
 | refine Qc (id:=4) Zy [] (by kernel_rfl) ?_;simp [-zg,-zd,↓Qb,↓Qa,go_sem,c12,Qj c12,Nat.sub_pos_of_lt c12]
 | (have hs:=zajr (m:=mL) c12;have hmm:=msum_mono (m:=mL) (xs:=xss) (show k + 1 ≤ xss.length from c12);(simp only [mL] at hs));refine Qc (id:=5) Zy [] (by kernel_rfl) ?_;simp [-zg,-zd,↓Qb,↓Qa,go_sem,Qw (x:=(msum mL xss k:Int) + ((nth xss k).length:Int)) (by omega) (by omega)]
 | refine Qc (id:=6) Zy [] (by kernel_rfl) ?_;simp [-zg,-zd,↓Qb,↓Qa,go_sem]
 | refine Qc (id:=7) Zy [] (by kernel_rfl) ?_;simp [-zg,-zd,↓Qb,↓Qa,go_sem]
 | refine Qc (id:=8) Zy [] (by kernel_rfl) ?_;simp [-zg,-zd,↓Qb,↓Qa,go_sem,wrapS (k:=k) (by omega)]
 | (have hmm:=msum_mono (m:=mL) (xs:=xss) hk);refine Qc (id:=9) Zy [] (by kernel_rfl) ?_;simp [-zg,-zd,↓Qb,↓Qa,go_sem,(by omega:(0:Int) ≤ (msum mL xss k:Int)),(by omega:(msum mL xss k:Int) ≤ 1048576)]
 | refine Qc (id:=10) Zy [] (by kernel_rfl) ?_;simp [-zg,-zd,↓Qb,↓Qa,go_sem]
 | refine Qc (id:=11) Zy [] (by kernel_rfl) ?_;simp [-zg,-zd,↓Qb,↓Qa,go_sem]
 | refine Qc (id:=12) Zy [] (by kernel_rfl) ?_;simp [-zg,-zd,↓Qb,↓Qa,go_sem,c28,Qj c28,Nat.sub_pos_of_lt c28]
 | (have hs:=zajr (m:=mL) c28;have hmm:=msum_mono (m:=mL) (xs:=xss) (show i + 1 ≤ xss.length from c28);(simp only [mL] at hs));refine Qc (id:=13) Zy [] (by kernel_rfl) ?_;simp [-zg,-zd,↓Qb,↓Qa,go_sem,(by omega:msum mL xss i + (nth xss i).length ≤ 9223372036854775807),(by omega:2 * (msum mL xss i + (nth xss i).length) * 8 ≤ 281474976710656)]
 | refine Qc (id:=14) Zy [] (by kernel_rfl) ?_;simp [-zg,-zd,↓Qb,↓Qa,go_sem,wrapS (k:=i) (by omega)]
 | refine Qc (id:=15) Zy [] (by kernel_rfl) ?_;simp [-zg,-zd,↓Qb,↓Qa,go_sem]
 | refine Qd (c:=.tmp 12) ?_;simp [-zg,-zd,↓Qb,↓Qa,go_sem];try first | (refine ⟨?_,?_⟩ <;> refine zA ?_) | (refine ⟨fun c12=>?_,fun c12=>?_⟩ <;> (try simp [B_iff,B_not] at c12))
 | refine Qd (c:=.tmp 20) ?_;simp [-zg,-zd,↓Qb,↓Qa,go_sem];try first | (refine ⟨?_,?_⟩ <;> refine zA ?_) | (refine ⟨fun c20=>?_,fun c20=>?_⟩ <;> (try simp [B_iff,B_not] at c20))
 | refine Qd (c:=.tmp 28) ?_;simp [-zg,-zd,↓Qb,↓Qa,go_sem];try first | (refine ⟨?_,?_⟩ <;> refine zA ?_) | (refine ⟨fun c28=>?_,fun c28=>?_⟩ <;> (try simp [B_iff,B_not] at c28))
 | (refine Qe (id:=0) (Qz (ι:=Nat) (fun k:Nat=>⟨(upd (upd (upd (upd (upd (fun _=>.any) 0 (li cL xss)) 3 (.int .i64 (msum mL xss k))) 9 (li cL xss)) 10 (.int .i64 xss.length)) 11 (.int .i64 k)),fun _=>none⟩) (fun k=>k ≤ xss.length) (fun k=>xss.length - k) (0) ?_ ?_ ?_);exact Nat.zero_le _;((repeat' (first | exact Qg (by assumption) | exact Qi | refine Qf ?_ ?_ | refine Qh ?_)) <;> simp [-zg,-zd,↓Qb,↓Qa,go_sem]);rintro k hk)
 | (refine ⟨k + 1,by omega,by first | omega | (simp;done) | (simp;omega),?_⟩;((repeat' (first | exact Qg (by assumption) | exact Qi | refine Qf ?_ ?_ | refine Qh ?_)) <;> simp [-zg,-zd,↓Qb,↓Qa,go_sem,zajr c12,mL]))
 | (refine Qe (id:=2) (Qz (ι:=Nat) (fun i:Nat=>⟨(upd (upd (upd (upd (fun _=>.any) 6 (.fr 1 (msum mL xss i) (cat cI (xss.take i).flatten))) 25 (li cL xss)) 26 (.int .i64 xss.length)) 27 (.int .i64 i)),fun _=>none⟩) (fun i=>i ≤ xss.length) (fun i=>xss.length - i) (0) ?_ ?_ ?_);exact Nat.zero_le _;((repeat' (first | exact Qg (by assumption) | exact Qi | refine Qf ?_ ?_ | refine Qh ?_)) <;> simp [-zg,-zd,↓Qb,↓Qa,go_sem]);rintro i hi)
 | (refine ⟨i + 1,by omega,by first | omega | (simp;done) | (simp;omega),?_⟩;((repeat' (first | exact Qg (by assumption) | exact Qi | refine Qf ?_ ?_ | refine Qh ?_)) <;> simp [-zg,-zd,↓Qb,↓Qa,go_sem,zajr c28,mL,flat_succ c28,Zi]))
 | (refine Qe ?_)
 | (refine Qt ?_;simp [-zg,-zd,↓Qb,↓Qa,go_sem])
 | (refine Qs ?_;simp [-zg,-zd,↓Qb,↓Qa,go_sem])
 | (refine Qv ?_;simp [-zg,-zd,↓Qb,↓Qa,go_sem,Try.results83])
 | (intro hx;refine zA ?_)
 | (refine ⟨?_,?_⟩ <;> refine zA ?_)
 | (intro hx;constructor <;> intro hs)
 | (constructor <;> intro hs)
 | (refine ⟨?_,fun hs=>?_⟩;refine zA ?_)
 | (refine ⟨fun hs=>?_,?_⟩;rotate_left;refine zA ?_;rotate_left)
 | (exfalso;omega)))
  all_goals (first
 | (obtain rfl:i = xss.length:=(by omega);rw [List.take_length];exact ⟨by rw [ht,List.length_flatten],rfl⟩)
 | skip)
@[go_sem] def zagj:Con:=.pure fun
  | [.list n_xss c_xss]=>((Is cL n_xss c_xss) ∧ ((de cL c_xss).flatten.length ≤ 1048576),fr 1 cI (de cL c_xss).flatten)
  | _=>(False,.any)
theorem zanl:ConOk Try.prog 83 zagj:=by
  refine ⟨Qp Try.func83 (by decide) rfl,fun args h=>?_⟩
  revert h
  dsimp only
  split
  · intro h
    obtain ⟨⟨xss,rfl,rfl⟩,h0⟩:=h
    try simp only [Qr] at *
    exact ⟨concat_pure xss h0,by simp [go_sem]⟩
  · intro h
    exact h.elim
@[go_sem] def Γ47:FuncId → Con:=ext Γ46 83 zagj
theorem Γ47_ok:∀ g,ConOk Try.prog g (Γ47 g):=Qo Zy zanl

@[go_sem] def Γ48:FuncId → Con:=Γ47
theorem Γ48_ok:∀ g,ConOk Try.prog g (Γ48 g):=Γ47_ok


@[go_sem] def Γ49:FuncId → Con:=Γ48
theorem Γ49_ok:∀ g,ConOk Try.prog g (Γ49 g):=Γ48_ok

@[go_sem] def Γ50:FuncId → Con:=Γ49
theorem Γ50_ok:∀ g,ConOk Try.prog g (Γ50 g):=Γ49_ok
end
end Go.Proofs.Ytnfldmfamnhpcaa.Vm

