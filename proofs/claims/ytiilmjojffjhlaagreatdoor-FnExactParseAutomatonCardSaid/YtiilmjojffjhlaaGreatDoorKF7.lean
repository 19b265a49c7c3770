import Derived.Test.YtiilmjojffjhlaaGreatDoorKF3
/-
  Valid graphs, both ways. No conditions.
-/
namespace Go.Proofs.YtiilmjojffjhlaaGreatDoor.Vm
open Go
noncomputable section
set_option linter.unusedVariables false
set_option linter.unusedSimpArgs false
set_option maxRecDepth 200000

def ValsOk (xs:List Int):Prop:=xs.length = 3 ∧ ∀ i,i < xs.length → 0 ≤ nth xs i ∧ nth xs i ≤ 3
def Dist (xs:List Int) (n:Int):Prop:=∀ i,i < xs.length → 0 ≤ nth xs i ∧ nth xs i ≤ n - 1 ∧ ¬ nth xs i ∈ xs.take i
theorem pigeon:∀ (n:Nat) (xs:List Int),xs.Nodup → (∀ x ∈ xs,0 ≤ x ∧ x < n) → xs.length ≤ n
  | 0,xs,_,h=>by
    cases xs with
    | nil=>simp
    | cons x xs=>have:=h x (by simp);omega
  | n + 1,xs,hn,h=>by
    have:=pigeon n (xs.erase n) (hn.erase _) fun x hx=>by
      have h1:=h x (List.mem_of_mem_erase hx)
      have h2:x ≠ n:=fun e=>by subst e;exact (List.Nodup.not_mem_erase hn) hx
      omega
    rw [List.length_erase] at this
    split at this <;> omega
theorem Dist.nodup {xs:List Int} {n:Int} (h:Dist xs n):xs.Nodup:=by
  rw [List.nodup_iff_pairwise_ne,List.pairwise_iff_getElem]
  intro i j hi hj hij e
  have:=(h j hj).2.2
  apply this
  rw [mem_nth]
  exact ⟨i,by simp;omega,by rw [zafq hij,nth_lt hi,nth_lt hj,e]⟩
theorem Dist.len {xs:List Int} {n:Nat} (h:Dist xs n):xs.length ≤ n :=
  pigeon n xs h.nodup fun x hx=>by
    rw [mem_nth] at hx
    obtain ⟨i,hi,rfl⟩:=hx
    have:=h i hi
    omega
def GraphOk (a:List Ints2) (b:List (List Int)):Prop :=
  1 ≤ a.length ∧ a.length ≤ 60 ∧ b.length = a.length ∧ (∀ i,i < a.length → ValsOk (nth a i).2) ∧ ∀ i,i < b.length → 1 ≤ (nth b i).length ∧ Dist (nth b i) a.length

@[go_sem] def Γ24:FuncId → Con:=Γ23
theorem Γ24_ok:∀ g,ConOk Tryz.prog g (Γ24 g):=Γ23_ok

@[go_sem] def Γ25:FuncId → Con:=Γ24
theorem Γ25_ok:∀ g,ConOk Tryz.prog g (Γ25 g):=Γ24_ok
@[go_sem] def Γ26:FuncId → Con:=Γ25
theorem Γ26_ok:∀ g,ConOk Tryz.prog g (Γ26 g):=Γ25_ok

@[go_sem] def Γ27:FuncId → Con:=Γ26
theorem Γ27_ok:∀ g,ConOk Tryz.prog g (Γ27 g):=Γ26_ok

@[go_sem] def Γ28:FuncId → Con:=Γ27
theorem Γ28_ok:∀ g,ConOk Tryz.prog g (Γ28 g):=Γ27_ok

@[go_sem] def Γ29:FuncId → Con:=Γ28
theorem Γ29_ok:∀ g,ConOk Tryz.prog g (Γ29 g):=Γ28_ok

@[go_sem] def Γ30:FuncId → Con:=Γ29
theorem Γ30_ok:∀ g,ConOk Tryz.prog g (Γ30 g):=Γ29_ok

@[go_sem] def Γ31:FuncId → Con:=Γ30
theorem Γ31_ok:∀ g,ConOk Tryz.prog g (Γ31 g):=Γ30_ok

@[go_sem] def Γ32:FuncId → Con:=Γ31
theorem Γ32_ok:∀ g,ConOk Tryz.prog g (Γ32 g):=Γ31_ok

@[go_sem] def Γ33:FuncId → Con:=Γ32
theorem Γ33_ok:∀ g,ConOk Tryz.prog g (Γ33 g):=Γ32_ok

@[go_sem] def Γ34:FuncId → Con:=Γ33
theorem Γ34_ok:∀ g,ConOk Tryz.prog g (Γ34 g):=Γ33_ok

@[go_sem] def Γ35:FuncId → Con:=Γ34
theorem Γ35_ok:∀ g,ConOk Tryz.prog g (Γ35 g):=Γ34_ok
@[go_sem] def Γ36:FuncId → Con:=Γ35
theorem Γ36_ok:∀ g,ConOk Tryz.prog g (Γ36 g):=Γ35_ok

@[go_sem] def Γ37:FuncId → Con:=Γ36
theorem Γ37_ok:∀ g,ConOk Tryz.prog g (Γ37 g):=Γ36_ok

@[go_sem] def Γ38:FuncId → Con:=Γ37
theorem Γ38_ok:∀ g,ConOk Tryz.prog g (Γ38 g):=Γ37_ok

@[go_sem] def Γ39:FuncId → Con:=Γ38
theorem Γ39_ok:∀ g,ConOk Tryz.prog g (Γ39 g):=Γ38_ok

def NextTill (xs:List Int) (n k:Nat):Prop:=AllTill (fun i=>0 ≤ nth xs i ∧ nth xs i < n ∧ ¬ nth xs i ∈ xs.take i) k
theorem NextTill.dist {xs:List Int} {n k:Nat} (h:NextTill xs n k) (hk:xs.length ≤ k):Dist xs n:=fun i hi=>by obtain ⟨h1,h2,h3⟩:=h i (by omega);exact ⟨h1,by omega,h3⟩
theorem Dist.at {xs:List Int} {n:Nat} (h:Dist xs n) {k:Nat} (hk:k < xs.length):0 ≤ nth xs k ∧ nth xs k < n ∧ ¬ nth xs k ∈ xs.take k:=by obtain ⟨h1,h2,h3⟩:=h k hk;exact ⟨h1,by omega,h3⟩
@[go_sem] def Γ40:FuncId → Con:=Γ39
theorem Γ40_ok:∀ g,ConOk Tryz.prog g (Γ40 g):=Γ39_ok

@[go_sem] def Γ41:FuncId → Con:=Γ40
theorem Γ41_ok:∀ g,ConOk Tryz.prog g (Γ41 g):=Γ40_ok

@[go_sem] def Γ42:FuncId → Con:=Γ41
theorem Γ42_ok:∀ g,ConOk Tryz.prog g (Γ42 g):=Γ41_ok

@[go_sem] def Γ43:FuncId → Con:=Γ42
theorem Γ43_ok:∀ g,ConOk Tryz.prog g (Γ43 g):=Γ42_ok

@[go_sem] def Γ44:FuncId → Con:=Γ43
theorem Γ44_ok:∀ g,ConOk Tryz.prog g (Γ44 g):=Γ43_ok

@[go_sem] def Γ45:FuncId → Con:=Γ44
theorem Γ45_ok:∀ g,ConOk Tryz.prog g (Γ45 g):=Γ44_ok

@[go_sem] def Γ46:FuncId → Con:=Γ45
theorem Γ46_ok:∀ g,ConOk Tryz.prog g (Γ46 g):=Γ45_ok

@[go_sem] theorem makeD_two (x:D):makeD [x] 2 = [x,x]:=by rw [zaeq];rfl
@[go_sem] theorem is_two (a b:List Int) {n m:Nat} (h1:n = a.length) (h2:m = b.length):Is cL 2 [.list n (cat cI a),.list m (cat cI b)] = True:=by subst h1 h2;exact eq_true ⟨[a,b],rfl,rfl⟩
@[go_sem] theorem de_two (a b:List Int) {n m:Nat} (h1:n = a.length) (h2:m = b.length):de cL [.list n (cat cI a),.list m (cat cI b)] = [a,b]:=by
  subst h1 h2
  have:=Xb (f:=cL) [a,b];exact this
@[go_sem] def Γ47:FuncId → Con:=Γ46
theorem Γ47_ok:∀ g,ConOk Tryz.prog g (Γ47 g):=Γ46_ok

@[go_sem] def Γ48:FuncId → Con:=Γ47
theorem Γ48_ok:∀ g,ConOk Tryz.prog g (Γ48 g):=Γ47_ok


@[go_sem] def Γ49:FuncId → Con:=Γ48
theorem Γ49_ok:∀ g,ConOk Tryz.prog g (Γ49 g):=Γ48_ok

@[go_sem] def Γ50:FuncId → Con:=Γ49
theorem Γ50_ok:∀ g,ConOk Tryz.prog g (Γ50 g):=Γ49_ok
end
end Go.Proofs.YtiilmjojffjhlaaGreatDoor.Vm

