import Derived.Test.YtnfldmfamnhpcaaJ6
import Derived.Test.YtnfldmfamnhpcaaJ7
import Derived.Test.YtnfldmfamnhpcaaJ8
import Derived.Test.YtnfldmfamnhpcaaTr
/-
  spec.l4Components; Components, both ways. No conditions.
-/
namespace Go.Proofs.Ytnfldmfamnhpcaa.Vm
open Go
noncomputable section
set_option linter.unusedVariables false
set_option linter.unusedSimpArgs false
set_option maxRecDepth 200000

@[go_sem] def Γj2:FuncId → Con:=Γj1
theorem Γj2_ok:∀ g,ConOk Try.prog g (Γj2 g):=Γj1_ok

@[go_sem] def Γj3:FuncId → Con:=Γj2
theorem Γj3_ok:∀ g,ConOk Try.prog g (Γj3 g):=Γj2_ok
@[go_sem] def Γj4:FuncId → Con:=Γj3
theorem Γj4_ok:∀ g,ConOk Try.prog g (Γj4 g):=Γj3_ok

def oNd (x:List Int):D:=if x = [] then .nil else .fr 1 x.length (cat cI x)
def oN (x:List Int):List D:=[oNd x]
theorem oNd_nil:oNd [] = .nil:=rfl
theorem zahv {x:List Int} (h:¬ x = []):oNd x = .fr 1 x.length (cat cI x):=by rw [oNd,if_neg h]
theorem oNd_leaf (x:List Int):leaf (oNd x) = true:=by
  unfold oNd;split <;> rfl
theorem oNd_dat (x:List Int):dat (oNd x) = li cI x:=by
  by_cases h:x = []
  · subst h;simp [oNd_nil,dat,li,cat]
  · rw [zahv h];exact fr_dat x
instance:Wide oN 1:=⟨fun _=>rfl,by omega,fun a=>by simp [oN,oNd_leaf]⟩
instance:Own oN cL 2:=⟨fun a=>by
    by_cases h:a = []
    · subst h;simp [oN,oNd_nil,Zq,closed]
    · simp [oN,zahv h,Zq];exact fr_closed a,fun a=>by simp [oN,cL,oNd_dat],fun a N=>by
    by_cases h:a = []
    · subst h;simp [oN,oNd_nil,bndL,bnd]
    · simp only [oN,zahv h];exact ⟨fr_bnd N a,trivial⟩,fun a H j hj=>by
    by_cases h:a = []
    · subst h
      obtain ⟨j,rfl⟩:∃ i,j = i + 1:=⟨j - 1,by omega⟩
      simp [oN,oNd_nil,deref,cL,li,cat]
    · simp only [oN,zahv h,cL,List.map_cons,List.map_nil]
      have:=fr_deref (sz:=1) (f:=cI) H hj a
      simpa [fr] using this⟩
theorem oN_set {xs:List (List Int)} {i:Nat} {junk:List D} {y:List Int} (h:i < xs.length):(cat oN xs ++ junk).set i (oNd y) = cat oN (xs.set i y) ++ junk:=cat_set1 h rfl
theorem oN_rep (n:Nat):cat oN (List.replicate n []) = List.replicate n .nil:=by
  induction n with
  | zero=>rfl
  | succ n ih=>rw [List.replicate_succ,List.replicate_succ,Xm,ih];rfl
theorem oN_get {xs:List (List Int)} {i:Nat} (h:i < xs.length) (junk:List D):(cat oN xs ++ junk).getD i .any = oNd (nth xs i):=by
  have h1:i < (cat oN xs).length:=by rw [Qx];omega
  rw [List.getD_eq_getElem?_getD,List.getElem?_append_left h1]
  have:=cat_get1 (f:=oN) h
  rw [List.getD_eq_getElem?_getD] at this
  exact this
def addE (r:List (List Int)) (f t:Int):List (List Int):=r.set f.toNat (nth r f.toNat ++ [t])
theorem addE_len (r:List (List Int)) (f t:Int):(addE r f t).length = r.length:=by simp [addE]
theorem nth_addE {r:List (List Int)} {f t:Int} {i:Nat} (hf:f.toNat < r.length):nth (addE r f t) i = if f.toNat = i then nth r i ++ [t] else nth r i:=by
  unfold addE
  by_cases e:f.toNat = i
  · subst e;rw [Wf hf,if_pos rfl]
  · rw [Wi e,if_neg e]
theorem mem_addE {r:List (List Int)} {f t:Int} {i:Nat} (hf:f.toNat < r.length) (y:Int):y ∈ nth (addE r f t) i ↔ y ∈ nth r i ∨ (f.toNat = i ∧ y = t):=by
  rw [nth_addE hf]
  split
  · rename_i e;simp [e]
  · rename_i e;simp [e]
def InRng (n:Nat) (es:List Tr4):Prop:=∀ i,i < es.length → (0 ≤ (nth es i).1 ∧ (nth es i).1 < n) ∧ 0 ≤ (nth es i).2.2.2 ∧ (nth es i).2.2.2 < n
def Liv (nx:List (List Int)) (acc:List Bool) (ss:List Int):Prop:=∃ x,Nd nx x ∧ RchS nx ss x ∧ Cyc nx x ∧ nth acc x.toNat = true
def livL (nx:List (List Int)) (acc:List Bool):List Bool:=(List.range nx.length).map fun i:Nat=>Vm.B (Liv nx acc [(i:Int)])
end
end Go.Proofs.Ytnfldmfamnhpcaa.Vm

