/-
  Successors gathered from edges, plain; rows of which some are nil. No conditions.
-/
import Derived.Test.YtnfldmfamnhpcaaJ8
import Derived.Test.YtnfldmfamnhpcaaTr
namespace Go.Proofs.Ytnfldmfamnhpcaa.Vm
open Go
set_option linter.unusedVariables false
set_option linter.unusedSimpArgs false
set_option maxRecDepth 200000

def oNd (x:List Int):D:=if x = [] then .nil else .fr 1 x.length (cat cI x)
def oN (x:List Int):List D:=[oNd x]
theorem oNd_nil:oNd [] = .nil:=rfl
theorem oNd_cons {x:List Int} (h:¬ x = []):oNd x = .fr 1 x.length (cat cI x):=by rw [oNd,if_neg h]
theorem oNd_leaf (x:List Int):leaf (oNd x) = true:=by
  unfold oNd;split <;> rfl
theorem oNd_dat (x:List Int):dat (oNd x) = li cI x:=by
  by_cases h:x = []
  · subst h;simp [oNd_nil,dat,li,cat]
  · rw [oNd_cons h];exact fr_dat x
instance:Wide oN 1:=⟨fun _=>rfl,by omega,fun a=>by simp [oN,oNd_leaf]⟩
instance:Own oN cL 2:=⟨fun a=>by
    by_cases h:a = []
    · subst h;simp [oN,oNd_nil,Xw,closed]
    · simp [oN,oNd_cons h,Xw];exact fr_closed a,fun a=>by simp [oN,cL,oNd_dat],fun a N=>by
    by_cases h:a = []
    · subst h;simp [oN,oNd_nil,bndL,bnd]
    · simp only [oN,oNd_cons h];exact ⟨fr_bnd N a,trivial⟩,fun a H j hj=>by
    by_cases h:a = []
    · subst h
      obtain ⟨j,rfl⟩:∃ i,j = i + 1:=⟨j - 1,by omega⟩
      simp [oN,oNd_nil,deref,cL,li,cat]
    · simp only [oN,oNd_cons h,cL,List.map_cons,List.map_nil]
      have:=fr_deref (sz:=1) (f:=cI) H hj a
      simpa [fr] using this⟩
def InRng (n:Nat) (es:List Tr4):Prop:=∀ i,i < es.length → (0 ≤ (nth es i).1 ∧ (nth es i).1 < n) ∧ 0 ≤ (nth es i).2.2.2 ∧ (nth es i).2.2.2 < n
def Liv (nx:List (List Int)) (acc:List Bool) (ss:List Int):Prop:=∃ x,Nd nx x ∧ RchS nx ss x ∧ Cyc nx x ∧ nth acc x.toNat = true
noncomputable def livL (nx:List (List Int)) (acc:List Bool):List Bool:=(List.range nx.length).map fun i:Nat=>Vm.B (Liv nx acc [(i:Int)])
end Go.Proofs.Ytnfldmfamnhpcaa.Vm

