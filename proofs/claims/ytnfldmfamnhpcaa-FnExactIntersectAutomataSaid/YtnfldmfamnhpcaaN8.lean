/-
  LiveStates, both ways. No conditions.
-/
import Derived.Test.YtnfldmfamnhpcaaN7
namespace Go.Proofs.Ytnfldmfamnhpcaa.Vm
open Go
set_option linter.unusedVariables false
set_option linter.unusedSimpArgs false
set_option maxRecDepth 200000

def gd (nx:List (List Int)) (acc:List Bool) (s:Int) (i:Nat):Prop:=RchS nx [s] (i:Int) ∧ Cyc nx (i:Int) ∧ nth acc i = true
structure LV (b5 j5:Nat) (nx:List (List Int)) (acc:List Bool) (k j:Nat) (H:Hp):Prop where
  w:∃ v,H b5 = some (cat cB ((prtB (livL nx acc) k).set k v) ++ List.replicate j5 .any) ∧ (v = true ↔ ∃ i,i < j ∧ gd nx acc (k:Int) i)
theorem LV.next {b5 j5:Nat} {nx:List (List Int)} {acc:List Bool} {k j:Nat} {H2:Hp} {v v':Bool} (h:v = true ↔ ∃ i,i < j ∧ gd nx acc (k:Int) i) (h2:H2 b5 = some (cat cB (((prtB (livL nx acc) k).set k v).set k v') ++ List.replicate j5 .any)) (hv:v' = true ↔ v = true ∨ gd nx acc (k:Int) j):LV b5 j5 nx acc k (j + 1) H2:=by
  refine ⟨v',by rw [h2,List.set_set],?_⟩
  rw [hv,h]
  constructor
  · rintro (⟨i,h1,h2⟩ | q)
    · exact ⟨i,by omega,h2⟩
    · exact ⟨j,by omega,q⟩
  · rintro ⟨i,h1,h2⟩
    by_cases e:i = j
    · subst e;exact .inr h2
    · exact .inl ⟨i,by omega,h2⟩
noncomputable def Γn11:FuncId → Con:=Γn10
attribute [go_sem] Γn11
theorem Γn11_ok:∀ g,ConOk Try.prog g (Γn11 g):=Γn10_ok
end Go.Proofs.Ytnfldmfamnhpcaa.Vm

