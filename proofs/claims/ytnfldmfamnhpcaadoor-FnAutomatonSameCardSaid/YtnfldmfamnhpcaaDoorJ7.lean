/-
  spec.l4Components, cycles and what is reached: plain. No conditions.
-/
import Derived.Test.YtnfldmfamnhpcaaDoorJ5
namespace Go.Proofs.YtnfldmfamnhpcaaDoor.Vm
open Go
set_option linter.unusedVariables false
set_option linter.unusedSimpArgs false
set_option maxRecDepth 200000

def Cf (xs:List Int) (i k:Nat) (c:Int):Prop:=(c = -1 ∧ ∀ j,j < k → ¬ nth xs j = nth xs i) ∨ (0 ≤ c ∧ ∃ j,j < i ∧ nth xs j = nth xs i ∧ c = nth (named xs i) j)
theorem Cf.zero (xs:List Int) (i:Nat):Cf xs i 0 (-1):=.inl ⟨rfl,fun j hj=>by omega⟩
theorem Cf.new {xs:List Int} {i:Nat} {c:Int} (h:Cf xs i i c) (hc:c < 0) (hi:i < xs.length):named xs (i + 1) = named xs i ++ [((dist (xs.take i)).length:Int)] ∧ (dist (xs.take (i + 1))).length = (dist (xs.take i)).length + 1:=by
  rcases h with ⟨rfl,h⟩ | ⟨h,_⟩
  · obtain ⟨h1,h2⟩:=named_new hi h
    exact ⟨h1,by rw [h2];simp⟩
  · omega
theorem Cf.old {xs:List Int} {i k:Nat} {c:Int} (h:Cf xs i k c) (hc:¬ c < 0) (hi:i < xs.length):named xs (i + 1) = named xs i ++ [c] ∧ (dist (xs.take (i + 1))).length = (dist (xs.take i)).length:=by
  rcases h with ⟨rfl,h⟩ | ⟨_,j,h1,h2,h3⟩
  · omega
  · obtain ⟨g1,g2⟩:=named_old hi h1 h2
    exact ⟨by rw [g1,h3],by rw [g2]⟩
def SameN (nx my:List (List Int)):Prop:=nx.length = my.length ∧ ∀ i,i < nx.length → ∀ y,y ∈ nth nx i ↔ y ∈ nth my i
theorem SameN.symm {nx my:List (List Int)} (h:SameN nx my):SameN my nx:=⟨h.1.symm,fun i hi y=>(h.2 i (by rw [h.1];exact hi) y).symm⟩
end Go.Proofs.YtnfldmfamnhpcaaDoor.Vm

