import Derived.Test.YtkjimmkemnmajaaN9
/-
  Rows of Bools and of transitions cloned; an automaton copied. No conditions.
-/
namespace Go.Proofs.Ytkjimmkemnmajaa.Vm
open Go
set_option linter.unusedVariables false
set_option linter.unusedSimpArgs false
set_option maxRecDepth 200000


def tm (k:Int) (i:Nat):Tr4:=(k + 4 * i,k + 4 * i + 1,k + 4 * i + 1 + 1,k + 4 * i + 1 + 1 + 1)
def marksT (k:Int) (n:Nat):List Tr4:=(List.range n).map fun (i:Nat)=>tm k i
@[go_sem] theorem marksT_len (k:Int) (n:Nat):(marksT k n).length = n:=by simp [marksT]
structure ME (b:Nat) (cs:List D) (H H1:Hp):Prop where
  here:H1 b = some cs
  rest:∀ z,¬ z = b → H1 z = H z
theorem ME.set {b:Nat} {cs cs':List D} {H H1 H2:Hp} (h:ME b cs H H1) (h2:H2 b = some cs') (h3:∀ z,¬ z = b → H2 z = H1 z):ME b cs' H H2:=⟨h2,fun z hz=>by rw [h3 z hz];exact h.rest z hz⟩
@[go_sem] theorem cat_drop_app_cT (xs:List Tr4) (ys:List D):(cat cT xs ++ ys).drop (xs.length * 4) = ys:=zahx xs ys
@[go_sem] theorem Zl (xs:List Tr4) (ys:List D):(cat cT xs ++ ys).take (xs.length * 4) = cat cT xs:=zadv xs ys

def heldTr (k:Int) (xs:List Tr4):Int:=if xs = marksT k xs.length then k + 4 * xs.length else -1
@[go_sem] theorem heldTr_marks (k:Int) (n:Nat):heldTr k (marksT k n) = k + 4 * n:=by simp [heldTr,marksT_len]
@[go_sem] theorem heldTr_nil (k:Int):heldTr k [] = k:=by simp [heldTr,marksT]
end Go.Proofs.Ytkjimmkemnmajaa.Vm

