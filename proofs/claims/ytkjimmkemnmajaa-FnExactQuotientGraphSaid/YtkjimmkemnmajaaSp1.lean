/-
  spec.l4Search: breadth-first search with what is met apart. No conditions.
-/
import Derived.Test.YtkjimmkemnmajaaB2
import Derived.Test.YtkjimmkemnmajaaQ1
namespace Go.Proofs.Ytkjimmkemnmajaa.Vm
open Go
set_option linter.unusedVariables false
set_option linter.unusedSimpArgs false
set_option maxRecDepth 200000

def pmP (P:List Int):List Int:=P.map fun x=>if x < 0 then -1 else x
def smP (P:List Int):List Bool:=P.map fun x=>!decide (x = -2)
@[go_sem] theorem pmP_len (P:List Int):(pmP P).length = P.length:=by simp [pmP]
@[go_sem] theorem smP_len (P:List Int):(smP P).length = P.length:=by simp [smP]
structure QMem (b6 b7:Nat) (j6 j7:List D) (x:SQ):Prop where
  m6:x.H b6 = some (cat cI (pmP x.s.1) ++ j6)
  m7:x.H b7 = some (cat cB (smP x.s.1) ++ j7)
  mq:x.H x.q = some (cat cI x.s.2 ++ List.replicate x.j .any)
  n6:¬ x.q = b6
  n7:¬ x.q = b7
  r1:x.s.2.length ≤ x.cp
  r2:x.cp ≤ x.s.2.length + x.j

noncomputable def Γs1:FuncId → Con:=Γg17
attribute [go_sem] Γs1
theorem Γs1_ok:∀ g,ConOk Try.prog g (Γs1 g):=Γg17_ok
end Go.Proofs.Ytkjimmkemnmajaa.Vm

