import Derived.Test.YtiilmjojffjhlaaGreatDoorKB2
import Derived.Test.YtiilmjojffjhlaaGreatDoorKQ1
/-
  spec.l4Search: breadth-first search with what is met apart. No conditions.
-/
namespace Go.Proofs.YtiilmjojffjhlaaGreatDoor.Vm
open Go
noncomputable section
set_option linter.unusedVariables false
set_option linter.unusedSimpArgs false
set_option maxRecDepth 200000

def pmP (P:List Int):List Int:=P.map fun x=>if x < 0 then -1 else x
def smP (P:List Int):List Bool:=P.map fun x=>!decide (x = -2)
@[go_sem] theorem pmP_len (P:List Int):(pmP P).length = P.length:=by simp [pmP]
@[go_sem] theorem smP_len (P:List Int):(smP P).length = P.length:=by simp [smP]
structure QMem (b6 b7:Nat) (j6 j7:List D) (x:SQ):Prop where
  m6:x.H b6 = some (cat cI (pmP x.s.1) ++ j6)
  m7:x.H b7 = some (cat cB (smP x.s.1) ++ j7)
  mq:x.H x.q = some (cat cI x.s.2 ++ List.replicate x.j .any)
  n6:¬ x.q = b6
  n7:¬ x.q = b7
  r1:x.s.2.length ≤ x.cp
  r2:x.cp ≤ x.s.2.length + x.j

@[go_sem] def Γs1:FuncId → Con:=Γg17
theorem Γs1_ok:∀ g,ConOk Tryz.prog g (Γs1 g):=Γg17_ok

theorem Bf.first {n:Nat} {a:Int} {s:PQ} (h:Bf n [a] s):nth s.2 0 = a ∧ 1 ≤ s.2.length:=⟨h.root_at (m:=0) (by simp),by have:=h.al;simpa using this⟩
structure PB where
  m:Nat
  o:List Int
@[go_sem] def Γs2:FuncId → Con:=Γs1
theorem Γs2_ok:∀ g,ConOk Tryz.prog g (Γs2 g):=Γs1_ok

@[go_sem] def Γs3:FuncId → Con:=Γs2
theorem Γs3_ok:∀ g,ConOk Tryz.prog g (Γs3 g):=Γs2_ok

@[go_sem] def Γs4:FuncId → Con:=Γs3
theorem Γs4_ok:∀ g,ConOk Tryz.prog g (Γs4 g):=Γs3_ok

@[go_sem] def Γs5:FuncId → Con:=Γs4
theorem Γs5_ok:∀ g,ConOk Tryz.prog g (Γs5 g):=Γs4_ok

theorem GraphOk.next {a:List Ints2} {b:List (List Int)} (h:GraphOk a b):NextOk b ∧ NextS b ∧ b.length = a.length ∧ a.length ≤ 60 ∧ b.length ≤ 1048576:=by
  obtain ⟨g1,g2,g3,g4,g5⟩:=h
  refine ⟨fun j hj k hk=>?_,fun j hj=>?_,g3,g2,by omega⟩
  · have:=(g5 j hj).2 k hk
    omega
  · have:=(g5 j hj).2.len
    omega
@[go_sem] def Γs6:FuncId → Con:=Γs5
theorem Γs6_ok:∀ g,ConOk Tryz.prog g (Γs6 g):=Γs5_ok

@[go_sem] def Γs7:FuncId → Con:=Γs6
theorem Γs7_ok:∀ g,ConOk Tryz.prog g (Γs7 g):=Γs6_ok

@[go_sem] def Γs8:FuncId → Con:=Γs7
theorem Γs8_ok:∀ g,ConOk Tryz.prog g (Γs8 g):=Γs7_ok

end
end Go.Proofs.YtiilmjojffjhlaaGreatDoor.Vm

