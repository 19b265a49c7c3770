import Derived.Test.YtmiimodggpjkmaaB2
import Derived.Test.YtmiimodggpjkmaaQ1
/-
  spec.l4Search: breadth-first search with what is met apart. No conditions.
-/
namespace Go.Proofs.Ytmiimodggpjkmaa.Vm
open Go
set_option linter.unusedVariables false
set_option linter.unusedSimpArgs false
set_option maxRecDepth 200000

def pmP (P:List Int):List Int:=P.map fun x=>if x < 0 then -1 else x
def smP (P:List Int):List Bool:=P.map fun x=>!decide (x = -2)
@[go_sem] theorem pmP_len (P:List Int):(pmP P).length = P.length:=by simp [pmP]
@[go_sem] theorem smP_len (P:List Int):(smP P).length = P.length:=by simp [smP]
structure QMem (b6 b7:Nat) (j6 j7:List D) (x:SQ):Prop where
  m6:x.H b6 = some (cat cI (pmP x.s.1) ++ j6)
  m7:x.H b7 = some (cat cB (smP x.s.1) ++ j7)
  mq:x.H x.q = some (cat cI x.s.2 ++ List.replicate x.j .any)
  n6:¬ x.q = b6
  n7:¬ x.q = b7
  r1:x.s.2.length ≤ x.cp
  r2:x.cp ≤ x.s.2.length + x.j


theorem Bf.first {n:Nat} {a:Int} {s:PQ} (h:Bf n [a] s):nth s.2 0 = a ∧ 1 ≤ s.2.length:=⟨h.root_at (m:=0) (by simp),by have:=h.al;simpa using this⟩
structure PB where
  m:Nat
  o:List Int


theorem GraphOk.next {a:List Ints2} {b:List (List Int)} (h:GraphOk a b):NextOk b ∧ NextS b ∧ b.length = a.length ∧ a.length ≤ 60 ∧ b.length ≤ 1048576:=by
  obtain ⟨g1,g2,g3,g4,g5⟩:=h
  refine ⟨fun j hj k hk=>?_,fun j hj=>?_,g3,g2,by omega⟩
  · have:=(g5 j hj).2 k hk
    omega
  · have:=(g5 j hj).2.len
    omega

end Go.Proofs.Ytmiimodggpjkmaa.Vm

