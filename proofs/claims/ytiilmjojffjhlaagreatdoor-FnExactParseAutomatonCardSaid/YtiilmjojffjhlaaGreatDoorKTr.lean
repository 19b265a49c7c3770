/-
  Fours of numbers as cells. No conditions.
-/
import Derived.Test.YtiilmjojffjhlaaGreatDoorKCat
namespace Go.Proofs.YtiilmjojffjhlaaGreatDoor.Vm
open Go
set_option linter.unusedVariables false
set_option linter.unusedSimpArgs false
abbrev Tr4:=Int × Int × Int × Int
def cT (x:Tr4):List D:=[.int .i64 x.1,.int .i64 x.2.1,.int .i64 x.2.2.1,.int .i64 x.2.2.2]
instance:Wide cT 4:=⟨fun _=>rfl,by omega,fun _=>rfl⟩
instance:Plain cT:=⟨fun _=>rfl,fun _ _ _=>rfl,fun _ _=>⟨trivial,trivial,trivial,trivial,trivial⟩,fun a b h=>by simp only [cT,List.cons.injEq,D.int.injEq,true_and,and_true] at h;exact Prod.ext h.1 (Prod.ext h.2.1 (Prod.ext h.2.2.1 h.2.2.2))⟩
instance:Own cT cT 1:=⟨fun _=>rfl,fun _=>rfl,fun _ _=>⟨trivial,trivial,trivial,trivial,trivial⟩,fun _ _ j h=>by obtain ⟨j,rfl⟩:∃ i,j = i + 1:=⟨j - 1,by omega⟩;rfl⟩
attribute [go_sem] cT
@[go_sem] theorem fill_cT {z1 z2 z3 z4:D} {xs:List Tr4} {k:Nat} {junk:List D} (h:k < xs.length):stSeg (fillC cT [z1,z2,z3,z4] 4 xs k junk) (k * 4) [.int .i64 (nth xs k).1,.int .i64 (nth xs k).2.1,.int .i64 (nth xs k).2.2.1,.int .i64 (nth xs k).2.2.2] = fillC cT [z1,z2,z3,z4] 4 xs (k + 1) junk:=zacb (f:=cT) (sz:=4) (z:=[z1,z2,z3,z4]) rfl h junk
end Go.Proofs.YtiilmjojffjhlaaGreatDoor.Vm

