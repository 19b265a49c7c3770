/-
  The program's text of a certificate. Its condition: the table of powers of ten is laid.
-/
import Derived.Test.YtiilmjojffjhlaaGreatDoorKCT0
import Derived.Test.YtiilmjojffjhlaaGreatDoorKCT1
namespace Go.Proofs.YtiilmjojffjhlaaGreatDoor
open Go.RowKit Go.Deep
set_option linter.unusedVariables false

def CtAt (w:World) (s:Value) (wr:World) (xs:List Int) (k:Nat):Prop:=Wr (w.alloc (.cells #[s] 34)) wr (ranksTill xs k)
theorem CtAt.gr {w:World} {s:Value} {wr:World} {xs:List Int} {k:Nat} (h:CtAt w s wr xs k):Gr w wr:=((Gr.refl w).alloc _).trans h.1

end Go.Proofs.YtiilmjojffjhlaaGreatDoor

