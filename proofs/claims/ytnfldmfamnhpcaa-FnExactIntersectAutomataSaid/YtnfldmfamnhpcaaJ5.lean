/-
  impl.components: the map that names the numbers, and the loop that writes the names. No program in sight.
-/
import Derived.Test.YtnfldmfamnhpcaaJ4
import Derived.Test.YtnfldmfamnhpcaaJ2
namespace Go.Proofs.Ytnfldmfamnhpcaa.Vm
open Go
set_option linter.unusedVariables false
set_option linter.unusedSimpArgs false

def esN:Nat → List Int → List (List Int × Int)
  | _,[]=>[]
  | n,x :: d=>([x],(n:Int)) :: esN (n + 1) d
theorem esN_len:∀ (n:Nat) (d:List Int),(esN n d).length = d.length
  | _,[]=>rfl
  | n,x :: d=>by simp [esN,esN_len (n + 1) d]
theorem esN_one:∀ (n:Nat) (d:List Int),OneKey (esN n d)
  | _,[]=>fun e h=>by simp [esN] at h
  | n,x :: d=>fun e h=>by
    rw [esN,List.mem_cons] at h
    rcases h with rfl | h
    · rfl
    · exact esN_one (n + 1) d e h
def half (xs:List Int) (k:Nat):List Int:=named xs k ++ xs.drop k
end Go.Proofs.Ytnfldmfamnhpcaa.Vm

