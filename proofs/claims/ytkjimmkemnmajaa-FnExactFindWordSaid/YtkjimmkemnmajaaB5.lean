/-
  Traces, plain: a loop unrolled. No conditions.
-/
import Derived.Test.YtkjimmkemnmajaaB4
namespace Go.Proofs.Ytkjimmkemnmajaa.Vm
open Go
set_option linter.unusedVariables false
set_option linter.unusedSimpArgs false
set_option maxRecDepth 200000

theorem Way.snoc {nx:List (List Int)} {u:List Int} {z:Int} (h:Way nx u) (h1:1 ≤ u.length) (hz:z ∈ nth nx (nth u (u.length - 1)).toNat):Way nx (u ++ [z]):=by
  intro k hk
  rw [List.length_append,List.length_singleton] at hk
  rcases Nat.lt_or_ge (k + 1) u.length with c | c
  · rw [Xd c,Xd (by omega)];exact h k c
  · have e:k + 1 = u.length:=by omega
    rw [e,Zx,Xd (by omega),show k = u.length - 1 by omega];exact hz
theorem Way.take {nx:List (List Int)} {u:List Int} (h:Way nx u) (n:Nat):Way nx (u.take n):=by
  intro k hk
  rw [List.length_take] at hk
  rw [Jg (by omega),Jg (by omega)]
  exact h k (by omega)
theorem Way.drop {nx:List (List Int)} {u:List Int} (h:Way nx u) (n:Nat):Way nx (u.drop n):=by
  intro k hk
  rw [List.length_drop] at hk
  rw [zaen,zaen,show n + (k + 1) = n + k + 1 by omega]
  exact h (n + k) (by omega)
end Go.Proofs.Ytkjimmkemnmajaa.Vm

