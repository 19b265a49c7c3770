/-
  Paths, plain: the triangle; prefixes; walks. No conditions.
-/
import Derived.Test.YtnfldmfamnhpcaaB3
namespace Go.Proofs.Ytnfldmfamnhpcaa.Vm
open Go
set_option linter.unusedVariables false
set_option linter.unusedSimpArgs false
set_option maxRecDepth 200000

theorem nth_app2 {α:Type} [Inhabited α] {xs ys:List α} {i:Nat} (h:xs.length ≤ i):nth (xs ++ ys) i = nth ys (i - xs.length):=by
  simp only [nth,List.getD_eq_getElem?_getD];rw [List.getElem?_append_right h]
theorem Way.join {nx:List (List Int)} {u w:List Int} (hu:Way nx u) (hw:Way nx w) (h1:1 ≤ u.length) (h2:1 ≤ w.length) (e:nth u (u.length - 1) = nth w 0):Way nx (u ++ w.drop 1):=by
  intro k hk
  rw [List.length_append,List.length_drop] at hk
  rcases Nat.lt_or_ge (k + 1) u.length with c | c
  · rw [Vg c,Vg (by omega)];exact hu k c
  · rw [nth_app2 c,nth_drop]
    have hw':=hw (k + 1 - u.length) (by omega)
    rw [show 1 + (k + 1 - u.length) = k + 1 - u.length + 1 by omega]
    rcases Nat.lt_or_ge k u.length with d | d
    · have:k = u.length - 1:=by omega
      rw [Vg d,this,e]
      rw [show k + 1 - u.length = 0 by omega] at hw'
      rw [show u.length - 1 + 1 - u.length + 1 = 1 by omega]
      exact hw'
    · rw [nth_app2 d,nth_drop,show 1 + (k - u.length) = k + 1 - u.length by omega]
      exact hw'
theorem PathOk.take {a:List Ints2} {b:List (List Int)} {p:List Int} (h:PathOk a b p) {k:Nat} (h1:1 ≤ k) (h2:k ≤ p.length):PathOk a b (p.take k):=by
  obtain ⟨g1,g2,g3⟩:=h
  refine ⟨g1,by rw [List.length_take];omega,fun i hi=>?_⟩
  rw [List.length_take] at hi
  obtain ⟨q1,q2,q3⟩:=g3 i (by omega)
  unfold StepOk
  rw [Vq (by omega)]
  refine ⟨q1,q2,fun c=>?_⟩
  rw [Vq (by omega)]
  exact q3 c
end Go.Proofs.Ytnfldmfamnhpcaa.Vm

