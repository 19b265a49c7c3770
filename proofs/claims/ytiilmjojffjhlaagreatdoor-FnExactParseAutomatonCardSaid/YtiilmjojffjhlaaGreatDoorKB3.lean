/-
  Breadth-first search, plain: what is met is what can be reached, and the way back is a shortest one. No conditions.
-/
import Derived.Test.YtiilmjojffjhlaaGreatDoorKW16
namespace Go.Proofs.YtiilmjojffjhlaaGreatDoor.Vm
open Go
set_option linter.unusedVariables false
set_option linter.unusedSimpArgs false
set_option maxRecDepth 200000

structure Dp (nx:List (List Int)) (ss:List Int) (i:Nat) (s:PQ) (d:Nat → Nat):Prop where
  d0:∀ m,m < ss.length → d m = 0
  dp:∀ m,ss.length ≤ m → m < s.2.length → ∃ k,k < m ∧ nth s.1 (nth s.2 m).toNat = nth s.2 k ∧ d m = d k + 1 ∧ nth s.2 m ∈ nth nx (nth s.2 k).toNat
  dm:∀ m m',m ≤ m' → m' < s.2.length → d m ≤ d m'
  du:∀ m,i < s.2.length → m < s.2.length → d m ≤ d i + 1
  de:∀ j,j < i → j < s.2.length → ∀ z ∈ nth nx (nth s.2 j).toNat,∃ m,m < s.2.length ∧ nth s.2 m = z ∧ d m ≤ d j + 1
theorem Dp.start {nx:List (List Int)} {n:Nat} {ss:List Int} (h:Bf n ss (bfs0 n ss)):Dp nx ss 0 (bfs0 n ss) (fun _=>0) :=
  ⟨fun _ _=>rfl,fun m h1 h2=>by simp only [bfs0] at h2;omega,fun _ _ _ _=>Nat.le_refl _,fun _ _ _=>by omega,fun j hj=>by omega⟩
end Go.Proofs.YtiilmjojffjhlaaGreatDoor.Vm

