/-
  spec.l4Search: breadth-first search with what is met apart. No conditions.
-/
import Derived.Test.YtkjimmkemnmajaaB2
import Derived.Test.YtkjimmkemnmajaaQ1
namespace Go.Proofs.Ytkjimmkemnmajaa.Vm
open Go
set_option linter.unusedVariables false
set_option linter.unusedSimpArgs false
set_option maxRecDepth 200000

def pmP (P : List Int) : List Int := P.map fun x => if x < 0 then -1 else x
def smP (P : List Int) : List Bool := P.map fun x => !decide (x = -2)
@[go_sem] theorem pmP_len (P : List Int) : (pmP P).length = P.length := by simp [pmP]
@[go_sem] theorem smP_len (P : List Int) : (smP P).length = P.length := by simp [smP]
theorem nth_pmP {P : List Int} {k : Nat} (h : k < P.length) : nth (pmP P) k = if nth P k < 0 then -1 else nth P k := by
  rw [zaat (by rw [pmP_len]; exact h), zaat h]; simp [pmP]
theorem nth_smP {P : List Int} {k : Nat} (h : k < P.length) : nth (smP P) k = !decide (nth P k = -2) := by
  rw [zaat (by rw [smP_len]; exact h), zaat h]; simp [smP]
theorem pmP_set (P : List Int) (k : Nat) {v : Int} (h : 0 ≤ v) : (pmP P).set k v = pmP (P.set k v) := by
  unfold pmP; rw [List.map_set]; congr 1; rw [if_neg (by omega)]
theorem smP_set (P : List Int) (k : Nat) {v : Int} (h : ¬ v = -2) : (smP P).set k true = smP (P.set k v) := by
  unfold smP; rw [List.map_set]; congr 1; simp [h]
theorem pmP_root (n : Nat) (a : Int) : pmP (roots n [a]) = List.replicate n (-1) := by
  have e : roots n [a] = (List.replicate n (-2 : Int)).set a.toNat (-1) := rfl
  rw [e]; unfold pmP; rw [List.map_set]
  apply List.ext_getElem (by simp)
  intro i h1 h2
  rw [List.getElem_set]
  split <;> simp
theorem smP_root (n : Nat) (a : Int) : smP (roots n [a]) = (List.replicate n false).set a.toNat true := by
  have e : roots n [a] = (List.replicate n (-2 : Int)).set a.toNat (-1) := rfl
  rw [e]; unfold smP; rw [List.map_set, List.map_replicate]; rfl
structure QMem (b6 b7 : Nat) (j6 j7 : List D) (x : SQ) : Prop where
  m6 : x.H b6 = some (cat cI (pmP x.s.1) ++ j6)
  m7 : x.H b7 = some (cat cB (smP x.s.1) ++ j7)
  mq : x.H x.q = some (cat cI x.s.2 ++ List.replicate x.j .any)
  n6 : ¬ x.q = b6
  n7 : ¬ x.q = b7
  r1 : x.s.2.length ≤ x.cp
  r2 : x.cp ≤ x.s.2.length + x.j

theorem rep_snoc (k : Nat) : cat cI (List.replicate k (-1 : Int)) ++ [.int .i64 (-1)] = cat cI (List.replicate (k + 1) (-1)) := by rw [snoc_cI, List.replicate_succ']
noncomputable def Γs1 : FuncId → Con := Γg17
attribute [go_sem] Γs1
theorem Γs1_ok : ∀ g, ConOk Try.prog g (Γs1 g) := Γg17_ok
end Go.Proofs.Ytkjimmkemnmajaa.Vm

