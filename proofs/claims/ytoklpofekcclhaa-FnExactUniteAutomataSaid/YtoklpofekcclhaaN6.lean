import Derived.Test.YtoklpofekcclhaaN3
/-
  spec.l7Next. No conditions.
-/
namespace Go.Proofs.Ytoklpofekcclhaa.Vm
open Go
set_option linter.unusedVariables false
set_option linter.unusedSimpArgs false
set_option maxRecDepth 200000

theorem set_nth {α : Type} [Inhabited α] {xs : List α} {i : Nat} (h : i < xs.length) : xs.set i (nth xs i) = xs := by rw [nth_lt h, List.set_getElem_self]
noncomputable def Γn4 : FuncId → Con := Γn3
attribute [go_sem] Γn4
theorem Γn4_ok : ∀ g, ConOk Try.prog g (Γn4 g) := Γn3_ok
end Go.Proofs.Ytoklpofekcclhaa.Vm


/-
  spec.l7Reach. No conditions.
-/
namespace Go.Proofs.Ytoklpofekcclhaa.Vm
open Go
set_option linter.unusedVariables false
set_option linter.unusedSimpArgs false
set_option maxRecDepth 200000

theorem marksK_roots (n : Nat) (ss : List Int) : ∀ k, k ≤ ss.length → marksK n ss k = smP (roots n (ss.take k))
  | 0, _ => by rw [marksK_zero]; simp [roots, smP]
  | k + 1, h => by rw [← marksK_succ (by omega), marksK_roots n ss k (by omega), roots_take (by omega), smP_set _ _ (v := -1) (by omega)]
theorem marksK_fresh {nx : List (List Int)} {ss : List Int} (hS : Starts nx.length ss) {k : Nat} (h : k < ss.length) : nth (marksK nx.length ss k) (nth ss k).toNat = false := by
  have hs : ∀ x, x ∈ ss → Nd nx x := hS.1
  have := marksK_mk hs k (by omega) (nth ss k) (hs _ (nth_mem h))
  cases hb : nth (marksK nx.length ss k) (nth ss k).toNat with
  | false => rfl
  | true =>
    exfalso
    have hm := this.1 hb
    rw [mem_nth] at hm
    obtain ⟨i, h1, h2⟩ := hm
    rw [List.length_take] at h1
    rw [nth_take (by omega), nth_lt (by omega), nth_lt h] at h2
    have := (List.nodup_iff_pairwise_ne.1 hS.2)
    rw [List.pairwise_iff_getElem] at this
    exact this i k (by omega) h (by omega) h2
structure QM5 (b5 : Nat) (j5 : List D) (x : SQ) : Prop where
  m5 : x.H b5 = some (cat cB (smP x.s.1) ++ j5)
  mq : x.H x.q = some (cat cI x.s.2 ++ List.replicate x.j .any)
  n5 : ¬ x.q = b5
  r1 : x.s.2.length ≤ x.cp
  r2 : x.cp ≤ x.s.2.length + x.j
noncomputable def Γn5 : FuncId → Con := Γn4
attribute [go_sem] Γn5
theorem Γn5_ok : ∀ g, ConOk Try.prog g (Γn5 g) := Γn4_ok
end Go.Proofs.Ytoklpofekcclhaa.Vm


/-
  spec.l7Loop. No conditions.
-/
namespace Go.Proofs.Ytoklpofekcclhaa.Vm
open Go
set_option linter.unusedVariables false
set_option linter.unusedSimpArgs false
set_option maxRecDepth 200000

/-- The search for a cycle under way, and where in memory. -/
structure LQ where
  i : Nat
  m : List Bool
  q : List Int
  b : Nat
  cp : Nat
  j : Nat
  H : Hp
structure LQm (b6 j6 : Nat) (x : LQ) : Prop where
  m6 : x.H b6 = some (cat cB x.m ++ List.replicate j6 .any)
  mb : x.H x.b = some (cat cI x.q ++ List.replicate x.j .any)
  nb : ¬ x.b = b6
  r1 : x.q.length ≤ x.cp
  r2 : x.cp ≤ x.q.length + x.j
noncomputable def Γn6 : FuncId → Con := Γn5
attribute [go_sem] Γn6
theorem Γn6_ok : ∀ g, ConOk Try.prog g (Γn6 g) := Γn5_ok
end Go.Proofs.Ytoklpofekcclhaa.Vm

