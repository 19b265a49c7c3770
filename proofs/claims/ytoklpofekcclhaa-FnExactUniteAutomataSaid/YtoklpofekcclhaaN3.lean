import Derived.Test.YtoklpofekcclhaaA3
import Derived.Test.YtoklpofekcclhaaJ9
/-
  impl.cyclic. No conditions.
-/
namespace Go.Proofs.Ytoklpofekcclhaa.Vm
open Go
set_option linter.unusedVariables false
set_option linter.unusedSimpArgs false
set_option maxRecDepth 200000

/-- The first k are known. -/
def prtB (xs : List Bool) (k : Nat) : List Bool := xs.take k ++ List.replicate (xs.length - k) false
theorem prtB_len {xs : List Bool} {k : Nat} (h : k ≤ xs.length) : (prtB xs k).length = xs.length := by simp [prtB]; omega
theorem prtB_zero (xs : List Bool) : prtB xs 0 = List.replicate xs.length false := by simp [prtB]
theorem prtB_all (xs : List Bool) : prtB xs xs.length = xs := by simp [prtB]
theorem prtB_set {xs : List Bool} {k : Nat} (h : k < xs.length) {v : Bool} (hv : nth xs k = v) : (prtB xs k).set k v = prtB xs (k + 1) := by
  obtain ⟨m, e⟩ : ∃ m, xs.length - k = m + 1 := ⟨xs.length - k - 1, by omega⟩
  have e2 : xs.length - (k + 1) = m := by omega
  rw [prtB, prtB, e, e2, List.replicate_succ, set_mid (by simp; omega), List.take_succ_eq_append_getElem h, ← nth_lt h, hv]; simp
noncomputable def Γn1 : FuncId → Con := Γa23
attribute [go_sem] Γn1
theorem Γn1_ok : ∀ g, ConOk Try.prog g (Γn1 g) := Γa23_ok
end Go.Proofs.Ytoklpofekcclhaa.Vm


/-
  impl.reachable. No conditions.
-/
namespace Go.Proofs.Ytoklpofekcclhaa.Vm
open Go
set_option linter.unusedVariables false
set_option linter.unusedSimpArgs false
set_option maxRecDepth 200000

/-- A search in depth under way, and where in memory. -/
structure DQ where
  m : List Bool
  td : List Int
  b : Nat
  cp : Nat
  jl : List D
  H : Hp
structure DQm (b5 j5 : Nat) (x : DQ) : Prop where
  m5 : x.H b5 = some (cat cB x.m ++ List.replicate j5 .any)
  mb : x.H x.b = some (cat cI x.td ++ x.jl)
  nb : ¬ x.b = b5
  r1 : x.td.length ≤ x.cp
  r2 : x.cp ≤ x.td.length + x.jl.length
theorem last_cut {td : List Int} (h : 0 < td.length) : cat cI td = cat cI (td.take (td.length - 1)) ++ [D.int .i64 (nth td (td.length - 1))] := by
  rw [take_snocJ (by omega), Nat.sub_add_cancel h, List.take_length]
theorem mkd_nth {m : List Bool} {x : Int} (h : ¬ nth m x.toNat = false) : mkd m x := by unfold mkd; simpa using h
noncomputable def Γn2 : FuncId → Con := Γn1
attribute [go_sem] Γn2
theorem Γn2_ok : ∀ g, ConOk Try.prog g (Γn2 g) := Γn1_ok
end Go.Proofs.Ytoklpofekcclhaa.Vm


/-
  Successors of an automaton's states, both ways. No conditions.
-/
namespace Go.Proofs.Ytoklpofekcclhaa.Vm
open Go
set_option linter.unusedVariables false
set_option linter.unusedSimpArgs false
set_option maxRecDepth 200000

theorem stSeg_1 (l : List D) (i : Nat) (d : D) : stSeg l i [d] = l.set i d := rfl
theorem make_oN (n : Nat) : makeD [.nil] n = cat oN (List.replicate n []) := by
  rw [oN_rep, makeD_one]
theorem oN_clen {xs : List (List Int)} {junk : List D} : (cat oN xs ++ junk).length = xs.length + junk.length := by rw [List.length_append, cat_length]; omega
/-- A cell that is stored: one more successor. -/
theorem oN_add {n : Nat} {es : List Tr4} (hr : InRng n es) {k : Nat} (h : k < es.length) (junk : List D) : (cat oN (nxE n es k) ++ junk).set (nth es k).1.toNat (.fr 1 ((nth (nxE n es k) (nth es k).1.toNat).length + 1) (cat cI (nth (nxE n es k) (nth es k).1.toNat ++ [(nth es k).2.2.2]))) = cat oN (nxE n es (k + 1)) ++ junk := by
  have hk := (hr k h).1
  have hl := nxE_len n es k (by omega)
  have := oN_set (xs := nxE n es k) (i := (nth es k).1.toNat) (junk := junk) (y := nth (nxE n es k) (nth es k).1.toNat ++ [(nth es k).2.2.2]) (by omega)
  rw [nxE_succ h, addE, ← this, oNd_cons (by simp)]
  simp
theorem oN_addD {n : Nat} {es : List Tr4} (hr : InRng n es) {k : Nat} (h : k < es.length) (hn : ¬ (nth es k).2.2.2 ∈ nth (nxD n es k) (nth es k).1.toNat) (junk : List D) : (cat oN (nxD n es k) ++ junk).set (nth es k).1.toNat (.fr 1 ((nth (nxD n es k) (nth es k).1.toNat).length + 1) (cat cI (nth (nxD n es k) (nth es k).1.toNat ++ [(nth es k).2.2.2]))) = cat oN (nxD n es (k + 1)) ++ junk := by
  have hk := (hr k h).1
  have hl := nxD_len n es k (by omega)
  have := oN_set (xs := nxD n es k) (i := (nth es k).1.toNat) (junk := junk) (y := nth (nxD n es k) (nth es k).1.toNat ++ [(nth es k).2.2.2]) (by omega)
  rw [nxD_succ h, addD, if_neg hn, addE, ← this, oNd_cons (by simp)]
  simp
/-- A row that is not nil, in its cell. -/
theorem oN_cell {xs : List (List Int)} {i : Nat} (h : i < xs.length) (hn : ¬ nth xs i = []) (junk : List D) : (cat oN xs ++ junk)[i]? = some (.fr 1 (nth xs i).length (cat cI (nth xs i))) := by
  have h1 : i < (cat oN xs ++ junk).length := by rw [oN_clen]; omega
  have := oN_get h junk
  rw [List.getD_eq_getElem?_getD, List.getElem?_eq_getElem h1, Option.getD_some] at this
  rw [List.getElem?_eq_getElem h1, this, oNd_cons hn]
noncomputable def Γn3 : FuncId → Con := Γn2
attribute [go_sem] Γn3
theorem Γn3_ok : ∀ g, ConOk Try.prog g (Γn3 g) := Γn2_ok
end Go.Proofs.Ytoklpofekcclhaa.Vm

