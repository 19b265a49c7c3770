/-
  Words and their suffixes; bits of letters: plain. No conditions.
-/
import Derived.Test.YtkjimmkemnmajaaSM4
namespace Go.Proofs.Ytkjimmkemnmajaa.Vm
open Go
set_option linter.unusedVariables false
set_option linter.unusedSimpArgs false
set_option maxRecDepth 200000

theorem mod_next {x m:Nat} (hm:0 < m):(x + 1) % m = if x % m + 1 = m then 0 else x % m + 1:=by
  have h:=Nat.mod_lt x hm
  rw [← Nat.mod_add_mod]
  split
  · rename_i e;rw [e,Nat.mod_self]
  · rw [Nat.mod_eq_of_lt (by omega)]
theorem plc_eq {a b:List Int} (hb:0 < b.length):∀ t,plc a b t = if t < a.length then t else a.length + (t - a.length) % b.length
  | 0=>by
    simp only [plc]
    split
    · rfl
    · rw [show 0 - a.length = 0 by omega,Nat.zero_mod];omega
  | t + 1=>by
    have h:=Nat.mod_lt (t - a.length) hb
    simp only [plc]
    rw [plc_eq hb t]
    unfold nxI
    by_cases h1:t < a.length
    · rw [if_pos h1,if_neg (by omega)]
      split
      · rfl
      · rw [show t + 1 - a.length = 0 by omega,Nat.zero_mod];omega
    · rw [if_neg h1,if_neg (show ¬ t + 1 < a.length by omega),show t + 1 - a.length = (t - a.length) + 1 by omega,mod_next hb]
      by_cases e:(t - a.length) % b.length + 1 = b.length
      · rw [if_pos (by omega),if_pos e];omega
      · rw [if_neg (by omega),if_neg e];omega
theorem ltr_eq {a b:List Int} (hb:0 < b.length) (t:Nat):ltr a b t = if t < a.length then nth a t else nth b ((t - a.length) % b.length):=by
  unfold ltr
  rw [plc_eq hb]
  split
  · rename_i h;rw [Xd h]
  · rename_i h
    rw [nth_appG (by omega)]
    congr 1;omega
theorem AutOk.one {a:List Int} {n:Nat} {c:List Tr4} (h:AutOk a n c) {x:Int} (h0:0 ≤ x) (h1:x < n):AutOk [x] n c:=by
  refine ⟨h.1,h.2.1,fun i hi=>?_,h.2.2.2.1,h.2.2.2.2⟩
  have:i = 0:=by simp only [List.length_singleton] at hi;omega
  subst this
  exact ⟨by simp only [ahead,nth];simp;omega,by simp [nth];exact h1⟩
end Go.Proofs.Ytkjimmkemnmajaa.Vm

