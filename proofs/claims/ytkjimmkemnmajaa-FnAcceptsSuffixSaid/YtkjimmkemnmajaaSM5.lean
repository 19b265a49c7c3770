/-
  Words and their suffixes; bits of letters: plain. No conditions.
-/
import Derived.Test.YtkjimmkemnmajaaSM4
namespace Go.Proofs.Ytkjimmkemnmajaa.Vm
open Go
set_option linter.unusedVariables false
set_option linter.unusedSimpArgs false
set_option maxRecDepth 200000

theorem mod_next {x m : Nat} (hm : 0 < m) : (x + 1) % m = if x % m + 1 = m then 0 else x % m + 1 := by
  have h := Nat.mod_lt x hm
  rw [← Nat.mod_add_mod]
  split
  · rename_i e; rw [e, Nat.mod_self]
  · rw [Nat.mod_eq_of_lt (by omega)]
theorem plc_eq {a b : List Int} (hb : 0 < b.length) : ∀ t, plc a b t = if t < a.length then t else a.length + (t - a.length) % b.length
  | 0 => by
    simp only [plc]
    split
    · rfl
    · rw [show 0 - a.length = 0 by omega, Nat.zero_mod]; omega
  | t + 1 => by
    have h := Nat.mod_lt (t - a.length) hb
    simp only [plc]
    rw [plc_eq hb t]
    unfold nxI
    by_cases h1 : t < a.length
    · rw [if_pos h1, if_neg (by omega)]
      split
      · rfl
      · rw [show t + 1 - a.length = 0 by omega, Nat.zero_mod]; omega
    · rw [if_neg h1, if_neg (show ¬ t + 1 < a.length by omega), show t + 1 - a.length = (t - a.length) + 1 by omega, mod_next hb]
      by_cases e : (t - a.length) % b.length + 1 = b.length
      · rw [if_pos (by omega), if_pos e]; omega
      · rw [if_neg (by omega), if_neg e]; omega
theorem ltr_eq {a b : List Int} (hb : 0 < b.length) (t : Nat) : ltr a b t = if t < a.length then nth a t else nth b ((t - a.length) % b.length) := by
  unfold ltr
  rw [plc_eq hb]
  split
  · rename_i h; rw [Xn h]
  · rename_i h
    rw [zaix (by omega)]
    congr 1; omega
def rotB (b : List Int) (t : Nat) : List Int := b.drop t ++ b.take t
theorem rotB_len (b : List Int) (t : Nat) : (rotB b t).length = b.length := by simp [rotB]; omega
theorem nth_rotB {b : List Int} {t j : Nat} (ht : t < b.length) (hj : j < b.length) : nth (rotB b t) j = nth b ((t + j) % b.length) := by
  unfold rotB
  rcases Nat.lt_or_ge j (b.length - t) with h | h
  · rw [Xn (by simp; omega), nth_drop, Nat.mod_eq_of_lt (by omega)]
  · rw [zaix (by simp; omega)]
    have e : (t + j) % b.length = t + j - b.length := by
      rw [Nat.mod_eq_sub_mod (by omega), Nat.mod_eq_of_lt (by omega)]
    rw [e, Vv (by simp; omega)]
    congr 1; simp; omega
def suS (a b : List Int) : List Int := if (1 : Int) < a.length then a.drop 1 else []
def suL (a b : List Int) : List Int := if (1 : Int) < a.length then b else if (a.length : Int) = 1 then b else rotB b (1 % b.length)
theorem letOk_of {xs ys : List Int} (h : ∀ x, x ∈ xs → x ∈ ys) (k : LetOk ys) : LetOk xs := fun i hi => by
  obtain ⟨j, j1, j2⟩ := memG (h _ (Xf hi))
  have := k j j1
  rwa [j2] at this
theorem suf_ok {a b : List Int} (h : LasOk a b) : LasOk (suS a b) (suL a b) := by
  obtain ⟨h1, h2, h3, h4, h5⟩ := h
  have hr : LetOk (rotB b (1 % b.length)) := letOk_of (fun x hx => by
    unfold rotB at hx
    rcases List.mem_append.1 hx with q | q
    · exact List.mem_of_mem_drop q
    · exact List.mem_of_mem_take q) h2
  unfold suS suL
  refine ⟨?_, ?_, ?_, ?_, ?_⟩
  · split
    · exact letOk_of (fun x hx => List.mem_of_mem_drop hx) h1
    · exact fun i hi => by simp at hi
  · split
    · exact h2
    · split
      · exact h2
      · exact hr
  · split
    · simp; omega
    · simp
  · split
    · exact h4
    · split
      · exact h4
      · rw [rotB_len]; exact h4
  · split
    · exact h5
    · split
      · exact h5
      · rw [rotB_len]; exact h5
theorem suf_ltr {a b : List Int} (h : LasOk a b) (t : Nat) : ltr (suS a b) (suL a b) t = ltr a b (t + 1) := by
  have hb : 0 < b.length := by have := h.2.2.2.1; omega
  have hk := suf_ok h
  have hb2 : 0 < (suL a b).length := by have := hk.2.2.2.1; omega
  rw [ltr_eq hb2, ltr_eq hb]
  unfold suS suL
  by_cases h1 : (1 : Int) < a.length
  · rw [if_pos h1, if_pos h1]
    have hl : (a.drop 1).length = a.length - 1 := by simp
    rw [hl]
    by_cases h2 : t < a.length - 1
    · rw [if_pos h2, if_pos (by omega), nth_drop, Nat.add_comm]
    · rw [if_neg h2, if_neg (by omega)]
      congr 2; omega
  · rw [if_neg h1, if_neg h1]
    by_cases h2 : (a.length : Int) = 1
    · rw [if_pos h2]
      simp only [List.length_nil, Nat.not_lt_zero, if_false]
      rw [if_neg (by omega)]
      congr 2; omega
    · rw [if_neg h2]
      simp only [List.length_nil, Nat.not_lt_zero, if_false]
      have h0 : a.length = 0 := by omega
      rw [if_neg (by omega), rotB_len, h0, Nat.sub_zero, Nat.sub_zero, nth_rotB (Nat.mod_lt _ hb) (Nat.mod_lt _ hb), ← Nat.add_mod, Nat.add_comm]
def OkE (a : List Int) (b : List Bool) (c : List Tr4) (s l : List Int) (e : Tr4) : Prop := e.1 ∈ a ∧ tk (nth (s ++ l) 0) e = true ∧ acR [e.2.2.2] b c (suS s l) (suL s l) = true
theorem AutOk.one {a : List Int} {n : Nat} {c : List Tr4} (h : AutOk a n c) {x : Int} (h0 : 0 ≤ x) (h1 : x < n) : AutOk [x] n c := by
  refine ⟨h.1, h.2.1, fun i hi => ?_, h.2.2.2.1, h.2.2.2.2⟩
  have : i = 0 := by simp only [List.length_singleton] at hi; omega
  subst this
  exact ⟨by simp only [ahead, nth]; simp; omega, by simp [nth]; exact h1⟩
theorem acR_step {a : List Int} {b : List Bool} {c : List Tr4} {s l : List Int} (hA : AutOk a b.length c) (hL : LasOk s l) : acR a b c s l = true ↔ ∃ j, j < c.length ∧ OkE a b c s l (nth c j) := by
  have hb : 0 < l.length := by have := hL.2.2.2.1; omega
  have key : ∀ e, e ∈ c → (acR [e.2.2.2] b c (suS s l) (suL s l) = true ↔ SAcc b [e.2.2.2] c fun t => ltr s l (t + 1)) := fun e he => by
    obtain ⟨_, g3, g4⟩ := hA.rng.mem he
    rw [acR_sem (hA.one g3 g4) (suf_ok hL), B_iff]
    have : ltr (suS s l) (suL s l) = fun t => ltr s l (t + 1) := funext fun t => suf_ltr hL t
    rw [this]
  rw [acR_sem hA hL, B_iff, sacc_step]
  constructor
  · rintro ⟨e, e1, e2, e3, e4⟩
    obtain ⟨j, j1, j2⟩ := memG e1
    exact ⟨j, j1, by rw [j2]; exact ⟨e2, e3, (key e e1).2 e4⟩⟩
  · rintro ⟨j, j1, e2, e3, e4⟩
    exact ⟨nth c j, Xf j1, e2, e3, (key _ (Xf j1)).1 e4⟩

def pA (x y : Int) : Nat → Int
  | 0 => 0
  | k + 1 => if (x.tdiv (2 ^ k)).tmod 2 = 1 ∧ (y.tdiv (2 ^ k)).tmod 2 = 1 then pA x y k + 2 ^ k else pA x y k
theorem pA_and {x y : Int} (h0 : 0 ≤ x) (h1 : x ≤ 7) (h2 : 0 ≤ y) (h3 : y ≤ 7) : pA x y 3 = bitsD .and .i64 x y := by
  have key : ∀ u v : Fin 8, pA (u.val : Int) (v.val : Int) 3 = bitsD .and .i64 (u.val : Int) (v.val : Int) := by decide
  have := key ⟨x.toNat, by omega⟩ ⟨y.toNat, by omega⟩
  simp only [Int.toNat_of_nonneg h0, Int.toNat_of_nonneg h2] at this
  exact this
end Go.Proofs.Ytkjimmkemnmajaa.Vm

