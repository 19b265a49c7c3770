/-
  A reduced lasso describes the same word, and is reduced. Plain lemmas; no conditions.
-/
import Derived.Test.YtlbbhkpjjciaiaaD9
namespace Go.Proofs.Ytlbbhkpjjciaiaa.Vm
open Go
set_option linter.unusedVariables false

theorem nth_rotR {l : List Int} (h : 0 < l.length) (k : Nat) : nth (rotR l) ((k + 1) % l.length) = nth l (k % l.length) := by
  have hk := Nat.mod_lt k h
  rw [rotR]
  by_cases e : k % l.length = l.length - 1
  · have : (k + 1) % l.length = 0 := by
      rw [Nat.add_mod, e]
      rcases Nat.lt_or_ge 1 l.length with h1 | h1
      · rw [Nat.mod_eq_of_lt h1, Nat.sub_add_cancel h, Nat.mod_self]
      · have : l.length = 1 := by omega
        rw [this]
    rw [this, e]; rfl
  · have : (k + 1) % l.length = k % l.length + 1 := by
      rw [Nat.add_mod, Nat.mod_eq_of_lt (a := 1) (by omega), Nat.mod_eq_of_lt (by omega)]
    rw [this]
    show nth (l.take (l.length - 1)) (k % l.length) = _
    rw [nth_take (by omega)]
theorem nth_lp {c : List Int} (h : 0 < c.length) : ∀ (t m : Nat), nth (lp c t) ((m + t) % c.length) = nth c (m % c.length)
  | 0, m => rfl
  | t + 1, m => by
    have := nth_rotR (l := lp c t) (by rw [lp_len h]; exact h) (m + t)
    rw [lp_len h] at this
    rw [lp, ← Nat.add_assoc, this, nth_lp h t m]
theorem lp_add (c : List Int) (u : Nat) : ∀ k, lp c (u + k) = lp (lp c u) k
  | 0 => rfl
  | k + 1 => by rw [← Nat.add_assoc, lp, lp, lp_add c u k]
theorem letOk_lp {c : List Int} (h : LetOk c) (h0 : 0 < c.length) : ∀ t, LetOk (lp c t)
  | 0 => h
  | t + 1 => by
    have hl : 0 < (lp c t).length := by rw [lp_len h0]; exact h0
    rw [lp, ← rotR_eq hl]
    exact letOk_rot (letOk_lp h h0 t) _
theorem letOk_take {b : List Int} (h : LetOk b) (t : Nat) : LetOk (b.take t) := fun i hi => by
  simp only [List.length_take] at hi
  rw [nth_take (by omega)]; exact h _ (by omega)
theorem redS_le2 (a b : List Int) : (redS a b).length ≤ a.length := by unfold redS; simp
theorem red_valid {a b : List Int} (h : LasOk a b) : LasOk (redS a b) (redL a b) := by
  obtain ⟨h1, h2, h3, h4, h5⟩ := h
  obtain ⟨p1, p2, _⟩ := period_le h4
  have hc : (b.take (period b)).length = period b := by simp; omega
  have hl : (redL a b).length = period b := by unfold redL; rw [lp_len (by omega), hc]
  refine ⟨letOk_take h1 _, letOk_lp (letOk_take h2 _) (by omega) _, Nat.le_trans (redS_le2 a b) h3, by omega, by omega⟩
/-- The loop's letters, by its period. -/
theorem nth_per {b : List Int} (h4 : 1 ≤ b.length) (j : Nat) : nth b (j % b.length) = nth (b.take (period b)) (j % period b) := by
  obtain ⟨p1, p2, ⟨d, p3⟩, _⟩ := period_le h4
  have hd : period b ∣ b.length := Nat.dvd_of_mod_eq_zero d
  rw [nth_mod (n := period b) p1 p3 _ (Nat.mod_lt _ h4), Nat.mod_mod_of_dvd _ hd, nth_take (Nat.mod_lt _ p1)]
theorem letter_nat {a b : List Int} (i : Nat) : letter a b (i : Int) = if i < a.length then nth a i else nth b ((i - a.length) % b.length) := by
  unfold letter
  by_cases h : i < a.length
  · rw [if_pos (by omega), if_pos h]; rfl
  · rw [if_neg (by omega), if_neg h, turn_nat (by omega)]; rfl
theorem red_letter {a b : List Int} (h : LasOk a b) {i : Int} (hi : 0 ≤ i) : letter (redS a b) (redL a b) i = letter a b i := by
  obtain ⟨h1, h2, h3, h4, h5⟩ := h
  obtain ⟨i, rfl⟩ : ∃ q : Nat, i = q := ⟨i.toNat, by omega⟩
  obtain ⟨p1, p2, _⟩ := period_le h4
  have hc : (b.take (period b)).length = period b := by simp; omega
  obtain ⟨k1, k2, k3⟩ := back_le a (b.take (period b))
  rw [letter_nat, letter_nat, redS, redL]
  generalize hcc : b.take (period b) = c at hc k1 k2 k3 ⊢
  generalize back a c = t at k1 k2 k3 ⊢
  have hS : (a.take (a.length - t)).length = a.length - t := by simp
  rw [hS, lp_len (by omega)]
  by_cases c1 : i < a.length - t
  · rw [if_pos c1, if_pos (by omega), nth_take c1]
  · rw [if_neg c1]
    by_cases c2 : i < a.length
    · rw [if_pos c2]
      -- the letter came out of the stem
      have hu : a.length - 1 - i < t := by omega
      have hm := (k2 _ hu).2
      have e1 : a.length - (a.length - 1 - i) - 1 = i := by omega
      rw [e1] at hm
      rw [hm]
      have e2 : t = (a.length - 1 - i) + (t - (a.length - 1 - i)) := by omega
      have hq := nth_lp (c := lp c (a.length - 1 - i)) (by rw [lp_len (by omega)]; omega) (t - (a.length - 1 - i)) (c.length - 1)
      rw [← lp_add, ← e2, lp_len (by omega), Nat.mod_eq_of_lt (a := c.length - 1) (by omega)] at hq
      rw [← hq]
      congr 1
      have e3 : c.length - 1 + (t - (a.length - 1 - i)) = (i - (a.length - t)) + c.length := by omega
      rw [e3, Nat.add_mod_right]
    · rw [if_neg c2, nth_per h4, hcc]
      have := nth_lp (c := c) (by omega) t (i - a.length)
      rw [← hc, ← this]
      congr 2
      omega
/-- Its letters stand again m further on, all round. -/
theorem per_cyc {l : List Int} {m : Nat} (h0 : 1 ≤ m) (h : Per l m) (hl : 0 < l.length) (k : Nat) : nth l ((k + m) % l.length) = nth l (k % l.length) := by
  obtain ⟨d, h⟩ := h
  have hd : m ∣ l.length := Nat.dvd_of_mod_eq_zero d
  rw [nth_mod h0 h _ (Nat.mod_lt _ hl), nth_mod h0 h _ (Nat.mod_lt k hl), Nat.mod_mod_of_dvd _ hd, Nat.mod_mod_of_dvd _ hd, Nat.add_mod_right]
theorem per_lp {c : List Int} {t m : Nat} (h0 : 1 ≤ m) (hl : 0 < c.length) (h : Per (lp c t) m) : Per c m := by
  have hd := h.1
  rw [lp_len hl] at hd
  refine ⟨hd, fun i h1 h2 => ?_⟩
  have q := per_cyc h0 h (by rw [lp_len hl]; exact hl) (i - m + t)
  rw [lp_len hl] at q
  have e1 := nth_lp hl t (i - m)
  have e2 := nth_lp hl t i
  rw [Nat.mod_eq_of_lt (a := i - m) (by omega)] at e1
  rw [Nat.mod_eq_of_lt h2] at e2
  rw [← e1, ← e2, ← q]
  congr 2
  omega
theorem per_take {b : List Int} {m : Nat} (h4 : 1 ≤ b.length) (h0 : 1 ≤ m) (h : Per (b.take (period b)) m) : Per b m := by
  obtain ⟨p1, p2, ⟨d, p3⟩, _⟩ := period_le h4
  have hc : (b.take (period b)).length = period b := by simp; omega
  obtain ⟨d2, h⟩ := h
  rw [hc] at d2 h
  have hd : m ∣ period b := Nat.dvd_of_mod_eq_zero d2
  have hd2 : m ∣ b.length := Nat.dvd_trans hd (Nat.dvd_of_mod_eq_zero d)
  have key : ∀ i, i < b.length → nth b i = nth (b.take (period b)) (i % m) := fun i hi => by
    have := nth_per h4 i
    rw [Nat.mod_eq_of_lt hi] at this
    rw [this, nth_mod (xs := b.take (period b)) h0 (fun j h1 h2 => h j h1 (by rw [hc] at h2; exact h2)) _ (by rw [hc]; exact Nat.mod_lt _ p1), Nat.mod_mod_of_dvd _ hd]
  refine ⟨Nat.mod_eq_zero_of_dvd hd2, fun i h1 h2 => ?_⟩
  rw [key i h2, key (i - m) (by omega)]
  congr 1
  rw [Nat.mod_eq_sub_mod h1]
theorem red_period {a b : List Int} (h4 : 1 ≤ b.length) : period (redL a b) = (redL a b).length := by
  obtain ⟨p1, p2, _, p4⟩ := period_le h4
  have hc : (b.take (period b)).length = period b := by simp; omega
  have hl : (redL a b).length = period b := by unfold redL; rw [lp_len (by omega), hc]
  refine period_none fun m m1 m2 hp => ?_
  rw [hl] at m2
  exact p4 m m1 m2 (per_take h4 m1 (per_lp m1 (by omega) hp))
theorem red_red {a b : List Int} (h4 : 1 ≤ b.length) : redS (redS a b) (redL a b) = redS a b ∧ redL (redS a b) (redL a b) = redL a b := by
  have hp := red_period (a := a) h4
  obtain ⟨p1, p2, _⟩ := period_le h4
  have hc : (b.take (period b)).length = period b := by simp; omega
  have hl : (redL a b).length = period b := by unfold redL; rw [lp_len (by omega), hc]
  have ht : (redL a b).take (period (redL a b)) = redL a b := by rw [hp]; exact List.take_length
  obtain ⟨k1, k2, k3⟩ := back_le a (b.take (period b))
  have hS : (redS a b).length = a.length - back a (b.take (period b)) := by unfold redS; simp
  have hb : back (redS a b) (redL a b) = 0 := by
    refine back_at (Nat.zero_le _) (fun u hu => by omega) fun hm => ?_
    obtain ⟨q1, q2⟩ := hm
    rw [hS] at q1 q2
    refine k3 ⟨by omega, ?_⟩
    have e1 : nth (redS a b) (a.length - back a (b.take (period b)) - 0 - 1) = nth a (a.length - back a (b.take (period b)) - 1) := by
      unfold redS; rw [nth_take (by omega)]; rfl
    rw [e1] at q2
    rw [q2, hl, hc]; rfl
  constructor
  · rw [redS, ht, hb, Nat.sub_zero, List.take_length]
  · rw [redL, ht, hb]; rfl
theorem red_same {a b : List Int} (h : LasOk a b) : B (Same a b (redS a b) (redL a b)) = true := by
  obtain ⟨e1, e2⟩ := red_red (a := a) (b := b) h.2.2.2.1
  exact B_yes ⟨h, red_valid h, e1.symm, e2.symm⟩
theorem redL_le2 {a b : List Int} (h4 : 1 ≤ b.length) : (redL a b).length ≤ b.length := by
  obtain ⟨p1, p2, _⟩ := period_le h4
  unfold redL; rw [lp_len (by simp; omega)]; simp; omega
end Go.Proofs.Ytlbbhkpjjciaiaa.Vm

