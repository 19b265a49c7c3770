/-
  The two readings of a lasso's text agree. Plain lemmas; no conditions.
-/
import Derived.Test.YtlbbhkpjjciaiaaP5
namespace Go.Proofs.Ytlbbhkpjjciaiaa.Vm
open Go
set_option linter.unusedVariables false

theorem letOk_mem {xs : List Int} (h : LetOk xs) : ∀ n ∈ xs, 0 ≤ n ∧ n ≤ 7 := fun n hn => by
  obtain ⟨i, hi, rfl⟩ := List.getElem_of_mem hn
  have := h i hi
  rwa [nth_lt hi] at this
theorem digsT_let {xs : List Int} (h : LetOk xs) : digsT xs = digs xs := by
  apply digsT_yes
  rw [anyB, List.any_eq_false]
  intro n hn
  have := letOk_mem h n hn
  simp [noDig, inR]; omega
theorem digB_nat {n : Int} (h0 : 0 ≤ n) (h1 : n ≤ 9) : (digB n).toNat = 48 + n.toNat := by
  unfold digB; rw [UInt8.toNat_ofNat']; omega
theorem nums_digs {xs : List Int} (h : ∀ n ∈ xs, 0 ≤ n ∧ n ≤ 7) : nums (digs xs) = xs := by
  unfold nums digs
  rw [List.map_map]
  conv => rhs; rw [← List.map_id xs]
  apply List.map_congr_left
  intro n hn
  have := h n hn
  simp only [Function.comp, id]
  rw [digB_nat this.1 (by omega)]; omega
theorem no40 {xs : List Int} (h : ∀ n ∈ xs, 0 ≤ n ∧ n ≤ 7) : ∀ b ∈ digs xs, ¬ b = 40 := fun b hb e => by
  obtain ⟨n, hn, rfl⟩ := List.mem_map.1 hb
  have := h n hn
  have q := congrArg UInt8.toNat e
  rw [digB_nat this.1 (by omega)] at q
  have : (40 : UInt8).toNat = 40 := rfl
  omega
theorem pc_app {c : UInt8} : ∀ {l acc r : List UInt8}, (∀ b ∈ l, ¬ b = c) → pc c (l ++ c :: r) acc = (acc ++ l) :: pc c r []
  | [], acc, r, h => by simp [pc]
  | b :: l, acc, r, h => by
    rw [List.cons_append, pc, if_neg (h b (by simp)), pc_app (fun x hx => h x (by simp [hx])), List.append_assoc]; rfl
theorem pc_no {c : UInt8} : ∀ {l acc : List UInt8}, (∀ b ∈ l, ¬ b = c) → pc c l acc = [acc ++ l]
  | [], acc, h => by simp [pc]
  | b :: l, acc, h => by
    rw [pc, if_neg (h b (by simp)), pc_no (fun x hx => h x (by simp [hx])), List.append_assoc]; rfl
theorem pc_ne (c : UInt8) : ∀ (l acc : List UInt8), pc c l acc ≠ []
  | [], acc => by simp [pc]
  | b :: l, acc => by
    simp only [pc]
    split
    · simp
    · exact pc_ne c l _
theorem pc_one {c : UInt8} : ∀ {l acc x : List UInt8}, pc c l acc = [x] → x = acc ++ l ∧ ∀ b ∈ l, ¬ b = c
  | [], acc, x, h => by simp [pc] at h; simp [h]
  | b :: l, acc, x, h => by
    simp only [pc] at h
    split at h
    · exact (pc_ne c l [] (List.cons.inj h).2).elim
    · rename_i hb
      obtain ⟨h1, h2⟩ := pc_one h
      refine ⟨by rw [h1, List.append_assoc]; rfl, fun y hy => ?_⟩
      rcases List.mem_cons.1 hy with e | e
      · rw [e]; exact hb
      · exact h2 y e
theorem pc_two {c : UInt8} : ∀ {l acc x y : List UInt8}, pc c l acc = [x, y] → ∃ l1, x = acc ++ l1 ∧ l = l1 ++ c :: y ∧ (∀ b ∈ l1, ¬ b = c) ∧ ∀ b ∈ y, ¬ b = c
  | [], acc, x, y, h => by simp [pc] at h
  | b :: l, acc, x, y, h => by
    simp only [pc] at h
    split at h
    · rename_i hb
      obtain ⟨h1, h2⟩ := List.cons.inj h
      obtain ⟨h3, h4⟩ := pc_one h2
      refine ⟨[], by simp [h1], by simp [hb, h3], by simp, ?_⟩
      rw [h3]; simpa using h4
    · rename_i hb
      obtain ⟨l1, h1, h2, h3, h4⟩ := pc_two h
      refine ⟨b :: l1, by rw [h1, List.append_assoc]; rfl, by rw [h2]; rfl, fun z hz => ?_, h4⟩
      rcases List.mem_cons.1 hz with e | e
      · rw [e]; exact hb
      · exact h3 z e
theorem idx_app {c : UInt8} : ∀ {l r : List UInt8}, (∀ b ∈ l, ¬ b = c) → Go.Lib.indexByte (l ++ c :: r) c = l.length
  | [], r, h => by simp [Go.Lib.indexByte]
  | b :: l, r, h => by
    rw [List.cons_append, Go.Lib.indexByte, idx_app (fun x hx => h x (by simp [hx]))]
    have h1 : (b == c) = false := by simpa using h b (by simp)
    have h2 : (((l.length : Nat) : Int) == -1) = false := by rw [beq_eq_false_iff_ne]; omega
    simp [h1, h2]
theorem cut_app {c : UInt8} {l r : List UInt8} (h : ∀ b ∈ l, ¬ b = c) : cut1 (l ++ c :: r) c = l ∧ cut2 (l ++ c :: r) c = r := by
  unfold cut1 cut2
  rw [idx_app h, if_pos (by omega), if_pos (by omega)]
  simp
theorem trim_app (r : List UInt8) (c : UInt8) : trimB (r ++ [c]) c = r := by
  have : hasS (r ++ [c]) c = true := by simp [hasS]
  unfold trimB
  rw [if_pos this]; simp
theorem byte_let {w : List UInt8} (h : LetOk (nums w)) : ∀ b ∈ w, 48 ≤ b.toNat ∧ b.toNat ≤ 55 := fun b hb => by
  have := letOk_mem h ((b.toNat : Int) - 48) (List.mem_map.2 ⟨b, hb, rfl⟩)
  omega
theorem digN_let {w : List UInt8} (h : LetOk (nums w)) : digN w = nums w := by
  unfold digN nums
  apply List.map_congr_left
  intro b hb
  have := byte_let h b hb
  unfold smallB; rw [if_pos (by omega)]
theorem digs_nums {w : List UInt8} (h : LetOk (nums w)) : digs (nums w) = w := by
  unfold digs nums
  rw [List.map_map]
  conv => rhs; rw [← List.map_id w]
  apply List.map_congr_left
  intro b hb
  have := byte_let h b hb
  apply UInt8.toNat.inj
  simp only [Function.comp, id]
  rw [digB_nat (by omega) (by omega)]; omega
theorem fmt_let {a b : List Int} (h : LasOk a b) : fmtL a b = digs a ++ 40 :: (digs b ++ [41]) := by
  unfold fmtL
  rw [if_pos (B_yes h), digsT_let h.1, digsT_let h.2.1]; simp
theorem ip_sp {s : List UInt8} (h : IpOk s) : SpOk s ∧ sA s = iA s ∧ sC s = iC s := by
  obtain ⟨hv, hf⟩ := h
  rw [fmt_let hv] at hf
  have h1 := letOk_mem hv.1
  have h2 := letOk_mem hv.2.1
  have hn : ∀ b ∈ digs (iC s) ++ [41], ¬ b = 40 := fun b hb => by
    rcases List.mem_append.1 hb with e | e
    · exact no40 h2 b e
    · simp at e; rw [e]; decide
  have hp : sP s = [digs (iA s), digs (iC s) ++ [41]] := by
    unfold sP
    conv => lhs; rw [← hf]
    rw [pc_app (no40 h1), pc_no hn]; simp
  have hq : sQ s = digs (iC s) ++ [41] := by unfold sQ; rw [hp]; rfl
  have eA : sA s = iA s := by unfold sA; rw [hp]; exact nums_digs h1
  have eC : sC s = iC s := by unfold sC; rw [hq]; simp; exact nums_digs h2
  refine ⟨⟨by rw [hp]; rfl, by rw [hq]; simp, by rw [hq]; simp, by rw [eA, eC]; exact hv⟩, eA, eC⟩
theorem last_split {w : List UInt8} (h0 : ¬ w = []) (h : w.getD (w.length - 1) 0 = 41) : w = w.take (w.length - 1) ++ [41] := by
  have hl : 0 < w.length := List.length_pos_iff.2 h0
  have e := List.take_succ_eq_append_getElem (l := w) (i := w.length - 1) (by omega)
  rw [Nat.sub_add_cancel hl, List.take_length] at e
  rw [List.getD_eq_getElem?_getD, List.getElem?_eq_getElem (by omega)] at h
  simp only [Option.getD_some] at h
  rw [h] at e
  exact e
theorem sp_ip {s : List UInt8} (h : SpOk s) : IpOk s := by
  obtain ⟨h1, h2, h3, h4⟩ := h
  obtain ⟨x, y, hp⟩ : ∃ x y, sP s = [x, y] := by
    match hs : sP s, h1 with
    | [x, y], _ => exact ⟨x, y, rfl⟩
  have hq : sQ s = y := by unfold sQ; rw [hp]; rfl
  obtain ⟨l1, e1, e2, e3, e4⟩ := pc_two (show pc 40 s [] = [x, y] from hp)
  rw [List.nil_append] at e1
  subst e1
  rw [hq] at h2 h3
  have hy := last_split h2 h3
  have hA : sA s = nums x := by unfold sA; rw [hp]; rfl
  have hC : sC s = nums (y.take (y.length - 1)) := by unfold sC; rw [hq]
  rw [hA, hC] at h4
  obtain ⟨c1, c2⟩ := cut_app (c := 40) (r := y) e3
  rw [← e2] at c1 c2
  have ht : trimB y 41 = y.take (y.length - 1) := by
    conv => lhs; rw [hy]
    exact trim_app _ _
  have iA' : iA s = nums x := by unfold iA; rw [c1]; exact digN_let h4.1
  have iC' : iC s = nums (y.take (y.length - 1)) := by unfold iC; rw [c2, ht]; exact digN_let h4.2.1
  refine ⟨by rw [iA', iC']; exact h4, ?_⟩
  rw [iA', iC', fmt_let h4, digs_nums h4.1, digs_nums h4.2.1, ← hy]
  exact e2.symm
theorem parse_same (s : List UInt8) : B (SpOk s) = B (IpOk s) := by
  rw [show SpOk s = IpOk s from propext ⟨sp_ip, fun h => (ip_sp h).1⟩]
end Go.Proofs.Ytlbbhkpjjciaiaa.Vm

