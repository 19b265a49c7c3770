/-
  The text of a certificate, both ways. No conditions but that the slices can be read and, for the program's, that the table of powers of ten is laid.
-/
import Derived.Test.YtnfldmfamnhpcaaDoorText
import Derived.Test.YtnfldmfamnhpcaaDoorLetters
import Derived.Test.YtnfldmfamnhpcaaDoorCert
import Derived.Lib.AppendIntMem
namespace Go.Proofs.YtnfldmfamnhpcaaDoor
open Go.RowKit Go.Deep
set_option linter.unusedVariables false

theorem decDigits_decN (k : Nat) : Lib.decDigits k = decN k := by
  induction k using Nat.strongRecOn with
  | _ k ih =>
    by_cases h : k < 10
    · rw [decN_le (by omega), Lib.decDigits, dif_pos h]; simp [digB]
    · rw [decN_gt (by omega), Lib.decDigits, dif_neg h, ih _ (by omega)]; simp [digB]; congr 1
theorem itoa_decN {n : Nat} : Lib.itoa (n : Int) = decN n := by
  unfold Lib.itoa; rw [if_neg (by omega), decDigits_decN]; rfl
/-- The table of powers of ten is as it was laid. -/
def Pow (w : World) : Prop := Lib.TabIs Tryd.prog w "internal/strconv.uint64pow10" .u64 Lib.pow10Tab
theorem Pow.gr {w w' : World} (h : Pow w) (g : Gr w w') : Pow w' := Lib.tabBelow_of_tabIs h w' g

theorem decN_len (k : Nat) : ∀ n : Nat, n < 10 ^ (k + 1) → (decN n).length ≤ k + 1 := by
  induction k with
  | zero => intro n h; rw [decN_le (by omega)]; simp
  | succ k ih =>
    intro n h
    by_cases h9 : n ≤ 9
    · rw [decN_le h9]; simp
    · rw [decN_gt (by omega)]
      have := ih (n / 10) (by rw [Nat.pow_succ] at h; omega)
      simp; omega
/-- A rank in the text. -/
def rankT (n : Int) : List UInt8 := if n < 0 then [32, 45] else 32 :: decN n.toNat
def ranks (xs : List Int) : List UInt8 := [114, 97, 110, 107, 115] ++ xs.flatMap rankT
def ranksTill (xs : List Int) (k : Nat) : List UInt8 := ranks (xs.take k)
theorem ranksTill_zero (xs : List Int) : ranksTill xs 0 = [114, 97, 110, 107, 115] := rfl
theorem ranksTill_succ {xs : List Int} {k : Nat} (hk : k < xs.length) : ranksTill xs (k + 1) = ranksTill xs k ++ rankT (nth xs k) := by
  show _ ++ (xs.take (k + 1)).flatMap rankT = (_ ++ (xs.take k).flatMap rankT) ++ rankT (nth xs k)
  rw [List.take_succ_eq_append_getElem hk, nth_lt hk, List.flatMap_append, List.append_assoc]
  simp only [List.flatMap_cons, List.flatMap_nil, List.append_nil]
theorem ranksTill_all {xs : List Int} {k : Nat} (hk : xs.length ≤ k) : ranksTill xs k = ranks xs := by rw [ranksTill, List.take_of_length_le hk]
/-- No rank. -/
def noRank (n : Int) : Bool := !inR n (-1) 4000
theorem noRank_in {n : Int} (h : noRank n = false) : -1 ≤ n ∧ n ≤ 4000 := by
  have : inR n (-1) 4000 = true := by simpa [noRank] using h
  exact inR_iff.1 this
theorem rankT_len {n : Int} (h : noRank n = false) : (rankT n).length ≤ 5 := by
  have := noRank_in h
  unfold rankT
  split
  · simp
  · have := decN_len 3 n.toNat (by omega)
    simp; omega
theorem ranksTill_len {xs : List Int} : ∀ k, NoneTill noRank xs k → k ≤ xs.length → (ranksTill xs k).length ≤ 5 + 5 * k
  | 0, _, _ => by simp [ranksTill_zero]
  | k + 1, h, hk => by
    rw [ranksTill_succ (by omega), List.length_append]
    have := ranksTill_len k (fun i hi => h i (by omega)) (by omega)
    have := rankT_len (h k (by omega))
    omega
def certOk (xs : List Int) : Bool := decide (xs.length ≤ 4000) && !anyB noRank xs
/-- The text of a certificate. -/
def certT (xs : List Int) : List UInt8 := if certOk xs then ranks xs else []
theorem certOk_long {xs : List Int} (h : ¬ xs.length ≤ 4000) : certOk xs = false := by simp [certOk, h]
theorem certOk_any {xs : List Int} (h : anyB noRank xs = true) : certOk xs = false := by simp [certOk, h]
theorem certOk_yes {xs : List Int} (h : xs.length ≤ 4000) (h2 : anyB noRank xs = false) : certOk xs = true := by simp [certOk, h, h2]
theorem certOk_end {xs : List Int} (h2 : anyB noRank xs = false) : certOk xs = decide ((xs.length : Int) ≤ 4000) := by
  simp [certOk, h2]; omega
theorem certOk_len {xs : List Int} (h : certOk xs = true) : xs.length ≤ 4000 := by simp [certOk] at h; exact h.1
theorem certOk_none {xs : List Int} (h : certOk xs = true) : NoneTill noRank xs xs.length := fun i hi => by
  have h2 : anyB noRank xs = false := by simp [certOk] at h; exact h.2
  rw [anyB, List.any_eq_false] at h2
  have := h2 xs[i] (List.getElem_mem hi)
  rw [nth_lt hi]; simpa using this
theorem certT_no {xs : List Int} (h : certOk xs = false) : certT xs = [] := by simp [certT, h]
theorem certT_yes {xs : List Int} (h : certOk xs = true) : certT xs = ranks xs := by simp [certT, h]

set_option maxHeartbeats 400000 in
theorem l9Valid_any (w : World) (v : Value) (l : List Int) (h : OS w v l) (hm : l.length ≤ maxLen) :
    Calls Tryd.prog 20 #[v] w fun e w' => e = .returned (.bool (certOk l)) ∧ Gr w w' := by
  obtain ⟨s1, rfl, h1⟩ := h
  obtain ⟨A, N, c, rfl, h1⟩ := h1
  obtain rfl : N = l.length := h1.1
  unfold maxLen at hm
  have G0 := Lib.hid ((Gr.refl w).alloc (.cells #[.slice A l.length c] 27))
  go_enter Tryd.func20, Tryd.ntmps20
  go_wp2_with fail
  go_loop [3] (fun i => ∃ (k : Nat), k ≤ l.length ∧ i = .int .i64 k ∧ NoneTill noRank l k) (fun i => l.length - (intOf i).toNat)
  case atStart => exact ⟨0, Nat.zero_le _, rfl, NoneTill.zero _ _⟩
  case round =>
    obtain ⟨k, hk, rfl, ht⟩ := hrel
    by_cases hlt : k < l.length
    · obtain ⟨ad, rfl, hc⟩ := h1.2 k hlt
      have hc1 := G0.out.cell hc
      by_cases ha : nth l k < -1
      · have HB := Lib.hid (certOk_any (anyB_yes (p := noRank) hlt (by rw [noRank, inR_lo ha]; rfl)))
        go_wp2_with fail
        go_ret
        exact ⟨by rw [HB.out]; rfl, G0.out⟩
      · by_cases hb : 4000 < nth l k
        · have HB := Lib.hid (certOk_any (anyB_yes (p := noRank) hlt (by rw [noRank, inR_hi hb]; rfl)))
          go_wp2_with fail
          go_ret
          exact ⟨by rw [HB.out]; rfl, G0.out⟩
        · have HB := Lib.hid (ht.succ (by rw [noRank, inR_yes (by omega) (by omega)]; rfl))
          go_wp2_with fail
          exact ⟨⟨k + 1, by omega, by go_num, HB.out⟩, by simp [intOf]; omega⟩
    · have HC := Lib.hid (certOk_end (anyB_no ht (by omega)))
      go_wp2_with fail
      go_ret
      exact ⟨by rw [HC.out]; rfl, G0.out⟩

set_option maxHeartbeats 1000000 in
theorem specFormatCertificate_any (w : World) (v : Value) (l : List Int) (h : OS w v l) (hm : l.length ≤ maxLen) :
    Calls Tryd.prog 7 #[v] w fun e w' => e = .returned (.string (tx (certT l))) ∧ Gr w w' := by
  have h0 := h
  obtain ⟨s1, rfl, h1⟩ := h
  obtain ⟨A, N, c, rfl, h1⟩ := h1
  obtain rfl : N = l.length := h1.1
  go_enter Tryd.func7, Tryd.ntmps7
  go_wp2_with fail
  refine (l9Valid_any _ _ l (h0.gr ((Gr.refl w).alloc _)) hm).mono ?_
  rintro e w1 ⟨rfl, hg⟩
  have b0 := (Box.new (w := w) (k := w.heap.size) (t := 27) (cs := #[.slice A l.length c]) rfl).gr hg
  have G := Lib.hid (((Gr.refl w).alloc _).trans hg)
  clear hg h0
  have c0 := b0.c
  cases hv : certOk l
  · have HV := Lib.hid (certT_no hv)
    clear hv
    go_wp2_with fail
    go_ret
    exact ⟨by rw [HV.out]; rfl, G.out⟩
  · have HV := Lib.hid (certT_yes hv)
    have hl4 := certOk_len hv
    have HN := Lib.hid (certOk_none hv)
    clear hv
    go_wp2_with fail
    go_loopw [3, 4] (fun s i wr => ∃ k : Nat, k ≤ l.length ∧ i = .int .i64 k ∧ s = .string (tx (ranksTill l k)) ∧ Gr w1 wr) (fun _ i _ => l.length - (intOf i).toNat)
    case atStart => exact ⟨0, Nat.zero_le _, rfl, rfl, Gr.refl _⟩
    case round =>
      obtain ⟨k, hk, rfl, rfl, hg⟩ := hrel
      have c1 := (b0.gr hg).c
      clear c0
      by_cases hlt : k < l.length
      · obtain ⟨ad, rfl, hc⟩ := h1.2 k hlt
        have hc1 := (G.out.trans hg).cell hc
        clear hc
        have hn := noRank_in (HN.out k hlt)
        have hkl : (tx (ranksTill l k)).size ≤ 20005 := by rw [tx_size]; have := ranksTill_len k (fun i hi => HN.out i (by omega)) hk; omega
        by_cases ha : nth l k < 0
        · have HD := Lib.hid (show tx (ranksTill l k) ++ tx [32, 45] = tx (ranksTill l (k + 1)) by rw [tx_add, ranksTill_succ hlt, rankT, if_pos ha])
          have hl2 : (tx [32, 45]).size = 2 := rfl
          go_wp2_with fail
          exact ⟨⟨k + 1, by omega, by go_num, by rw [← HD.out]; rfl, hg⟩, by simp [intOf]; omega⟩
        · obtain ⟨x, hx⟩ := Int.eq_ofNat_of_zero_le (by omega : 0 ≤ nth l k)
          have HD := Lib.hid (show tx (ranksTill l k) ++ tx [32] ++ tx (decN x) = tx (ranksTill l (k + 1)) by rw [tx_add, tx_add, ranksTill_succ hlt, rankT, if_neg ha, hx, List.append_assoc]; rfl)
          have hl2 : (tx (decN x)).size ≤ 5 := by rw [tx_size]; have := decN_len 3 x (by omega); omega
          have hl3 : (tx (ranksTill l k) ++ tx [32]).size ≤ 20006 := by rw [tx_add, tx_size] ; rw [tx_size] at hkl; simp; omega
          have hx4 : x ≤ 4000 := by omega
          rw [hx] at hc1 ha hn
          clear hx
          go_wp2_with fail
          refine (l16Dec_any _ x (by omega)).mono ?_
          rintro e w2 ⟨rfl, hg2⟩
          have HG := Lib.hid (hg.trans hg2)
          clear hg hg2 hc1 c1
          go_wp2_with fail
          exact ⟨⟨k + 1, by omega, by go_num, by rw [← HD.out]; rfl, HG.out⟩, by simp [intOf]; omega⟩
      · have HA := Lib.hid (ranksTill_all (xs := l) (k := k) (by omega))
        go_wp2_with fail
        go_ret
        exact ⟨by rw [HV.out, ← HA.out]; rfl, G.out.trans hg⟩
end Go.Proofs.YtnfldmfamnhpcaaDoor

