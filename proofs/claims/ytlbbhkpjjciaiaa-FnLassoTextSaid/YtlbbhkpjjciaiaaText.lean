/-
  Contracts of the functions that write digits and numbers. No conditions but that the slices can be read.
-/
import Derived.Test.YtlbbhkpjjciaiaaInts
namespace Go.Proofs.Ytlbbhkpjjciaiaa
open Go.RowKit Go.Deep
set_option linter.unusedVariables false

/-- A text out of its bytes. -/
def tx (l : List UInt8) : ByteArray := ⟨l.toArray⟩
theorem tx_size (l : List UInt8) : (tx l).size = l.length := by simp [tx, ByteArray.size]
theorem tx_add (a b : List UInt8) : tx a ++ tx b = tx (a ++ b) := ByteArray.mk_append_mk a b
/-- The byte of a digit. -/
def digB (n : Int) : UInt8 := UInt8.ofNat (48 + n.toNat)
/-- A number in decimal digits. -/
def decN (n : Nat) : List UInt8 := if h : n ≤ 9 then [digB n] else decN (n / 10) ++ [digB (n % 10 : Nat)]
termination_by n
decreasing_by omega

/-- The byte of a number. -/
def byt (x : Int) : UInt8 := UInt8.ofNat x.toNat
/-- string([]byte{x}). -/
theorem run_byte_string (W : World) (x : Int) : (convert 31 9 (.slice (some ⟨W.heap.size, 0, none⟩) 1 1)).run Try.prog (W.alloc (.cells #[.int .u8 x] 5)) =
    .ok (.string (tx [byt x])) (W.alloc (.cells #[.int .u8 x] 5)) := by
  rw [run_convert_bytes_string _ 31 9 5 _ _ _ Try.underlying31 Try.underlying5 Try.underlying9]
  rw [run_bytesToString _ _ 1 1 [x] (by simp [go_sem])]
  rfl
theorem digB_of (k : Nat) : byt (48 + (k : Int)) = digB k := by unfold digB byt; congr 1
theorem digB_mod (k : Nat) : byt (48 + (k : Int) % 10) = digB (k % 10 : Nat) := by unfold digB byt; congr 1
theorem decN_le {k : Nat} (h : k ≤ 9) : decN k = [digB k] := by rw [decN, dif_pos h]
theorem decN_gt {k : Nat} (h : 9 < k) : decN k = decN (k / 10) ++ [digB (k % 10 : Nat)] := by rw [decN, dif_neg (by omega)]

set_option maxRecDepth 100000 in
set_option maxHeartbeats 1000000 in
theorem l16Dec_any (w : World) (n : Nat) (hn : n ≤ 1000000000) :
    Calls Try.prog 78 #[.int .i64 n] w fun e w' => e = .returned (.string (tx (decN n))) ∧ Gr w w' := by
  have h0 : ¬ ((n : Int) < -9223372036854775807) := by omega
  have h1 : ¬ ((n : Int) < 0) := by omega
  go_enter Try.func78, Try.ntmps78
  go_wp2_with fail
  go_loopw [0, 3] (fun i s wr => ∃ (k : Nat) (l : List UInt8), k ≤ n ∧ i = .int .i64 k ∧ s = .string (tx l) ∧ l.length + k ≤ 1000000000 ∧ Hid (decN n = decN k ++ l) ∧ Gr w wr) (fun i _ _ => (intOf i).toNat)
  case atStart => exact ⟨n, [], Nat.le_refl _, rfl, rfl, by simp; omega, by show _ = _; simp, Gr.refl w⟩
  case round =>
    obtain ⟨k, l, hk, rfl, rfl, hl, hd, hg⟩ := hrel
    have hsz := tx_size l
    have hcv := run_byte_string
    have hs1 : ∀ b, (tx [b]).size = 1 := fun b => tx_size _
    by_cases h9 : 9 < k
    · have HD := Lib.hid (show decN n = decN (k / 10) ++ (digB (k % 10 : Nat) :: l) by rw [hd.out, decN_gt h9]; simp)
      go_wp2_with fail
      exact ⟨⟨k / 10, _, by omega, by go_num, congrArg Value.string (tx_add [byt (48 + (k : Int) % 10)] l), by simp; omega, by show _ = _; rw [HD.out, digB_mod]; rfl, hg.alloc _⟩, by simp [intOf]; omega⟩
    · have HD := Lib.hid (show decN n = digB k :: l by rw [hd.out, decN_le (by omega)]; rfl)
      go_wp2_with fail
      go_ret
      exact ⟨by rw [HD.out, ← digB_of]; exact congrArg (fun s => Ending.returned (Value.string s)) (tx_add [_] l), hg.alloc _⟩

/-- No digit. -/
def noDig (n : Int) : Bool := !inR n 0 9
def digsOk (xs : List Int) : Bool := !anyB noDig xs
def digs (xs : List Int) : List UInt8 := xs.map digB
/-- The text of a list of digits, empty if there is another number among them. -/
def digsT (xs : List Int) : List UInt8 := if digsOk xs then digs xs else []
theorem digsT_yes {xs : List Int} (h : anyB noDig xs = false) : digsT xs = digs xs := by simp [digsT, digsOk, h]
theorem digsT_no {xs : List Int} (h : anyB noDig xs = true) : digsT xs = [] := by simp [digsT, digsOk, h]
/-- The digits of the first k numbers. -/
def digsTill (xs : List Int) (k : Nat) : List UInt8 := digs (xs.take k)
theorem digsTill_zero (xs : List Int) : digsTill xs 0 = [] := rfl
theorem digsTill_succ {xs : List Int} {k : Nat} (hk : k < xs.length) : digsTill xs (k + 1) = digsTill xs k ++ [digB (nth xs k)] := by
  rw [digsTill, List.take_succ_eq_append_getElem hk, nth_lt hk]; unfold digs digsTill; rw [List.map_append]; rfl
theorem digsTill_all {xs : List Int} {k : Nat} (hk : xs.length ≤ k) : digsTill xs k = digs xs := by rw [digsTill, List.take_of_length_le hk]
theorem digsTill_len {xs : List Int} {k : Nat} (hk : k ≤ xs.length) : (digsTill xs k).length = k := by simp [digsTill, digs]; omega
theorem digs_len (xs : List Int) : (digs xs).length = xs.length := by simp [digs]
theorem digsT_len (xs : List Int) : (digsT xs).length ≤ xs.length := by unfold digsT; split <;> simp [digs]

set_option maxRecDepth 100000 in
set_option maxHeartbeats 1000000 in
theorem l3Digits_any (w : World) (v : Value) (xs : List Int) (h : IS w v xs) (hm : xs.length ≤ 1048576) :
    Calls Try.prog 48 #[v] w fun e w' => e = .returned (.tuple #[.string (tx (digsT xs)), .bool (digsOk xs)]) ∧ Gr w w' := by
  obtain ⟨A, N, c, rfl, h1⟩ := h
  obtain rfl : N = xs.length := h1.1
  have hm' : xs.length ≤ 9223372036854775807 := by omega
  go_enter Try.func48, Try.ntmps48
  go_wp2_with fail
  go_loopw [4, 5] (fun s i wr => ∃ k : Nat, k ≤ xs.length ∧ i = .int .i64 k ∧ s = .string (tx (digsTill xs k)) ∧ NoneTill noDig xs k ∧ Gr w wr) (fun _ i _ => xs.length - (intOf i).toNat)
  case atStart => exact ⟨0, Nat.zero_le _, rfl, rfl, NoneTill.zero _ _, Gr.refl w⟩
  case round =>
    obtain ⟨k, hk, rfl, rfl, ht, hg⟩ := hrel
    by_cases hlt : k < xs.length
    · obtain ⟨ad, rfl, hc⟩ := h1.2 k hlt
      have hc1 := hg.cell hc
      by_cases ha : nth xs k < 0
      · have HB := Lib.hid (anyB_yes (p := noDig) hlt (by rw [noDig, inR_lo ha]; rfl))
        go_wp2_with fail
        go_ret2
        exact ⟨by rw [digsT_no HB.out, digsOk, HB.out]; rfl, hg⟩
      · by_cases hb : 9 < nth xs k
        · have HB := Lib.hid (anyB_yes (p := noDig) hlt (by rw [noDig, inR_hi hb]; rfl))
          go_wp2_with fail
          go_ret2
          exact ⟨by rw [digsT_no HB.out, digsOk, HB.out]; rfl, hg⟩
        · have HB := Lib.hid (ht.succ (by rw [noDig, inR_yes (by omega) (by omega)]; rfl))
          obtain ⟨x, hx⟩ := Int.eq_ofNat_of_zero_le (by omega : 0 ≤ nth xs k)
          have HD := Lib.hid (show tx (digsTill xs k) ++ tx (decN x) = tx (digsTill xs (k + 1)) by rw [tx_add, decN_le (by omega), digsTill_succ hlt, hx])
          have hl1 : (tx (digsTill xs k)).size = k := by rw [tx_size, digsTill_len hk]
          have hl2 : (tx (decN x)).size = 1 := by rw [tx_size, decN_le (by omega)]; rfl
          have hl1' : (tx (digsTill xs k)).size ≤ 1048576 := by omega
          have hl2' : (tx (decN x)).size ≤ 1 := by omega
          have hx9 : x ≤ 9 := by omega
          clear hl1 hl2
          rw [hx] at hc1 ha hb
          clear hx
          go_wp2_with fail
          refine (l16Dec_any _ x (by omega)).mono ?_
          rintro e w1 ⟨rfl, hg1⟩
          have hG := hg.trans hg1
          clear hg hg1 hc1
          go_wp2_with fail
          exact ⟨⟨k + 1, by omega, by go_num, by rw [HD.out], HB.out, hG⟩, by simp [intOf]; omega⟩
    · have HB := Lib.hid (anyB_no ht (by omega))
      have HD := Lib.hid (digsTill_all (xs := xs) (k := k) (by omega))
      go_wp2_with fail
      go_ret2
      exact ⟨by rw [digsT_yes HB.out, digsOk, HB.out, ← HD.out]; rfl, hg⟩
end Go.Proofs.Ytlbbhkpjjciaiaa

