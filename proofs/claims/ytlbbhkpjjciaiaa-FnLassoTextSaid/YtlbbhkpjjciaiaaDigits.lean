/-
  Contracts of digits, FormatState, FormatLasso. No conditions but that the slices can be read.
-/
import Derived.Test.YtlbbhkpjjciaiaaText
import Derived.Test.YtlbbhkpjjciaiaaLetters
import Derived.Test.YtlbbhkpjjciaiaaBuilder
import Derived.Test.YtlbbhkpjjciaiaaShelf
namespace Go.Proofs.Ytlbbhkpjjciaiaa
open Go.RowKit Go.Deep
set_option linter.unusedVariables false

/-- The builder holds the digits of the first k numbers. -/
def DigAt (w wr : World) (xs : List Int) (k : Nat) : Prop :=
  Gr w wr ∧ ∃ p, (p = .pointer none ∨ p = self w.heap.size) ∧ Bld wr w.heap.size w.heap.size p (Lib.byteCells (digsTill xs k))
theorem DigAt.zero (w : World) (xs : List Int) : DigAt w (w.alloc (.cells #[.pointer none, .slice none 0 0] 84)) xs 0 :=
  ⟨(Gr.refl w).alloc _, _, .inl rfl, Bld.fresh w⟩
theorem byteCell_dig {x : Int} (h0 : 0 ≤ x) (h9 : x ≤ 9) : (Value.int .u8 (48 + x)) = .int .u8 ((digB x).toNat : Int) := by
  obtain ⟨n, rfl⟩ := Int.eq_ofNat_of_zero_le h0
  congr 1
  have h : n ≤ 9 := by omega
  unfold digB
  simp [UInt8.toNat_ofNat]
  omega

set_option maxRecDepth 100000 in
set_option maxHeartbeats 1000000 in
theorem digits_any (w : World) (v : Value) (xs : List Int) (h : IS w v xs) (hm : xs.length ≤ 1048576) :
    Calls Try.prog 50 #[v] w fun e w' => e = .returned (.tuple #[.string (tx (digsT xs)), .bool (digsOk xs)]) ∧ Gr w w' := by
  obtain ⟨A, N, c, rfl, h1⟩ := h
  obtain rfl : N = xs.length := h1.1
  go_enter Try.func50, Try.ntmps50
  go_wp2_with fail
  go_loopw [6, 9] (fun _ i wr => ∃ k : Nat, k ≤ xs.length ∧ i = .int .i64 k ∧ NoneTill noDig xs k ∧ DigAt w wr xs k) (fun _ i _ => xs.length - (intOf i).toNat)
  case atStart => exact ⟨0, Nat.zero_le _, rfl, NoneTill.zero _ _, DigAt.zero _ _⟩
  case round =>
    obtain ⟨k, hk, rfl, ht, hg, p, hp, hb⟩ := hrel
    by_cases hlt : k < xs.length
    · obtain ⟨ad, rfl, hc⟩ := h1.2 k hlt
      have hc1 := hg.cell hc
      cases hi : noDig (nth xs k)
      · have hi2 : inR (nth xs k) 0 9 = true := by simpa [noDig] using hi
        have hx := inR_iff.1 hi2
        have HB := Lib.hid (ht.succ hi)
        have HI := Lib.hid hi2
        have hx0 := hx.1
        have hx9 := hx.2
        have HH := Lib.hid (And.intro hg (And.intro hp hb))
        clear hi hi2 hx hp hb hg
        go_wp2_with fail
        refine (in_any _ _ _ _).mono ?_
        rw [HI.out]
        rintro e w1 ⟨rfl, rfl⟩
        go_wp2_with fail
        refine (WriteByte_any _ _ _ _ _ _ HH.out.2.2 HH.out.2.1 (by simp [Lib.byteCells]; rw [digsTill_len hk]; omega) HH.out.1.size).mono ?_
        rintro e w1 ⟨rfl, hb, hk1⟩
        have HX := Lib.hid (show DigAt w w1 xs (k + 1) from ⟨Below.trans HH.out.1 hk1, _, .inr rfl, by rw [digsTill_succ hlt]; rw [byteCell_dig hx0 hx9] at hb; simpa [Lib.byteCells] using hb⟩)
        clear hb hk1 hc1
        go_wp2_with fail
        exact ⟨⟨k + 1, by omega, by go_num, HB.out, HX.out⟩, by simp [intOf]; omega⟩
      · have hi2 : inR (nth xs k) 0 9 = false := by simpa [noDig] using hi
        have HI := Lib.hid hi2
        have HB := Lib.hid (anyB_yes (p := noDig) hlt hi)
        clear hi hi2 hp hb
        go_wp2_with fail
        refine (in_any _ _ _ _).mono ?_
        rw [HI.out]
        rintro e w1 ⟨rfl, rfl⟩
        go_wp2_with fail
        go_ret2
        exact ⟨by rw [digsT_no HB.out, digsOk, HB.out]; rfl, hg⟩
    · have HB := Lib.hid (anyB_no ht (by omega))
      have HD := Lib.hid (digsTill_all (xs := xs) (k := k) (by omega))
      have hbb : Lib.IsBuilder 84 5 w.heap.size w.heap.size (Lib.byteCells (digsTill xs k)) wr := by
        rcases hp with rfl | rfl
        · exact .inl hb
        · exact .inr hb
      have HH := Lib.hid (And.intro hg hbb)
      clear hp hb hbb hg
      go_wp2_with fail
      refine (Try.Builder_String_any _ _ _ _ HH.out.2 HH.out.1.size).mono ?_
      rintro e w1 ⟨rfl, hk1⟩
      go_wp2_with fail
      go_ret2
      exact ⟨by rw [digsT_yes HB.out, digsOk, HB.out, ← HD.out]; rfl, Below.trans HH.out.1 hk1⟩

/-- The text of a state; of a lasso. -/
def fmtState (x : Ints2) : List UInt8 := if digsOk x.1 && digsOk x.2 then digsT x.1 ++ [47] ++ digsT x.2 else []
theorem fmtState_no {x : Ints2} (h : (digsOk x.1 && digsOk x.2) = false) : fmtState x = [] := by simp [fmtState, h]
theorem fmtState_yes {x : Ints2} (h : digsOk x.1 = true) (h2 : digsOk x.2 = true) : fmtState x = digsT x.1 ++ [47] ++ digsT x.2 := by simp [fmtState, h, h2]
def fmtLasso (x : Ints2) : List UInt8 := if lassoOk x then digsT x.1 ++ [40] ++ digsT x.2 ++ [41] else []
theorem fmtLasso_no {x : Ints2} (h : lassoOk x = false) : fmtLasso x = [] := by simp [fmtLasso, h]
theorem fmtLasso_yes {x : Ints2} (h : lassoOk x = true) : fmtLasso x = digsT x.1 ++ [40] ++ digsT x.2 ++ [41] := by simp [fmtLasso, h]
end Go.Proofs.Ytlbbhkpjjciaiaa

