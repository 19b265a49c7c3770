/-
  A contract of digits that asks nothing of the slice's room, and the same as a contract over abstract values. No conditions.
-/
import Derived.Test.YtlbbhkpjjciaiaaDigits
import Derived.Test.YtlbbhkpjjciaiaaP3
namespace Go.Proofs.Ytlbbhkpjjciaiaa
open Go.RowKit Go.Deep
set_option linter.unusedVariables false

/-- From address A on lie the N integers of this list; of the room nothing is said. -/
structure IRw (w : World) (A : Option Addr) (N c : Nat) (xs : List Int) : Prop where
  len : N = xs.length
  cells : ∀ k, k < N → ∃ ad, A = some ad ∧ w.cell? (ad.add k) = some (.int .i64 (nth xs k))
def IW (w : World) (v : Value) (xs : List Int) : Prop := ∃ A N c, v = .slice A N c ∧ IRw w A N c xs

set_option maxRecDepth 100000 in
set_option maxHeartbeats 1000000 in
theorem digitsW_any (w : World) (v : Value) (xs : List Int) (h : IW w v xs) (hm : xs.length ≤ 1048576) :
    Calls Try.prog 50 #[v] w fun e w' => e = .returned (.tuple #[.string (tx (digsT xs)), .bool (digsOk xs)]) ∧ Gr w w' := by
  obtain ⟨A, N, c, rfl, h1⟩ := h
  obtain rfl : N = xs.length := h1.1
  go_enter Try.func50, Try.ntmps50
  go_wp2_with fail
  go_loopw [6, 9] (fun _ i wr => ∃ k : Nat, k ≤ xs.length ∧ i = .int .i64 k ∧ NoneTill noDig xs k ∧ DigAt w wr xs k) (fun _ i _ => xs.length - (intOf i).toNat)
  case atStart => exact ⟨0, Nat.zero_le _, rfl, NoneTill.zero _ _, DigAt.zero _ _⟩
  case round =>
    obtain ⟨k, hk, rfl, ht, hg, p, hp, hb⟩ := hrel
    by_cases hlt : k < xs.length
    · obtain ⟨ad, rfl, hc⟩ := h1.2 k hlt
      have hc1 := hg.cell hc
      cases hi : noDig (nth xs k)
      · have hi2 : inR (nth xs k) 0 9 = true := by simpa [noDig] using hi
        have hx := inR_iff.1 hi2
        have HB := Lib.hid (ht.succ hi)
        have HI := Lib.hid hi2
        have hx0 := hx.1
        have hx9 := hx.2
        have HH := Lib.hid (And.intro hg (And.intro hp hb))
        clear hi hi2 hx hp hb hg
        go_wp2_with fail
        refine (in_any _ _ _ _).mono ?_
        rw [HI.out]
        rintro e w1 ⟨rfl, rfl⟩
        go_wp2_with fail
        refine (WriteByte_any _ _ _ _ _ _ HH.out.2.2 HH.out.2.1 (by simp [Lib.byteCells]; rw [digsTill_len hk]; omega) HH.out.1.size).mono ?_
        rintro e w1 ⟨rfl, hb, hk1⟩
        have HX := Lib.hid (show DigAt w w1 xs (k + 1) from ⟨Below.trans HH.out.1 hk1, _, .inr rfl, by rw [digsTill_succ hlt]; rw [byteCell_dig hx0 hx9] at hb; simpa [Lib.byteCells] using hb⟩)
        clear hb hk1 hc1
        go_wp2_with fail
        exact ⟨⟨k + 1, by omega, by go_num, HB.out, HX.out⟩, by simp [intOf]; omega⟩
      · have hi2 : inR (nth xs k) 0 9 = false := by simpa [noDig] using hi
        have HI := Lib.hid hi2
        have HB := Lib.hid (anyB_yes (p := noDig) hlt hi)
        clear hi hi2 hp hb
        go_wp2_with fail
        refine (in_any _ _ _ _).mono ?_
        rw [HI.out]
        rintro e w1 ⟨rfl, rfl⟩
        go_wp2_with fail
        go_ret2
        exact ⟨by rw [digsT_no HB.out, digsOk, HB.out]; rfl, hg⟩
    · have HB := Lib.hid (anyB_no ht (by omega))
      have HD := Lib.hid (digsTill_all (xs := xs) (k := k) (by omega))
      have hbb : Lib.IsBuilder 84 5 w.heap.size w.heap.size (Lib.byteCells (digsTill xs k)) wr := by
        rcases hp with rfl | rfl
        · exact .inl hb
        · exact .inr hb
      have HH := Lib.hid (And.intro hg hbb)
      clear hp hb hbb hg
      go_wp2_with fail
      refine (Try.Builder_String_any _ _ _ _ HH.out.2 HH.out.1.size).mono ?_
      rintro e w1 ⟨rfl, hk1⟩
      go_wp2_with fail
      go_ret2
      exact ⟨by rw [digsT_yes HB.out, digsOk, HB.out, ← HD.out]; rfl, Below.trans HH.out.1 hk1⟩

set_option maxRecDepth 100000 in
set_option maxHeartbeats 1000000 in
theorem l3DigitsW_any (w : World) (v : Value) (xs : List Int) (h : IW w v xs) (hm : xs.length ≤ 1048576) :
    Calls Try.prog 48 #[v] w fun e w' => e = .returned (.tuple #[.string (tx (digsT xs)), .bool (digsOk xs)]) ∧ Gr w w' := by
  obtain ⟨A, N, c, rfl, h1⟩ := h
  obtain rfl : N = xs.length := h1.1
  have hm' : xs.length ≤ 9223372036854775807 := by omega
  go_enter Try.func48, Try.ntmps48
  go_wp2_with fail
  go_loopw [4, 5] (fun s i wr => ∃ k : Nat, k ≤ xs.length ∧ i = .int .i64 k ∧ s = .string (tx (digsTill xs k)) ∧ NoneTill noDig xs k ∧ Gr w wr) (fun _ i _ => xs.length - (intOf i).toNat)
  case atStart => exact ⟨0, Nat.zero_le _, rfl, rfl, NoneTill.zero _ _, Gr.refl w⟩
  case round =>
    obtain ⟨k, hk, rfl, rfl, ht, hg⟩ := hrel
    by_cases hlt : k < xs.length
    · obtain ⟨ad, rfl, hc⟩ := h1.2 k hlt
      have hc1 := hg.cell hc
      by_cases ha : nth xs k < 0
      · have HB := Lib.hid (anyB_yes (p := noDig) hlt (by rw [noDig, inR_lo ha]; rfl))
        go_wp2_with fail
        go_ret2
        exact ⟨by rw [digsT_no HB.out, digsOk, HB.out]; rfl, hg⟩
      · by_cases hb : 9 < nth xs k
        · have HB := Lib.hid (anyB_yes (p := noDig) hlt (by rw [noDig, inR_hi hb]; rfl))
          go_wp2_with fail
          go_ret2
          exact ⟨by rw [digsT_no HB.out, digsOk, HB.out]; rfl, hg⟩
        · have HB := Lib.hid (ht.succ (by rw [noDig, inR_yes (by omega) (by omega)]; rfl))
          obtain ⟨x, hx⟩ := Int.eq_ofNat_of_zero_le (by omega : 0 ≤ nth xs k)
          have HD := Lib.hid (show tx (digsTill xs k) ++ tx (decN x) = tx (digsTill xs (k + 1)) by rw [tx_add, decN_le (by omega), digsTill_succ hlt, hx])
          have hl1 : (tx (digsTill xs k)).size = k := by rw [tx_size, digsTill_len hk]
          have hl2 : (tx (decN x)).size = 1 := by rw [tx_size, decN_le (by omega)]; rfl
          have hl1' : (tx (digsTill xs k)).size ≤ 1048576 := by omega
          have hl2' : (tx (decN x)).size ≤ 1 := by omega
          have hx9 : x ≤ 9 := by omega
          clear hl1 hl2
          rw [hx] at hc1 ha hb
          clear hx
          go_wp2_with fail
          refine (l16Dec_any _ x (by omega)).mono ?_
          rintro e w1 ⟨rfl, hg1⟩
          have hG := hg.trans hg1
          clear hg hg1 hc1
          go_wp2_with fail
          exact ⟨⟨k + 1, by omega, by go_num, by rw [HD.out], HB.out, hG⟩, by simp [intOf]; omega⟩
    · have HB := Lib.hid (anyB_no ht (by omega))
      have HD := Lib.hid (digsTill_all (xs := xs) (k := k) (by omega))
      go_wp2_with fail
      go_ret2
      exact ⟨by rw [digsT_yes HB.out, digsOk, HB.out, ← HD.out]; rfl, hg⟩
end Go.Proofs.Ytlbbhkpjjciaiaa
namespace Go.Proofs.Ytlbbhkpjjciaiaa.Vm
open Go
set_option linter.unusedVariables false
set_option linter.unusedSimpArgs false
set_option maxRecDepth 200000

theorem digits_pure (xs : List Int) (hl : xs.length ≤ 1048576) : Pure Try.prog 50 [li cI xs] (.tup [.str (digsT xs), .bool (digsOk xs)]) := fun μ w vs h => by
  obtain ⟨v, rfl⟩ : ∃ v, vs = [v] := by
    have := h.length
    match vs, this with
    | [v], _ => exact ⟨v, rfl⟩
  have h1 := h.one
  simp only [li, Rep] at h1
  obtain ⟨_, hmax, A, c, us, rfl, hc, hA, hr⟩ := h1
  have hw : IW w (.slice A xs.length c) xs := by
    refine ⟨A, _, c, rfl, rfl, fun k hk => ?_⟩
    have hne : cat cI xs ≠ [] := by
      intro e
      have := cat_length (f := cI) xs
      rw [e] at this; simp at this; omega
    obtain ⟨b, o, rfl, _, hs⟩ := hA.resolve_left hne
    have hd : (cat cI xs)[k]? = some (.int .i64 (Vm.nth xs k)) := by
      have := cat_get1 (f := cI) hk
      rw [List.getD_eq_getElem?_getD] at this
      have hk2 : k < (cat cI xs).length := by rw [cat_length]; omega
      rw [List.getElem?_eq_getElem hk2] at this ⊢
      simpa [cI] using this
    obtain ⟨u, hu, hrep⟩ := hr.get hd
    simp only [Rep] at hrep
    refine ⟨_, rfl, ?_⟩
    rw [Addr.add_lit, hs.cell hu, hrep.2]; rfl
  refine (digitsW_any w _ xs hw hl).mono fun e w' ⟨he, hg⟩ => ?_
  subst he
  refine ⟨_, [], rfl, ?_, .nil, by simp, ⟨hg.os, hg.tape, hg.output, hg.size, fun b hb _ => hg.block b hb⟩⟩
  simp only [Rep, RepL]
  exact ⟨_, rfl, _, _, [], [], rfl, rfl, ⟨rfl, rfl⟩, _, _, [], [], rfl, rfl, ⟨rfl, rfl⟩, rfl, rfl⟩
theorem l3Digits_pure (xs : List Int) (hl : xs.length ≤ 1048576) : Pure Try.prog 48 [li cI xs] (.tup [.str (digsT xs), .bool (digsOk xs)]) := fun μ w vs h => by
  obtain ⟨v, rfl⟩ : ∃ v, vs = [v] := by
    have := h.length
    match vs, this with
    | [v], _ => exact ⟨v, rfl⟩
  have h1 := h.one
  simp only [li, Rep] at h1
  obtain ⟨_, hmax, A, c, us, rfl, hc, hA, hr⟩ := h1
  have hw : IW w (.slice A xs.length c) xs := by
    refine ⟨A, _, c, rfl, rfl, fun k hk => ?_⟩
    have hne : cat cI xs ≠ [] := by
      intro e
      have := cat_length (f := cI) xs
      rw [e] at this; simp at this; omega
    obtain ⟨b, o, rfl, _, hs⟩ := hA.resolve_left hne
    have hd : (cat cI xs)[k]? = some (.int .i64 (Vm.nth xs k)) := by
      have := cat_get1 (f := cI) hk
      rw [List.getD_eq_getElem?_getD] at this
      have hk2 : k < (cat cI xs).length := by rw [cat_length]; omega
      rw [List.getElem?_eq_getElem hk2] at this ⊢
      simpa [cI] using this
    obtain ⟨u, hu, hrep⟩ := hr.get hd
    simp only [Rep] at hrep
    refine ⟨_, rfl, ?_⟩
    rw [Addr.add_lit, hs.cell hu, hrep.2]; rfl
  refine (l3DigitsW_any w _ xs hw hl).mono fun e w' ⟨he, hg⟩ => ?_
  subst he
  refine ⟨_, [], rfl, ?_, .nil, by simp, ⟨hg.os, hg.tape, hg.output, hg.size, fun b hb _ => hg.block b hb⟩⟩
  simp only [Rep, RepL]
  exact ⟨_, rfl, _, _, [], [], rfl, rfl, ⟨rfl, rfl⟩, _, _, [], [], rfl, rfl, ⟨rfl, rfl⟩, rfl, rfl⟩
end Go.Proofs.Ytlbbhkpjjciaiaa.Vm

