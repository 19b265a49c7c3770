/-
  Contracts of the functions that tell whether a tree is a valid Formula. No conditions but that the tree can be read.
-/
import Derived.Test.YtnooaggphajllaaFormula
import Derived.Test.YtnooaggphajllaaShape
import Derived.Test.YtnooaggphajllaaLetters
namespace Go.Proofs.Ytnooaggphajllaa
open Go.RowKit Go.Deep
set_option linter.unusedVariables false

/-! ### The reference -/
set_option maxHeartbeats 1000000 in
theorem l5Arity_any (w : World) (k : Int) : Calls Try.prog 93 #[.int .i64 k] w fun e w' => e = .returned (.int .i64 (arF k)) ∧ w = w' := by
  by_cases h1 : k = 1
  · subst h1
    go_enter Try.func93, Try.ntmps93
    go_wp2_with fail
    go_ret
    exact ⟨rfl, rfl⟩
  by_cases h2 : k = 2
  · subst h2
    go_enter Try.func93, Try.ntmps93
    go_wp2_with fail
    go_ret
    exact ⟨rfl, rfl⟩
  by_cases h3 : k = 3
  · subst h3
    go_enter Try.func93, Try.ntmps93
    go_wp2_with fail
    go_ret
    exact ⟨rfl, rfl⟩
  by_cases h4 : k = 4
  · subst h4
    go_enter Try.func93, Try.ntmps93
    go_wp2_with fail
    go_ret
    exact ⟨rfl, rfl⟩
  by_cases h5 : k = 5
  · subst h5
    go_enter Try.func93, Try.ntmps93
    go_wp2_with fail
    go_ret
    exact ⟨rfl, rfl⟩
  by_cases h6 : k = 6
  · subst h6
    go_enter Try.func93, Try.ntmps93
    go_wp2_with fail
    go_ret
    exact ⟨rfl, rfl⟩
  by_cases h7 : k = 7
  · subst h7
    go_enter Try.func93, Try.ntmps93
    go_wp2_with fail
    go_ret
    exact ⟨rfl, rfl⟩
  by_cases h8 : k = 8
  · subst h8
    go_enter Try.func93, Try.ntmps93
    go_wp2_with fail
    go_ret
    exact ⟨rfl, rfl⟩
  by_cases h9 : k = 9
  · subst h9
    go_enter Try.func93, Try.ntmps93
    go_wp2_with fail
    go_ret
    exact ⟨rfl, rfl⟩
  by_cases h10 : k = 10
  · subst h10
    go_enter Try.func93, Try.ntmps93
    go_wp2_with fail
    go_ret
    exact ⟨rfl, rfl⟩
  by_cases h11 : k = 11
  · subst h11
    go_enter Try.func93, Try.ntmps93
    go_wp2_with fail
    go_ret
    exact ⟨rfl, rfl⟩
  have b1 : (k == 1) = false := by simpa using h1
  have b2 : (k == 2) = false := by simpa using h2
  have b3 : (k == 3) = false := by simpa using h3
  have b4 : (k == 4) = false := by simpa using h4
  have b5 : (k == 5) = false := by simpa using h5
  have b6 : (k == 6) = false := by simpa using h6
  have b7 : (k == 7) = false := by simpa using h7
  have b8 : (k == 8) = false := by simpa using h8
  have b9 : (k == 9) = false := by simpa using h9
  have b10 : (k == 10) = false := by simpa using h10
  have b11 : (k == 11) = false := by simpa using h11
  have E := Lib.hid (show arF k = _ by unfold arF; rw [if_neg (by omega), if_neg (by omega), if_neg (by omega)])
  clear h1 h2 h3 h4 h5 h6 h7 h8 h9 h10 h11
  go_enter Try.func93, Try.ntmps93
  go_wp2_with fail
  go_ret
  exact ⟨by rw [E.out]; rfl, rfl⟩

set_option maxHeartbeats 1000000 in
theorem l5Shape_any : ∀ (d : Nat) (w : World) (v : Value) (t : Tr), d ≤ 100 → TS w 0 v t →
    Calls Try.prog 81 #[v, .int .i64 d] w fun e w' => e = .returned (.bool (shape arF d t)) ∧ Gr w w' := by
  intro d
  induction d with
  | zero =>
    intro w v t hd h
    obtain ⟨ka, kb, kA, kN, kc, rfl⟩ := h.shape
    go_enter Try.func81, Try.ntmps81
    go_wp2_with fail
    go_quiet (fail)
    go_wp2_with fail
    go_ret
    exact ⟨rfl, ((Gr.refl w).alloc _).drewN _⟩
  | succ d ih =>
    intro w v t hd h
    obtain ⟨a, b, ts⟩ := t
    simp only [TS] at h
    obtain ⟨A, c, rfl, hm, hts⟩ := h
    unfold maxLen at hm
    have b0 := Box.new (w := w) (k := w.heap.size) (cs := #[.int .i64 a, .int .i64 b, .slice A ts.length c]) (t := 75) rfl
    have hg0 := (Gr.refl w).alloc (.cells #[.int .i64 a, .int .i64 b, .slice A ts.length c] 75)
    have hlt1 : ¬ ((d : Int) + 1 < 1) := by omega
    have hd1 : decide (((d : Int) + 1) < 1) = false := by simpa using hlt1
    obtain ⟨N, hN⟩ : ∃ N, N = ts.length := ⟨_, rfl⟩
    rw [← hN] at b0 hg0 hm ⊢
    have G0 := Lib.hid hg0
    have HN := Lib.hid hN
    clear hg0 hN hlt1
    by_cases e1 : ((N : Int) = arF a)
    · have hb1 : ((N : Int) != arF a) = false := by simpa using e1
      have HE1 := Lib.hid e1
      clear e1
      by_cases e2 : b < 0
      · have HF := Lib.hid (shape_bad (d := d + 1) (nodeB_no (ar := arF) (k := a) (a := b) (n := ts.length) (by omega)))
        go_enter Try.func81, Try.ntmps81
        go_wp2_with fail
        go_quiet ((go_at_call 93; exact Calls.quiet_of_same ((l5Arity_any _ _).mono fun _ _ h => ⟨h.1, h.2.symm⟩)))
        go_wp2_with fail
        go_ret
        exact ⟨by rw [HF.out]; rfl, G0.out.drewN _⟩
      · by_cases e3 : 3 ≤ b
        · have HF := Lib.hid (shape_bad (d := d + 1) (nodeB_no (ar := arF) (k := a) (a := b) (n := ts.length) (by omega)))
          go_enter Try.func81, Try.ntmps81
          go_wp2_with fail
          go_quiet ((go_at_call 93; exact Calls.quiet_of_same ((l5Arity_any _ _).mono fun _ _ h => ⟨h.1, h.2.symm⟩)))
          go_wp2_with fail
          go_ret
          exact ⟨by rw [HF.out]; rfl, G0.out.drewN _⟩
        · by_cases e4 : a = 2 ∨ b = 0
          · have HF := Lib.hid (shape_node (d := d) (nodeB_iff.2 (show (ts.length : Int) = arF a ∧ 0 ≤ b ∧ b < 3 ∧ (a = 2 ∨ b = 0) from ⟨by have := HE1.out; have := HN.out; omega, by omega, by omega, e4⟩)))
            have hb2 : (a != 2) = false ∨ (a != 2) = true ∧ (b != 0) = false := by
              by_cases h2 : a = 2
              · exact .inl (by simpa using h2)
              · exact .inr ⟨by simpa using h2, by simpa using (by omega : b = 0)⟩
            clear e4
            rcases hb2 with hb2 | ⟨hb2, hb3⟩
            all_goals
              go_enter Try.func81, Try.ntmps81
              go_wp2_with fail
              go_quiet ((go_at_call 93; exact Calls.quiet_of_same ((l5Arity_any _ _).mono fun _ _ h => ⟨h.1, h.2.symm⟩)))
              go_wp2_with fail
              clear hb1 hb2
              try clear hb3
              clear hd1
              go_loopw [5] (fun i wr => ∃ k : Nat, k ≤ N ∧ i = .int .i64 k ∧ AllT (shape arF d) ts k ∧ Gr (w.alloc (.cells #[.int .i64 a, .int .i64 b, .slice A N c] 75)) wr) (fun i _ => N - (intOf i).toNat)
              case atStart => exact ⟨0, Nat.zero_le _, rfl, AllT.zero _ _, (Gr.refl _).drewN _⟩
              case round =>
                obtain ⟨k, hk, rfl, ha, hg⟩ := hrel
                have c0 := (b0.gr hg).c
                by_cases hlt : k < N
                · have hkl : k < ts.length := by have := HN.out; omega
                  obtain ⟨ad, x0, x1, x2, rfl, _, hc, ht⟩ := hts.at_ k hkl
                  rw [Nat.zero_add] at hc
                  have q0 := (hc.gr (G0.out.trans hg)).c0
                  have q1 := (hc.gr (G0.out.trans hg)).c1
                  have q2 := (hc.gr (G0.out.trans hg)).c2
                  have HT := Lib.hid (ht.gr (G0.out.trans hg))
                  clear hc ht
                  go_wp2_with fail
                  refine (ih _ _ ts[k] (by omega) HT.out).mono ?_
                  rintro e w1 ⟨rfl, hg1⟩
                  cases he : shape arF d ts[k]
                  · have HX := Lib.hid (all_no hkl he)
                    clear he
                    go_wp2_with fail
                    go_ret
                    exact ⟨by rw [HF.out, HX.out]; rfl, G0.out.trans (hg.trans hg1)⟩
                  · have HX := Lib.hid (ha.succ hkl he)
                    have hG := hg.trans hg1
                    clear he ha c0 q0 q1 q2 hg hg1 HT
                    go_wp2_with fail
                    exact ⟨⟨k + 1, by omega, by go_num, HX.out, hG⟩, by simp [intOf]; omega⟩
                · have HX := Lib.hid (ha.all (by have := HN.out; omega))
                  go_wp2_with fail
                  go_ret
                  exact ⟨by rw [HF.out, HX.out]; rfl, G0.out.trans hg⟩
          · have HF := Lib.hid (shape_bad (d := d + 1) (nodeB_no (ar := arF) (k := a) (a := b) (n := ts.length) (by omega)))
            have hb2 : (a != 2) = true := by simp; omega
            have hb3 : (b != 0) = true := by simp; omega
            clear e4
            go_enter Try.func81, Try.ntmps81
            go_wp2_with fail
            go_quiet ((go_at_call 93; exact Calls.quiet_of_same ((l5Arity_any _ _).mono fun _ _ h => ⟨h.1, h.2.symm⟩)))
            go_wp2_with fail
            go_ret
            exact ⟨by rw [HF.out]; rfl, G0.out.drewN _⟩
    · have hb1 : ((N : Int) != arF a) = true := by simpa using e1
      have HF := Lib.hid (shape_bad (d := d + 1) (nodeB_no (ar := arF) (k := a) (a := b) (n := ts.length) (by have := HN.out; omega)))
      clear e1
      go_enter Try.func81, Try.ntmps81
      go_wp2_with fail
      go_quiet ((go_at_call 93; exact Calls.quiet_of_same ((l5Arity_any _ _).mono fun _ _ h => ⟨h.1, h.2.symm⟩)))
      go_wp2_with fail
      go_ret
      exact ⟨by rw [HF.out]; rfl, G0.out.drewN _⟩

set_option maxHeartbeats 1000000 in
theorem l5Count_any : ∀ (d : Nat) (w : World) (v : Value) (t : Tr), d ≤ 20 → TS w 0 v t → shape arF d t = true →
    Calls Try.prog 82 #[v, .int .i64 d] w fun e w' => e = .returned (.int .i64 (trN t)) ∧ Gr w w' := by
  intro d
  induction d with
  | zero => intro w v t hd h hs; simp [shape] at hs
  | succ d ih =>
    intro w v t hd h hs
    have hsm := shape_small arF_le (d + 1) t hs
    have hpow : 2 ^ (d + 1) ≤ 2 ^ 20 := Nat.pow_le_pow_right (by omega) hd
    obtain ⟨a, b, ts⟩ := t
    simp only [TS] at h
    obtain ⟨A, c, rfl, hm, hts⟩ := h
    unfold maxLen at hm
    simp only [shape, Bool.and_eq_true] at hs
    have HS := Lib.hid hs.2
    simp only [trN] at hsm ⊢
    have b0 := Box.new (w := w) (k := w.heap.size) (cs := #[.int .i64 a, .int .i64 b, .slice A ts.length c]) (t := 75) rfl
    have G0 := Lib.hid ((Gr.refl w).alloc (.cells #[.int .i64 a, .int .i64 b, .slice A ts.length c] 75))
    have HM := Lib.hid (show trNL ts ≤ 1048576 by omega)
    clear hs hsm hpow
    have ecast : ((d + 1 : Nat) : Int) = (d : Int) + 1 := by omega
    rw [ecast]
    clear ecast
    go_enter Try.func82, Try.ntmps82
    go_wp2_with fail
    go_loopw [5, 6] (fun n i wr => ∃ k : Nat, k ≤ ts.length ∧ i = .int .i64 k ∧ n = .int .i64 (preN ts k + 1 : Nat) ∧ Gr (w.alloc (.cells #[.int .i64 a, .int .i64 b, .slice A ts.length c] 75)) wr) (fun _ i _ => ts.length - (intOf i).toNat)
    case atStart => exact ⟨0, Nat.zero_le _, rfl, by rw [preN_zero]; rfl, Gr.refl _⟩
    case round =>
      obtain ⟨k, hk, rfl, rfl, hg⟩ := hrel
      have c0 := (b0.gr hg).c
      by_cases hlt : k < ts.length
      · obtain ⟨ad, x0, x1, x2, rfl, _, hc, ht⟩ := hts.at_ k hlt
        rw [Nat.zero_add] at hc
        have q0 := (hc.gr (G0.out.trans hg)).c0
        have q1 := (hc.gr (G0.out.trans hg)).c1
        have q2 := (hc.gr (G0.out.trans hg)).c2
        have HT := Lib.hid (ht.gr (G0.out.trans hg))
        have HP := Lib.hid (preN_succ hlt)
        have hpp : preN ts k + trN ts[k] ≤ 1048576 := by have := preN_le (ts := ts) (k := k + 1) hlt; have := HM.out; have := HP.out; omega
        clear hc ht
        have hpx : preN ts k ≤ 1048576 := by omega
        go_wp2_with fail
        refine (ih _ _ ts[k] (by omega) HT.out (all_at HS.out hlt)).mono ?_
        rintro e w1 ⟨rfl, hg1⟩
        have hG := hg.trans hg1
        clear c0 q0 q1 q2 hg hg1 HT
        go_wp2_with fail
        exact ⟨⟨k + 1, by omega, by go_num, by rw [HP.out]; go_num, hG⟩, by simp [intOf]; omega⟩
      · have HX := Lib.hid (preN_all (ts := ts) (k := k) (by omega))
        go_wp2_with fail
        go_ret
        exact ⟨by rw [← HX.out]; rfl, G0.out.trans hg⟩

set_option maxHeartbeats 1000000 in
theorem specFormulaValid_any (w : World) (v : Value) (t : Tr) (h : TS w 0 v t) :
    Calls Try.prog 53 #[v] w fun e w' => e = .returned (.bool (validTr arF t)) ∧ Gr w w' := by
  obtain ⟨ka, kb, kA, kN, kc, rfl⟩ := h.shape
  have b0 := Box.new (w := w) (k := w.heap.size) (cs := #[.int .i64 ka, .int .i64 kb, .slice kA kN kc]) (t := 75) rfl
  have G0 := Lib.hid ((Gr.refl w).alloc (.cells #[.int .i64 ka, .int .i64 kb, .slice kA kN kc] 75))
  go_enter Try.func53, Try.ntmps53
  go_wp2_with fail
  refine (l5Shape_any 6 _ _ t (by omega) (h.gr G0.out)).mono ?_
  rintro e w1 ⟨rfl, hg⟩
  have c0 := (b0.gr hg).c
  cases hs : shape arF 6 t
  · go_wp2_with fail
    go_ret
    exact ⟨by rw [validTr, hs]; rfl, G0.out.trans hg⟩
  · have HS := Lib.hid hs
    clear hs
    go_wp2_with fail
    refine (l5Count_any 6 _ _ t (by omega) (h.gr (G0.out.trans hg)) HS.out).mono ?_
    rintro e w2 ⟨rfl, hg2⟩
    clear c0
    go_wp2_with fail
    go_ret
    exact ⟨by rw [validTr, HS.out]; simp; omega, G0.out.trans (hg.trans hg2)⟩

/-! ### The program -/
set_option maxHeartbeats 1000000 in
theorem operands_any (w : World) (k : Int) (h1 : 1 ≤ k) (h2 : k ≤ 10) : Calls Try.prog 98 #[.int .i64 k] w fun e w' => e = .returned (.int .i64 (arF k)) ∧ w = w' := by
  by_cases h1 : k = 1
  · subst h1
    go_enter Try.func98, Try.ntmps98
    go_wp2_with fail
    go_ret
    exact ⟨rfl, rfl⟩
  by_cases h2 : k = 2
  · subst h2
    go_enter Try.func98, Try.ntmps98
    go_wp2_with fail
    go_ret
    exact ⟨rfl, rfl⟩
  by_cases h3 : k = 3
  · subst h3
    go_enter Try.func98, Try.ntmps98
    go_wp2_with fail
    go_ret
    exact ⟨rfl, rfl⟩
  by_cases h4 : k = 4
  · subst h4
    go_enter Try.func98, Try.ntmps98
    go_wp2_with fail
    go_ret
    exact ⟨rfl, rfl⟩
  by_cases h5 : k = 5
  · subst h5
    go_enter Try.func98, Try.ntmps98
    go_wp2_with fail
    go_ret
    exact ⟨rfl, rfl⟩
  by_cases h6 : k = 6
  · subst h6
    go_enter Try.func98, Try.ntmps98
    go_wp2_with fail
    go_ret
    exact ⟨rfl, rfl⟩
  by_cases h7 : k = 7
  · subst h7
    go_enter Try.func98, Try.ntmps98
    go_wp2_with fail
    go_ret
    exact ⟨rfl, rfl⟩
  by_cases h8 : k = 8
  · subst h8
    go_enter Try.func98, Try.ntmps98
    go_wp2_with fail
    go_ret
    exact ⟨rfl, rfl⟩
  by_cases h9 : k = 9
  · subst h9
    go_enter Try.func98, Try.ntmps98
    go_wp2_with fail
    go_ret
    exact ⟨rfl, rfl⟩
  by_cases h10 : k = 10
  · subst h10
    go_enter Try.func98, Try.ntmps98
    go_wp2_with fail
    go_ret
    exact ⟨rfl, rfl⟩
  omega

/-- What a walk from count c on leaves: its answer; block g holds the new count; nothing else that was there has turned. -/
def WalkFormulaPost (d c g : Nat) (w : World) (t : Tr) (e : Ending) (w' : World) : Prop :=
  ∃ c' : Int, e = .returned (.bool (walkOk arF d c t)) ∧ GrB g w w' ∧ Box w' g 3 #[.int .i64 c'] ∧ (walkOk arF d c t = true → c' = (c + trN t : Nat))
def WalkFormula (d : Nat) : Prop := ∀ (w w0 : World) (v : Value) (t : Tr) (dp c g : Nat), Gr w0 w → TS w0 0 v t → dp + d = 7 → c ≤ 12 → w0.heap.size ≤ g → Box w g 3 #[.int .i64 c] →
    Calls Try.prog 94 #[v, .int .i64 dp, .pointer (some ⟨g, 0, none⟩)] w (WalkFormulaPost d c g w t)

def IdxFormulaPost (d c g : Nat) (w : World) (ts : List Tr) (e : Ending) (w' : World) : Prop :=
  ∃ (r c' : Int), e = .returned (.int .i64 r) ∧ decide (0 ≤ r) = !walkOkL arF d c ts ∧ GrB g w w' ∧ Box w' g 3 #[.int .i64 c'] ∧ (walkOkL arF d c ts = true → c' = (c + trNL ts : Nat))
/-- The state of a search: block g counts. -/
def CntFormula (d c g k : Nat) (w wr : World) (ts : List Tr) : Prop :=
  GrB g w wr ∧ Box wr g 3 #[.int .i64 (c + preN ts k : Nat)] ∧ AllT (shape arF d) ts k ∧ c + preN ts k ≤ 12

set_option maxHeartbeats 1000000 in
theorem walk1Formula_any {d : Nat} (ih : WalkFormula d) (w w0 : World) (v : Value) (t : Tr) (dp c g bd bp : Nat) (h0 : Gr w0 w) (h : TS w0 0 v t) (hd : dp + d = 6) (hc : c ≤ 12) (hg : w0.heap.size ≤ g) (hbg : Box w g 3 #[.int .i64 c])
    (hbd : Box w bd 3 #[.int .i64 dp]) (hbp : Box w bp 110 #[.pointer (some ⟨g, 0, none⟩)]) :
    Calls Try.prog 100 #[v, .pointer (some ⟨bd, 0, none⟩), .pointer (some ⟨bp, 0, none⟩)] w fun e w' =>
      ∃ c' : Int, e = .returned (.bool (!walkOk arF d c t)) ∧ GrB g w w' ∧ Box w' g 3 #[.int .i64 c'] ∧ (walkOk arF d c t = true → c' = (c + trN t : Nat)) := by
  obtain ⟨ka, kb, kA, kN, kc, rfl⟩ := h.shape
  have hdp : dp ≤ 6 := by omega
  have l1 := hbd.lt
  have l2 := hbp.lt
  have c1 := hbd.c
  have c2 := hbp.c
  have HD := Lib.hid hd
  clear hd
  go_enter Try.func100, Try.ntmps100
  go_wp2_with fail
  rw [show ((dp : Int) + 1) = ((dp + 1 : Nat) : Int) by omega]
  refine (ih _ w0 _ t (dp + 1) c g (h0.trans ((Gr.refl w).alloc _)) h (by have := HD.out; omega) hc hg (hbg.alloc _)).mono ?_
  rintro e w1 ⟨c', rfl, hG, hB, hC⟩
  have HH := Lib.hid (And.intro hG (And.intro hB hC))
  clear hG hB hC c1 c2
  go_wp2_with fail
  go_ret
  exact ⟨c', rfl, (((Gr.refl w).alloc _).b).trans HH.out.1, HH.out.2.1, HH.out.2.2⟩

set_option maxHeartbeats 1000000 in
theorem idxFormula_any {d : Nat} (ih : WalkFormula d) (w w0 : World) (A : Option Addr) (N cc : Nat) (ts : List Tr) (dp c g bd bp : Nat) (h0 : Gr w0 w) (hts : TL w0 0 A 0 ts) (hN : N = ts.length) (hm : N ≤ maxLen) (hd : dp + d = 6) (hc : c ≤ 12) (hg : w0.heap.size ≤ g) (hbg : Box w g 3 #[.int .i64 c])
    (hbd : Box w bd 3 #[.int .i64 dp]) (hbp : Box w bp 110 #[.pointer (some ⟨g, 0, none⟩)]) (hne : bd ≠ g) (hne2 : bp ≠ g) :
    Calls Try.prog 102 #[.slice A N cc, .func (.func 100) #[] #[.pointer (some ⟨bd, 0, none⟩), .pointer (some ⟨bp, 0, none⟩)]] w (IdxFormulaPost d c g w ts) := by
  unfold maxLen at hm
  have HN := Lib.hid (And.intro hN hd)
  clear hN hd
  go_enter Try.func102, Try.ntmps102
  go_wp2_with fail
  go_loopw [8, 5] (fun i _ wr => ∃ k : Nat, k ≤ N ∧ i = .int .i64 k ∧ CntFormula d c g k w wr ts) (fun i _ _ => N - (intOf i).toNat)
  case atStart => exact ⟨0, Nat.zero_le _, rfl, GrB.refl _ _, by rw [preN_zero]; exact hbg, AllT.zero _ _, by rw [preN_zero]; omega⟩
  case round =>
    obtain ⟨k, hk, rfl, hG, hB, ha, hle⟩ := hrel
    have g0 := GrB.gr h0 hG hg
    by_cases hlt : k < N
    · have hkl : k < ts.length := by have := HN.out.1; omega
      obtain ⟨ad, x0, x1, x2, rfl, _, hcc, ht⟩ := hts.at_ k hkl
      rw [Nat.zero_add] at hcc
      have q0 := (hcc.gr g0).c0
      have q1 := (hcc.gr g0).c1
      have q2 := (hcc.gr g0).c2
      have HT := Lib.hid ht
      have HP := Lib.hid (preN_succ hkl)
      clear hcc ht
      go_wp2_with fail
      refine (walk1Formula_any ih _ w0 _ ts[k] dp (c + preN ts k) g bd bp g0 HT.out HN.out.2 hle hg hB (hbd.grB hG hne) (hbp.grB hG hne2)).mono ?_
      rintro e w1 ⟨c', rfl, hG1, hB1, hC1⟩
      have hG2 := hG.trans hG1
      cases he : walkOk arF d (c + preN ts k) ts[k]
      · have HX := Lib.hid (walkOkL_no hkl he)
        have HB := Lib.hid (And.intro hG2 hB1)
        clear he q0 q1 q2 hG hB hG1 hB1 hC1 hG2 g0
        go_wp2_with fail
        go_ret
        exact ⟨_, c', rfl, by rw [HX.out]; simp, HB.out.1, HB.out.2, fun h => by rw [HX.out] at h; cases h⟩
      · have hc' := hC1 he
        subst hc'
        have HX := Lib.hid (show CntFormula d c g (k + 1) w w1 ts from ⟨hG2, by rw [HP.out, ← Nat.add_assoc]; exact hB1, ha.succ hkl (walkOk_parts he).1, by rw [HP.out, ← Nat.add_assoc]; exact (walkOk_parts he).2⟩)
        clear he q0 q1 q2 hG hB hG1 hB1 hC1 hG2 ha g0
        go_wp2_with fail
        exact ⟨⟨k + 1, by omega, by go_num, HX.out⟩, by simp [intOf]; omega⟩
    · have hkl : ts.length ≤ k := by have := HN.out.1; omega
      have HX := Lib.hid (walkOkL_yes hkl ha hle)
      have HB := Lib.hid (And.intro hG (And.intro hB (preN_all hkl)))
      clear hG hB ha g0
      go_wp2_with fail
      go_ret
      exact ⟨_, _, rfl, by rw [HX.out]; simp, HB.out.1, HB.out.2.1, fun _ => by rw [HB.out.2.2]⟩

set_option maxHeartbeats 1000000 in
theorem contFormula_any {d : Nat} (ih : WalkFormula d) (w w0 : World) (A : Option Addr) (N cc : Nat) (ts : List Tr) (dp c g bd bp : Nat) (h0 : Gr w0 w) (hts : TL w0 0 A 0 ts) (hN : N = ts.length) (hm : N ≤ maxLen) (hd : dp + d = 6) (hc : c ≤ 12) (hg : w0.heap.size ≤ g) (hbg : Box w g 3 #[.int .i64 c])
    (hbd : Box w bd 3 #[.int .i64 dp]) (hbp : Box w bp 110 #[.pointer (some ⟨g, 0, none⟩)]) (hne : bd ≠ g) (hne2 : bp ≠ g) :
    Calls Try.prog 99 #[.slice A N cc, .func (.func 100) #[] #[.pointer (some ⟨bd, 0, none⟩), .pointer (some ⟨bp, 0, none⟩)]] w fun e w' =>
      ∃ c' : Int, e = .returned (.bool (!walkOkL arF d c ts)) ∧ GrB g w w' ∧ Box w' g 3 #[.int .i64 c'] ∧ (walkOkL arF d c ts = true → c' = (c + trNL ts : Nat)) := by
  have HN := Lib.hid (And.intro hN hd)
  clear hN hd
  go_enter Try.func99, Try.ntmps99
  go_wp2_with fail
  refine (idxFormula_any ih _ w0 _ _ _ ts dp c g bd bp h0 hts HN.out.1 hm HN.out.2 hc hg hbg hbd hbp hne hne2).mono ?_
  rintro e w1 ⟨r, c', rfl, hr, hG, hB, hC⟩
  have HH := Lib.hid (And.intro hr (And.intro hG (And.intro hB hC)))
  clear hr hG hB hC
  go_wp2_with fail
  go_ret
  exact ⟨c', by rw [← HH.out.1]; rfl, HH.out.2.1, HH.out.2.2.1, HH.out.2.2.2⟩

set_option maxHeartbeats 2000000 in
theorem walkFormula_zero : WalkFormula 0 := by
  intro w w0 v t dp c g h0 h hd hc hg hbg
  obtain ⟨a, b, A, N, cc, rfl⟩ := h.shape
  obtain rfl : dp = 7 := by omega
  have hgl := hbg.lt
  have hgl1 : g < w.heap.size + 1 := by omega
  have hgl2 : g < w.heap.size + 1 + 1 := by omega
  have cg := hbg.c 0
  have fg := hbg.f 0
  have HF := Lib.hid (walkOk_deep arF c t)
  have HB : Hid (Box (((((w.setCell ⟨g, 0, none⟩ (.int .i64 (c + 1))).alloc (.cells #[.int .i64 a, .int .i64 b, .slice A N cc] 75)).alloc (.cells #[.int .i64 7] 3)).alloc (.cells #[.pointer (some ⟨g, 0, none⟩)] 110))) g 3 #[.int .i64 (c + 1)]) :=
    Lib.hid ((((hbg.set_).alloc _).alloc _).alloc _)
  have hgne : w.heap.size ≠ g := by omega
  have hgne1 : w.heap.size + 1 ≠ g := by omega
  have hgne2 : w.heap.size + 1 + 1 ≠ g := by omega
  have hk2 : (a == 2) = true ∨ (a == 2) = false := by cases (a == 2) <;> simp
  clear h h0 hg hbg
  rcases hk2 with hk2 | hk2
  all_goals
    go_enter Try.func94, Try.ntmps94
    go_wp2_with fail
    go_quiet ((first | (go_at_call 62; exact Calls.quiet_of_same ((in_any _ _ _ _).mono fun _ _ h => ⟨h.1, h.2.symm⟩)) | (go_at_call 98; exact Calls.quiet_of_same ((operands_any _ _ (by omega) (by omega)).mono fun _ _ h => ⟨h.1, h.2.symm⟩))))
    go_wp2_with fail
    go_ret
    exact ⟨c + 1, by rw [HF.out]; rfl, ((((((GrB.refl g w).set).alloc _).alloc _).alloc _).drewN _), HB.out, fun h => by rw [HF.out] at h; cases h⟩

set_option maxHeartbeats 2000000 in
theorem walkFormula_step {d : Nat} (ih : WalkFormula d) : WalkFormula (d + 1) := by
  intro w w0 v t dp c g h0 h hd hc hg hbg
  obtain ⟨a, b, ts⟩ := t
  simp only [TS] at h
  obtain ⟨A, cc, rfl, hm, hts⟩ := h
  obtain ⟨N, hN⟩ : ∃ N, N = ts.length := ⟨_, rfl⟩
  rw [← hN] at hm ⊢
  have hgl := hbg.lt
  have hgl1 : g < w.heap.size + 1 := by omega
  have hgl2 : g < w.heap.size + 1 + 1 := by omega
  have cg := hbg.c 0
  have fg := hbg.f 0
  have hm' : N ≤ 9223372036854775807 := by unfold maxLen at hm; omega
  have HH := Lib.hid (And.intro hN (And.intro hd (And.intro h0 (And.intro hts (And.intro hg hm)))))
  have hdp : dp ≤ 6 := by omega
  have HB : Hid (Box (((((w.setCell ⟨g, 0, none⟩ (.int .i64 (c + 1))).alloc (.cells #[.int .i64 a, .int .i64 b, .slice A N cc] 75)).alloc (.cells #[.int .i64 dp] 3)).alloc (.cells #[.pointer (some ⟨g, 0, none⟩)] 110))) g 3 #[.int .i64 (c + 1)]) :=
    Lib.hid ((((hbg.set_).alloc _).alloc _).alloc _)
  have hgne : w.heap.size ≠ g := by omega
  have hgne1 : w.heap.size + 1 ≠ g := by omega
  have hgne2 : w.heap.size + 1 + 1 ≠ g := by omega
  clear hN hd h0 hts hg hm hbg
  have hq1 : decide ((6 : Int) < (dp : Int)) = false := by simp; omega
  by_cases e0 : 12 < c + 1
  · have hq2 : decide ((12 : Int) < (c : Int) + 1) = true := by simp; omega
    have HF := Lib.hid (walkOk_many arF (d + 1) (c := c) (.node a b ts) (by omega))
    have hk2 : (a == 2) = true ∨ (a == 2) = false := by cases (a == 2) <;> simp
    rcases hk2 with hk2 | hk2
    all_goals
      go_enter Try.func94, Try.ntmps94
      go_wp2_with fail
      go_quiet ((first | (go_at_call 62; exact Calls.quiet_of_same ((in_any _ _ _ _).mono fun _ _ h => ⟨h.1, h.2.symm⟩)) | (go_at_call 98; exact Calls.quiet_of_same ((operands_any _ _ (by omega) (by omega)).mono fun _ _ h => ⟨h.1, h.2.symm⟩))))
      go_wp2_with fail
      go_ret
      exact ⟨c + 1, by rw [HF.out]; rfl, ((((((GrB.refl g w).set).alloc _).alloc _).alloc _).drewN _), HB.out, fun h => by rw [HF.out] at h; cases h⟩
  · have hq2 : decide ((12 : Int) < (c : Int) + 1) = false := by simp; omega
    by_cases e1 : a < 1
    · have HI := Lib.hid (inR_lo (n := a) (lo := 1) (hi := 10) e1)
      have hi1 : inR a 1 10 = false := HI.out
      have HF := Lib.hid (walkOk_bad (ar := arF) (d := d + 1) (c := c) (k := a) (a := b) (ts := ts) (nodeB_no (by have : arF a = -1 := (by unfold arF; rw [if_neg (by omega), if_neg (by omega), if_neg (by omega)]); omega)))
      have hk2 : (a == 2) = false := by simp; omega
      go_enter Try.func94, Try.ntmps94
      go_wp2_with fail
      go_quiet ((first | (go_at_call 62; exact Calls.quiet_of_same ((in_any _ _ _ _).mono fun _ _ h => ⟨h.1, h.2.symm⟩)) | (go_at_call 98; exact Calls.quiet_of_same ((operands_any _ _ (by omega) (by omega)).mono fun _ _ h => ⟨h.1, h.2.symm⟩))))
      go_wp2_with fail
      go_ret
      exact ⟨c + 1, by rw [HF.out]; rfl, ((((((GrB.refl g w).set).alloc _).alloc _).alloc _).drewN _), HB.out, fun h => by rw [HF.out] at h; cases h⟩
    · by_cases e2 : 10 < a
      · have HI := Lib.hid (inR_hi (n := a) (lo := 1) (hi := 10) e2)
        have hi1 : inR a 1 10 = false := HI.out
        have HF := Lib.hid (walkOk_bad (ar := arF) (d := d + 1) (c := c) (k := a) (a := b) (ts := ts) (nodeB_no (by have : arF a = -1 := (by unfold arF; rw [if_neg (by omega), if_neg (by omega), if_neg (by omega)]); omega)))
        have hk2 : (a == 2) = false := by simp; omega
        go_enter Try.func94, Try.ntmps94
        go_wp2_with fail
        go_quiet ((first | (go_at_call 62; exact Calls.quiet_of_same ((in_any _ _ _ _).mono fun _ _ h => ⟨h.1, h.2.symm⟩)) | (go_at_call 98; exact Calls.quiet_of_same ((operands_any _ _ (by omega) (by omega)).mono fun _ _ h => ⟨h.1, h.2.symm⟩))))
        go_wp2_with fail
        go_ret
        exact ⟨c + 1, by rw [HF.out]; rfl, ((((((GrB.refl g w).set).alloc _).alloc _).alloc _).drewN _), HB.out, fun h => by rw [HF.out] at h; cases h⟩
      · have hi1 : inR a 1 10 = true := inR_yes (by omega) (by omega)
        by_cases hk : a = 2
        · have hk2 : (a == 2) = true := by simpa using hk
          have HK := Lib.hid hk
          clear hk
          by_cases e3 : b < 0
          · have hi2 : inR b 0 2 = false := inR_lo e3
            have HF := Lib.hid (walkOk_bad (ar := arF) (d := d + 1) (c := c) (k := a) (a := b) (ts := ts) (nodeB_no (by omega)))
            go_enter Try.func94, Try.ntmps94
            go_wp2_with fail
            go_quiet ((first | (go_at_call 62; exact Calls.quiet_of_same ((in_any _ _ _ _).mono fun _ _ h => ⟨h.1, h.2.symm⟩)) | (go_at_call 98; exact Calls.quiet_of_same ((operands_any _ _ (by omega) (by omega)).mono fun _ _ h => ⟨h.1, h.2.symm⟩))))
            go_wp2_with fail
            go_ret
            exact ⟨c + 1, by rw [HF.out]; rfl, ((((((GrB.refl g w).set).alloc _).alloc _).alloc _).drewN _), HB.out, fun h => by rw [HF.out] at h; cases h⟩
          · by_cases e4 : 2 < b
            · have hi2 : inR b 0 2 = false := inR_hi e4
              have HF := Lib.hid (walkOk_bad (ar := arF) (d := d + 1) (c := c) (k := a) (a := b) (ts := ts) (nodeB_no (by omega)))
              go_enter Try.func94, Try.ntmps94
              go_wp2_with fail
              go_quiet ((first | (go_at_call 62; exact Calls.quiet_of_same ((in_any _ _ _ _).mono fun _ _ h => ⟨h.1, h.2.symm⟩)) | (go_at_call 98; exact Calls.quiet_of_same ((operands_any _ _ (by omega) (by omega)).mono fun _ _ h => ⟨h.1, h.2.symm⟩))))
              go_wp2_with fail
              go_ret
              exact ⟨c + 1, by rw [HF.out]; rfl, ((((((GrB.refl g w).set).alloc _).alloc _).alloc _).drewN _), HB.out, fun h => by rw [HF.out] at h; cases h⟩
            · have hi2 : inR b 0 2 = true := inR_yes (by omega) (by omega)
              by_cases e5 : ((N : Int) = arF a)
              · have hb1 : ((N : Int) != arF a) = false := by simpa using e5
                have HF := Lib.hid (walkOk_node (ar := arF) (d := d) (c := c) (k := a) (a := b) (ts := ts) (nodeB_iff.2 ⟨by have := HH.out.1; omega, by omega, by omega, .inl HK.out⟩))
                clear e5
                go_enter Try.func94, Try.ntmps94
                go_wp2_with fail
                go_quiet ((first | (go_at_call 62; exact Calls.quiet_of_same ((in_any _ _ _ _).mono fun _ _ h => ⟨h.1, h.2.symm⟩)) | (go_at_call 98; exact Calls.quiet_of_same ((operands_any _ _ (by omega) (by omega)).mono fun _ _ h => ⟨h.1, h.2.symm⟩))))
                go_wp2_with fail
                have hsz : (w.setCell ⟨g, 0, none⟩ (.int .i64 (c + 1))).heap.size = w.heap.size := sz_set _ _ _
                have B1 := ((Box.new (w := (w.setCell ⟨g, 0, none⟩ (.int .i64 (c + 1))).alloc (.cells #[.int .i64 a, .int .i64 b, .slice A N cc] 75)) (t := 3) (cs := #[.int .i64 dp]) (k := w.heap.size + 1) (by rw [World.size_alloc, hsz])).alloc (.cells #[.pointer (some ⟨g, 0, none⟩)] 110))
                have B2 := (Box.new (w := ((w.setCell ⟨g, 0, none⟩ (.int .i64 (c + 1))).alloc (.cells #[.int .i64 a, .int .i64 b, .slice A N cc] 75)).alloc (.cells #[.int .i64 dp] 3)) (t := 110) (cs := #[.pointer (some ⟨g, 0, none⟩)]) (k := w.heap.size + 1 + 1) (by rw [World.size_alloc, World.size_alloc, hsz]))
                have GG := ((((GrB.refl g w).set (i := 0) (u := .int .i64 (c + 1))).alloc (.cells #[.int .i64 a, .int .i64 b, .slice A N cc] 75)).alloc (.cells #[.int .i64 dp] 3)).alloc (.cells #[.pointer (some ⟨g, 0, none⟩)] 110)
                obtain ⟨hN, hd, h0, hts, hg, hm⟩ := HH.out
                refine (contFormula_any ih _ w0 A N cc ts dp (c + 1) g (w.heap.size + 1) (w.heap.size + 1 + 1) (GrB.gr h0 (GG.drewN nq) hg) hts hN hm (by omega) (by omega) hg (HB.out.drewN nq) (B1.drewN nq) (B2.drewN nq) hgne1 hgne2).mono ?_
                rintro e w1 ⟨c', rfl, hG, hB, hC⟩
                have HX := Lib.hid (And.intro ((GG.drewN nq).trans hG) (And.intro hB hC))
                clear hG hB hC GG B1 B2 hsz hN hd h0 hts hg hm
                go_wp2_with fail
                go_ret
                exact ⟨c', by rw [HF.out]; simp, HX.out.1, HX.out.2.1, fun h => by rw [HX.out.2.2 (by rw [← HF.out]; exact h)]; simp only [trN]; omega⟩
              · have hb1 : ((N : Int) != arF a) = true := by simpa using e5
                have HF := Lib.hid (walkOk_bad (ar := arF) (d := d + 1) (c := c) (k := a) (a := b) (ts := ts) (nodeB_no (by have := HH.out.1; omega)))
                clear e5
                go_enter Try.func94, Try.ntmps94
                go_wp2_with fail
                go_quiet ((first | (go_at_call 62; exact Calls.quiet_of_same ((in_any _ _ _ _).mono fun _ _ h => ⟨h.1, h.2.symm⟩)) | (go_at_call 98; exact Calls.quiet_of_same ((operands_any _ _ (by omega) (by omega)).mono fun _ _ h => ⟨h.1, h.2.symm⟩))))
                go_wp2_with fail
                go_ret
                exact ⟨c + 1, by rw [HF.out]; rfl, ((((((GrB.refl g w).set).alloc _).alloc _).alloc _).drewN _), HB.out, fun h => by rw [HF.out] at h; cases h⟩
        · have hk2 : (a == 2) = false := by simpa using hk
          have HK := Lib.hid hk
          by_cases e3 : b < 0
          · have hi2 : inR b 0 0 = false := inR_lo e3
            have HF := Lib.hid (walkOk_bad (ar := arF) (d := d + 1) (c := c) (k := a) (a := b) (ts := ts) (nodeB_no (by omega)))
            clear hk
            go_enter Try.func94, Try.ntmps94
            go_wp2_with fail
            go_quiet ((first | (go_at_call 62; exact Calls.quiet_of_same ((in_any _ _ _ _).mono fun _ _ h => ⟨h.1, h.2.symm⟩)) | (go_at_call 98; exact Calls.quiet_of_same ((operands_any _ _ (by omega) (by omega)).mono fun _ _ h => ⟨h.1, h.2.symm⟩))))
            go_wp2_with fail
            go_ret
            exact ⟨c + 1, by rw [HF.out]; rfl, ((((((GrB.refl g w).set).alloc _).alloc _).alloc _).drewN _), HB.out, fun h => by rw [HF.out] at h; cases h⟩
          · by_cases e4 : 0 < b
            · have hi2 : inR b 0 0 = false := inR_hi e4
              have HF := Lib.hid (walkOk_bad (ar := arF) (d := d + 1) (c := c) (k := a) (a := b) (ts := ts) (nodeB_no (by omega)))
              clear hk
              go_enter Try.func94, Try.ntmps94
              go_wp2_with fail
              go_quiet ((first | (go_at_call 62; exact Calls.quiet_of_same ((in_any _ _ _ _).mono fun _ _ h => ⟨h.1, h.2.symm⟩)) | (go_at_call 98; exact Calls.quiet_of_same ((operands_any _ _ (by omega) (by omega)).mono fun _ _ h => ⟨h.1, h.2.symm⟩))))
              go_wp2_with fail
              go_ret
              exact ⟨c + 1, by rw [HF.out]; rfl, ((((((GrB.refl g w).set).alloc _).alloc _).alloc _).drewN _), HB.out, fun h => by rw [HF.out] at h; cases h⟩
            · have hi2 : inR b 0 0 = true := inR_yes (by omega) (by omega)
              by_cases e5 : ((N : Int) = arF a)
              · have hb1 : ((N : Int) != arF a) = false := by simpa using e5
                have HF := Lib.hid (walkOk_node (ar := arF) (d := d) (c := c) (k := a) (a := b) (ts := ts) (nodeB_iff.2 ⟨by have := HH.out.1; omega, by omega, by omega, .inr (by omega)⟩))
                clear e5 hk
                go_enter Try.func94, Try.ntmps94
                go_wp2_with fail
                go_quiet ((first | (go_at_call 62; exact Calls.quiet_of_same ((in_any _ _ _ _).mono fun _ _ h => ⟨h.1, h.2.symm⟩)) | (go_at_call 98; exact Calls.quiet_of_same ((operands_any _ _ (by omega) (by omega)).mono fun _ _ h => ⟨h.1, h.2.symm⟩))))
                go_wp2_with fail
                have hsz : (w.setCell ⟨g, 0, none⟩ (.int .i64 (c + 1))).heap.size = w.heap.size := sz_set _ _ _
                have B1 := ((Box.new (w := (w.setCell ⟨g, 0, none⟩ (.int .i64 (c + 1))).alloc (.cells #[.int .i64 a, .int .i64 b, .slice A N cc] 75)) (t := 3) (cs := #[.int .i64 dp]) (k := w.heap.size + 1) (by rw [World.size_alloc, hsz])).alloc (.cells #[.pointer (some ⟨g, 0, none⟩)] 110))
                have B2 := (Box.new (w := ((w.setCell ⟨g, 0, none⟩ (.int .i64 (c + 1))).alloc (.cells #[.int .i64 a, .int .i64 b, .slice A N cc] 75)).alloc (.cells #[.int .i64 dp] 3)) (t := 110) (cs := #[.pointer (some ⟨g, 0, none⟩)]) (k := w.heap.size + 1 + 1) (by rw [World.size_alloc, World.size_alloc, hsz]))
                have GG := ((((GrB.refl g w).set (i := 0) (u := .int .i64 (c + 1))).alloc (.cells #[.int .i64 a, .int .i64 b, .slice A N cc] 75)).alloc (.cells #[.int .i64 dp] 3)).alloc (.cells #[.pointer (some ⟨g, 0, none⟩)] 110)
                obtain ⟨hN, hd, h0, hts, hg, hm⟩ := HH.out
                refine (contFormula_any ih _ w0 A N cc ts dp (c + 1) g (w.heap.size + 1) (w.heap.size + 1 + 1) (GrB.gr h0 (GG.drewN nq) hg) hts hN hm (by omega) (by omega) hg (HB.out.drewN nq) (B1.drewN nq) (B2.drewN nq) hgne1 hgne2).mono ?_
                rintro e w1 ⟨c', rfl, hG, hB, hC⟩
                have HX := Lib.hid (And.intro ((GG.drewN nq).trans hG) (And.intro hB hC))
                clear hG hB hC GG B1 B2 hsz hN hd h0 hts hg hm
                go_wp2_with fail
                go_ret
                exact ⟨c', by rw [HF.out]; simp, HX.out.1, HX.out.2.1, fun h => by rw [HX.out.2.2 (by rw [← HF.out]; exact h)]; simp only [trN]; omega⟩
              · have hb1 : ((N : Int) != arF a) = true := by simpa using e5
                have HF := Lib.hid (walkOk_bad (ar := arF) (d := d + 1) (c := c) (k := a) (a := b) (ts := ts) (nodeB_no (by have := HH.out.1; omega)))
                clear e5 hk
                go_enter Try.func94, Try.ntmps94
                go_wp2_with fail
                go_quiet ((first | (go_at_call 62; exact Calls.quiet_of_same ((in_any _ _ _ _).mono fun _ _ h => ⟨h.1, h.2.symm⟩)) | (go_at_call 98; exact Calls.quiet_of_same ((operands_any _ _ (by omega) (by omega)).mono fun _ _ h => ⟨h.1, h.2.symm⟩))))
                go_wp2_with fail
                go_ret
                exact ⟨c + 1, by rw [HF.out]; rfl, ((((((GrB.refl g w).set).alloc _).alloc _).alloc _).drewN _), HB.out, fun h => by rw [HF.out] at h; cases h⟩

theorem walkFormula_all : ∀ d, WalkFormula d
  | 0 => walkFormula_zero
  | d + 1 => walkFormula_step (walkFormula_all d)

/-- The nodes of a valid tree, 0 of any other. -/
def nodesOf (ar : Int → Int) (t : Tr) : Int := if validTr ar t then trN t else 0
theorem nodesOf_no {ar : Int → Int} {t : Tr} (h : validTr ar t = false) : nodesOf ar t = 0 := by simp [nodesOf, h]
theorem nodesOf_yes {ar : Int → Int} {t : Tr} (h : validTr ar t = true) : nodesOf ar t = trN t := by simp [nodesOf, h]
set_option maxHeartbeats 1000000 in
theorem FormulaNodes_any (w : World) (v : Value) (t : Tr) (h : TS w 0 v t) :
    Calls Try.prog 83 #[v] w fun e w' => e = .returned (.int .i64 (nodesOf arF t)) ∧ Gr w w' := by
  obtain ⟨ka, kb, kA, kN, kc, rfl⟩ := h.shape
  have G0 := Lib.hid (((Gr.refl w).alloc (.cells #[.int .i64 ka, .int .i64 kb, .slice kA kN kc] 75)).alloc (.cells #[.int .i64 0] 3))
  have B1 := Box.new (w := w.alloc (.cells #[.int .i64 ka, .int .i64 kb, .slice kA kN kc] 75)) (k := w.heap.size + 1) (cs := #[.int .i64 0]) (t := 3) (by simp)
  go_enter Try.func83, Try.ntmps83
  go_wp2_with fail
  refine (walkFormula_all 6 _ w _ t 1 0 (w.heap.size + 1) G0.out h (by omega) (by omega) (by omega) B1).mono ?_
  rintro e w1 ⟨c', rfl, hG, hB, hC⟩
  rw [walkOk_top] at hC ⊢
  have HG := Lib.hid (GrB.gr G0.out hG (by omega))
  cases hv : validTr arF t
  · have HV := Lib.hid hv
    clear hv hG hB hC B1
    go_wp2_with fail
    go_ret
    exact ⟨by rw [nodesOf_no HV.out]; rfl, HG.out⟩
  · have HC := Lib.hid (hC hv)
    have HV := Lib.hid hv
    have c1 := hB.c
    clear hv hG hB hC B1
    go_wp2_with fail
    go_ret
    exact ⟨by rw [nodesOf_yes HV.out, HC.out]; simp, HG.out⟩

set_option maxHeartbeats 1000000 in
theorem implFormulaValid_any (w : World) (v : Value) (t : Tr) (h : TS w 0 v t) :
    Calls Try.prog 54 #[v] w fun e w' => e = .returned (.bool (validTr arF t)) ∧ Gr w w' := by
  obtain ⟨ka, kb, kA, kN, kc, rfl⟩ := h.shape
  have hp := trN_pos t
  have G0 := Lib.hid ((Gr.refl w).alloc (.cells #[.int .i64 ka, .int .i64 kb, .slice kA kN kc] 75))
  have b0 := Box.new (w := w) (k := w.heap.size) (cs := #[.int .i64 ka, .int .i64 kb, .slice kA kN kc]) (t := 75) rfl
  go_enter Try.func54, Try.ntmps54
  go_wp2_with fail
  refine (FormulaNodes_any _ _ t (h.gr G0.out)).mono ?_
  rintro e w1 ⟨rfl, hg⟩
  have HG := Lib.hid (G0.out.trans hg)
  clear hg b0
  cases hv : validTr arF t
  · rw [nodesOf_no hv]
    go_wp2_with fail
    go_ret
    exact ⟨by rw [hv]; rfl, HG.out⟩
  · rw [nodesOf_yes hv]
    go_wp2_with fail
    go_ret
    exact ⟨by rw [hv]; simp; omega, HG.out⟩

end Go.Proofs.Ytnooaggphajllaa
