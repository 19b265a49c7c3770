/-
  Contracts of the functions over trees (Formula). No conditions but that the tree can be read.
-/
import Derived.Test.YtnooaggphajllaaInts
import Derived.Test.YtnooaggphajllaaTree
import Derived.Deep.RegionHeld3
namespace Go.Proofs.Ytnooaggphajllaa
open Go.RowKit Go.Deep

def SzFormula (n : Nat) : Prop := ∀ (w : World) (v : Value) (t : Tr) (left : Int), TS w 0 v t → trN t ≤ n → 0 ≤ left → left ≤ 1048576 →
    Calls Try.prog 42 #[v, .int .i64 left] w fun e w' => e = .returned (.int .i64 (szOf left (trN t - 1))) ∧ Gr w w'
def SzFormulaS (n : Nat) : Prop := ∀ (w : World) (A : Option Addr) (N c : Nat) (ts : List Tr) (left : Int), TL w 0 A 0 ts → N = ts.length → N ≤ maxLen → trNL ts ≤ n → 0 ≤ left → left ≤ 1048576 →
    Calls Try.prog 71 #[.slice A N c, .int .i64 left] w fun e w' => e = .returned (.int .i64 (szOf left (trNL ts))) ∧ Gr w w'

set_option maxHeartbeats 400000 in
theorem szFormula_step {n : Nat} (ih : SzFormulaS n) : SzFormula (n + 1) := by
  intro w v t left h hn hl hl'
  obtain ⟨a, b, ts⟩ := t
  simp only [TS] at h
  obtain ⟨A, c, rfl, hm, hts⟩ := h
  simp only [trN, Nat.add_sub_cancel] at hn ⊢
  have G0 := Lib.hid ((Gr.refl w).alloc (.cells #[.int .i64 a, .int .i64 b, .slice A ts.length c] 70))
  have H := Lib.hid (hts.gr G0.out)
  clear hts
  by_cases h : left - trNL ts < 0
  · have E1 := Lib.hid (szOf_no h)
    go_enter Try.func42, Try.ntmps42
    go_wp2_with fail
    refine (ih _ _ _ _ ts left H.out rfl hm (by omega) hl hl').mono ?_
    rintro e w1 ⟨rfl, hg⟩
    rw [E1.out]
    go_wp2_with fail
    go_ret
    exact ⟨by rw [E1.out]; rfl, G0.out.trans hg⟩
  · have E1 := Lib.hid (szOf_yes (by omega : 0 ≤ left - trNL ts))
    go_enter Try.func42, Try.ntmps42
    go_wp2_with fail
    refine (ih _ _ _ _ ts left H.out rfl hm (by omega) hl hl').mono ?_
    rintro e w1 ⟨rfl, hg⟩
    rw [E1.out]
    go_wp2_with fail
    go_ret
    exact ⟨by rw [E1.out]; rfl, G0.out.trans hg⟩

set_option maxHeartbeats 1000000 in
theorem szFormulaS_step {n : Nat} (ih : SzFormula n) : SzFormulaS n := by
  intro w A N c ts left hts hN hm hn hl hl'
  unfold maxLen at hm
  have HN := Lib.hid hN
  have hlen : N ≤ trNL ts := by rw [hN]; exact len_le_trNL ts
  clear hN
  by_cases h : left - N < 0
  · have E1 := Lib.hid (szOf_no (left := left) (n := trNL ts) (by omega))
    go_enter Try.func71, Try.ntmps71
    go_wp2_with fail
    go_ret
    exact ⟨by rw [E1.out]; rfl, Gr.refl w⟩
  · go_enter Try.func71, Try.ntmps71
    go_wp2_with fail
    go_loopw [1, 5] (fun l i wr => ∃ (k : Nat) (z : Int), k ≤ N ∧ i = .int .i64 k ∧ l = .int .i64 z ∧ 0 ≤ z ∧ Hid (z = left - N - (preN ts k - k : Nat)) ∧ Gr w wr) (fun _ i _ => N - (intOf i).toNat)
    case atStart => exact ⟨0, _, Nat.zero_le _, rfl, rfl, by omega, by show _ = _; rw [preN_zero]; omega, Gr.refl w⟩
    case round =>
      obtain ⟨k, z, hk, rfl, rfl, hz0, hz, hg⟩ := hrel
      have hz1 : z ≤ 1048576 := by have := hz.out; omega
      by_cases hlt : k < N
      · have hkl : k < ts.length := by rw [← HN.out]; exact hlt
        obtain ⟨ad, c0, c1, c2, rfl, _, hc, ht⟩ := hts.at_ k hkl
        rw [Nat.zero_add] at hc
        have q0 := (hc.gr hg).c0
        have q1 := (hc.gr hg).c1
        have q2 := (hc.gr hg).c2
        obtain ⟨x, hx⟩ : ∃ x, x = trN ts[k] - 1 := ⟨_, rfl⟩
        have hx2 : preN ts (k + 1) = preN ts k + (x + 1) := by rw [preN_succ hkl]; have := trN_pos ts[k]; omega
        have hx3 := preN_ge (ts := ts) (k := k) (by omega)
        have hx4 := preN_le (ts := ts) (k := k + 1) (by omega)
        have hx5 := HN.out
        have T1 := Lib.hid (And.intro ht (trN_le hkl))
        have HX := Lib.hid (And.intro hx (And.intro hx2 (And.intro hx3 (And.intro hx4 hx5))))
        clear ht hx hx2 hx3 hx4 hx5 hc
        go_wp2_with fail
        refine (ih _ _ ts[k] z (T1.out.1.gr hg) (by have := T1.out.2; omega) hz0 hz1).mono ?_
        rw [← HX.out.1]
        rintro e w1 ⟨rfl, hg1⟩
        by_cases hx : z - x < 0
        · have HF := Lib.hid (szOf_no (left := left) (n := trNL ts) (by obtain ⟨_, _, _, _, _⟩ := HX.out; have := hz.out; omega))
          rw [szOf_no hx]
          go_wp2_with fail
          go_ret
          exact ⟨by rw [HF.out]; rfl, hg.trans hg1⟩
        · rw [szOf_yes (by omega : 0 ≤ z - x)]
          have HF := Lib.hid (show z - x = left - N - (preN ts (k + 1) - (k + 1) : Nat) by obtain ⟨_, _, _, _, _⟩ := HX.out; have := hz.out; omega)
          have hG := hg.trans hg1
          clear hg hg1
          go_wp2_with fail
          exact ⟨⟨k + 1, _, by omega, by go_num, rfl, by omega, HF.out, hG⟩, by simp [intOf]; omega⟩
      · have HZ := Lib.hid (szOf_yes (left := left) (n := trNL ts) (by have := hz.out; have := HN.out; have := preN_all (ts := ts) (k := k) (by omega); have := preN_ge (ts := ts) (k := k) (by omega); omega))
        have HE := Lib.hid (show z = left - trNL ts by have := hz.out; have := HN.out; have := preN_all (ts := ts) (k := k) (by omega); have := preN_ge (ts := ts) (k := k) (by omega); omega)
        go_wp2_with fail
        go_ret
        exact ⟨by rw [HZ.out, ← HE.out]; rfl, hg⟩

theorem szFormula_all : ∀ n, SzFormula n ∧ SzFormulaS n
  | 0 => ⟨fun w v t left h hn => absurd (trN_pos t) (by omega), szFormulaS_step (fun w v t left h hn => absurd (trN_pos t) (by omega))⟩
  | n + 1 => ⟨szFormula_step (szFormula_all n).2, szFormulaS_step (szFormula_step (szFormula_all n).2)⟩

def ToFormula (n : Nat) : Prop := ∀ (w : World) (v : Value) (t : Tr), TS w 0 v t → trN t ≤ n → trN t ≤ 1048577 → Calls Try.prog 44 #[v] w (NewTr w t)
def ToFormulaS (n : Nat) : Prop := ∀ (w : World) (A : Option Addr) (N c : Nat) (ts : List Tr), TL w 0 A 0 ts → N = ts.length → trNL ts ≤ n → trNL ts ≤ 1048576 →
    Calls Try.prog 72 #[.slice A N c] w (NewTrL w ts)

set_option maxHeartbeats 1000000 in
theorem toFormula_step {n : Nat} (ih : ToFormulaS n) : ToFormula (n + 1) := by
  intro w v t h hn hs
  obtain ⟨a, b, ts⟩ := t
  simp only [TS] at h
  obtain ⟨A, c, rfl, hm, hts⟩ := h
  simp only [trN] at hn hs
  have HT := Lib.hid hts
  clear hts
  go_enter Try.func44, Try.ntmps44
  go_wp2_with fail
  refine (ih _ _ _ _ ts (HT.out.gr ((((Gr.refl w).alloc _).alloc _).alloc _)) rfl (by omega) (by omega)).mono ?_
  rintro e w1 ⟨A', c', rfl, hg, hr⟩
  have g1 : Gr w w1 := Gr.trans ((((Gr.refl w).alloc _).alloc _).alloc _) hg
  have b1 := ((Box.new (w := w.alloc _) (k := w.heap.size + 1) (by simp)).alloc _).gr hg
  have b2 := (Box.new (w := (w.alloc _).alloc _) (k := w.heap.size + 1 + 1) (by simp)).gr hg
  have hr1 : TL w1 (w.heap.size + 1 + 1 + 1) A' 0 ts := hr.low (by simp)
  have c1 := b1.c
  have f1 := b1.f
  have c2 := b2.c
  have f2 := b2.f
  have HG := Lib.hid (And.intro g1 hr1)
  have hz' : w.heap.size + 1 + 1 < w1.heap.size := b2.lt
  clear hg hr hr1 g1 b1 b2
  go_wp2_with fail
  refine bodyPost_ret (v := .agg #[.int .i64 a, .int .i64 b, .slice A' ts.length c']) (by simp [results, Try.results44, go_sem, c1]) rfl
    ⟨a, b, A', ts.length, c', rfl, ?_, ?_⟩
  · exact (((HG.out.1.set (by omega)).set (by omega)).set (by omega)).set (by omega)
  · refine TS.low (lo := w.heap.size + 1 + 1 + 1) (by omega) ?_
    simp only [TS]
    refine ⟨A', c', rfl, hm, HG.out.2.kf ?_⟩
    exact (((KF.set _ (by omega)).trans (KF.set _ (by omega)) (by rw [sz_set]; exact Nat.le_refl _)).trans (KF.set _ (by omega)) (by rw [sz_set, sz_set]; exact Nat.le_refl _)).trans (KF.set _ (by omega)) (by rw [sz_set, sz_set, sz_set]; exact Nat.le_refl _)

theorem infoFormula : (Try.prog.info? 75).map (fun i => (i.zero, i.size, i.bytes)) = some (some (.agg #[.int .i64 0, .int .i64 0, .slice none 0 0]), 3, 40) := by kernel_rfl

set_option maxHeartbeats 1000000 in
theorem toFormulaS_step {n : Nat} (ih : ToFormula n) : ToFormulaS n := by
  intro w A N c ts hts hN hn hs
  subst hN
  have hlen := len_le_trNL ts
  have hmk := run_make_n (P := Try.prog) 73 75 _ 3 40 Try.underlying73 infoFormula ts.length (by omega) (by omega)
  go_enter Try.func72, Try.ntmps72
  go_wp2_with fail
  clear hmk
  go_loopw [4] (fun i wr => ∃ k : Nat, k ≤ ts.length ∧ i = .int .i64 k ∧ FillT 75 w wr ts k) (fun i _ => ts.length - (intOf i).toNat)
  case atStart => exact ⟨0, Nat.zero_le _, rfl, FillT.zero _ _ _ _ (size_madeCells _ _)⟩
  case round =>
    obtain ⟨k, hk, rfl, hf⟩ := hrel
    by_cases hlt : k < ts.length
    · obtain ⟨ad, c0, c1, c2, rfl, _, hc, ht⟩ := hts.at_ k hlt
      rw [Nat.zero_add] at hc
      have q0 := (hc.gr hf.1).c0
      have q1 := (hc.gr hf.1).c1
      have q2 := (hc.gr hf.1).c2
      have HT := Lib.hid (And.intro ht (trN_le hlt))
      clear ht hc
      go_wp2_with fail
      refine (ih _ _ ts[k] (HT.out.1.gr hf.1) (by have := HT.out.2; omega) (by have := HT.out.2; omega)).mono ?_
      rintro e w1 ⟨x, y, A', N', c', rfl, hg, hr⟩
      obtain ⟨C, hC, hb⟩ : ∃ C : Array Value, C.size = ts.length * 3 ∧ Box wr w.heap.size 75 C := by obtain ⟨_, C, h1, h2, _⟩ := hf; exact ⟨C, h1, h2⟩
      have hb1 := hb.gr hg
      obtain ⟨d0, e0⟩ : ∃ d, w1.cell? ⟨w.heap.size, k * 3, none⟩ = some d := by rw [hb1.c]; exact ⟨_, Array.getElem?_eq_getElem (by omega)⟩
      obtain ⟨d1, e1⟩ : ∃ d, w1.cell? ⟨w.heap.size, k * 3 + 1, none⟩ = some d := by rw [hb1.c]; exact ⟨_, Array.getElem?_eq_getElem (by omega)⟩
      obtain ⟨d2, e2⟩ : ∃ d, w1.cell? ⟨w.heap.size, k * 3 + 2, none⟩ = some d := by rw [hb1.c]; exact ⟨_, Array.getElem?_eq_getElem (by omega)⟩
      have ff := hb1.f
      have HF := Lib.hid (hf.succ hlt hg hr)
      clear hf hg hr hb hb1 q0 q1 q2 hC
      go_wp2_with fail
      exact ⟨⟨k + 1, by omega, by go_num, HF.out⟩, by simp [intOf]; omega⟩
    · have HF := Lib.hid (hf.done (by omega))
      go_wp2_with fail
      go_ret
      exact HF.out

theorem toFormula_all : ∀ n, ToFormula n ∧ ToFormulaS n
  | 0 => ⟨fun w v t h hn => absurd (trN_pos t) (by omega), toFormulaS_step (fun w v t h hn => absurd (trN_pos t) (by omega))⟩
  | n + 1 => ⟨toFormula_step (toFormula_all n).2, toFormulaS_step (toFormula_step (toFormula_all n).2)⟩

def EqFormula (n : Nat) : Prop := ∀ (w : World) (v v' : Value) (t t' : Tr), TS w 0 v t → TS w 0 v' t' → trN t ≤ n →
    Calls Try.prog 46 #[v, v'] w fun e w' => e = .returned (.bool (trEq t t')) ∧ Gr w w'
def EqFormulaS (n : Nat) : Prop := ∀ (w : World) (A A' : Option Addr) (N N' c c' : Nat) (ts ts' : List Tr), TL w 0 A 0 ts → TL w 0 A' 0 ts' → N = ts.length → N' = ts'.length → N ≤ maxLen → trNL ts ≤ n →
    Calls Try.prog 74 #[.slice A N c, .slice A' N' c'] w fun e w' => e = .returned (.bool (trEqL ts ts')) ∧ Gr w w'

set_option maxHeartbeats 1000000 in
theorem eqFormula_step {n : Nat} (ih : EqFormulaS n) : EqFormula (n + 1) := by
  intro w v v' t t' h h' hn
  obtain ⟨a, b, ts⟩ := t
  obtain ⟨a', b', ts'⟩ := t'
  simp only [TS] at h h'
  obtain ⟨A, c, rfl, hm, hts⟩ := h
  obtain ⟨A', c', rfl, hm', hts'⟩ := h'
  simp only [trN] at hn
  have G0 := Lib.hid (((Gr.refl w).alloc (.cells #[.int .i64 a, .int .i64 b, .slice A ts.length c] 75)).alloc (.cells #[.int .i64 a', .int .i64 b', .slice A' ts'.length c'] 75))
  have HT := Lib.hid (And.intro (hts.gr G0.out) (hts'.gr G0.out))
  clear hts hts'
  by_cases h1 : a = a'
  · subst h1
    by_cases h2 : b = b'
    · subst h2
      have E : trEq (.node a b ts) (.node a b ts') = trEqL ts ts' := by simp [trEq]
      rw [E]
      clear E
      go_enter Try.func46, Try.ntmps46
      go_wp2_with fail
      refine (ih _ _ _ _ _ _ _ ts ts' HT.out.1 HT.out.2 rfl rfl hm (by omega)).mono ?_
      rintro e w1 ⟨rfl, hg⟩
      cases hb : trEqL ts ts'
      · go_wp2_with fail
        go_ret
        exact ⟨by rw [hb]; rfl, G0.out.trans hg⟩
      · go_wp2_with fail
        go_ret
        exact ⟨by rw [hb]; rfl, G0.out.trans hg⟩
    · have E : trEq (.node a b ts) (.node a b' ts') = false := by simp [trEq, h2]
      rw [E]
      clear E
      have hb : (b != b') = true := by simpa using h2
      clear h2
      go_enter Try.func46, Try.ntmps46
      go_wp2_with fail
      go_ret
      exact ⟨rfl, G0.out⟩
  · have E : trEq (.node a b ts) (.node a' b' ts') = false := by simp [trEq, h1]
    rw [E]
    clear E
    have hb : (a != a') = true := by simpa using h1
    clear h1
    go_enter Try.func46, Try.ntmps46
    go_wp2_with fail
    go_ret
    exact ⟨rfl, G0.out⟩

set_option maxHeartbeats 1000000 in
theorem eqFormulaS_step {n : Nat} (ih : EqFormula n) : EqFormulaS n := by
  intro w A A' N N' c c' ts ts' hts hts' hN hN' hm hn
  unfold maxLen at hm
  by_cases hl : N = N'
  · subst hl
    have HN := Lib.hid (And.intro hN (hN.symm.trans hN'))
    clear hN hN'
    go_enter Try.func74, Try.ntmps74
    go_wp2_with fail
    go_loopw [5] (fun i wr => ∃ k : Nat, k ≤ N ∧ i = .int .i64 k ∧ AgreeT k ts ts' ∧ Gr w wr) (fun i _ => N - (intOf i).toNat)
    case atStart => exact ⟨0, Nat.zero_le _, rfl, AgreeT.zero _ _, Gr.refl w⟩
    case round =>
      obtain ⟨k, hk, rfl, ha, hg⟩ := hrel
      by_cases hlt : k < N
      · have hkl : k < ts.length := by have := HN.out.1; omega
        have hkl' : k < ts'.length := by have := HN.out.2; omega
        obtain ⟨ad, c0, c1, c2, rfl, _, hc, ht⟩ := hts.at_ k hkl
        obtain ⟨ad', d0, d1, d2, rfl, _, hd, ht'⟩ := hts'.at_ k hkl'
        rw [Nat.zero_add] at hc hd
        have HK := Lib.hid (fun w' (g : Gr wr w') => And.intro g (And.intro ((hc.gr hg).gr g).c0 (And.intro ((hc.gr hg).gr g).c1 (And.intro ((hc.gr hg).gr g).c2 (And.intro ((hd.gr hg).gr g).c0 (And.intro ((hd.gr hg).gr g).c1 ((hd.gr hg).gr g).c2))))))
        have HT := Lib.hid (And.intro (ht.gr hg) (And.intro (ht'.gr hg) (trN_le hkl)))
        clear ht ht' hc hd
        cases he : trEq ts[k] ts'[k]
        · have HE := Lib.hid he
          have HF := Lib.hid (trEqL_ne HN.out.2 hkl he)
          clear he
          go_wp2_with fail
          go_region_held3 (fun w' => Gr wr w' ∧ w'.cell? (ad.add (k * 3)) = some c0 ∧ w'.cell? ⟨(ad.add (k * 3)).block, (ad.add (k * 3)).off + 1, none⟩ = some c1 ∧ w'.cell? ⟨(ad.add (k * 3)).block, (ad.add (k * 3)).off + 2, none⟩ = some c2 ∧ w'.cell? (ad'.add (k * 3)) = some d0 ∧ w'.cell? ⟨(ad'.add (k * 3)).block, (ad'.add (k * 3)).off + 1, none⟩ = some d1 ∧ w'.cell? ⟨(ad'.add (k * 3)).block, (ad'.add (k * 3)).off + 2, none⟩ = some d2)
            (first | exact HK.out _ (Gr.refl _).drew | exact HK.out _ (Gr.trans (And.left ‹_›) hge))
            (first | (go_at_call 46; refine (ih _ _ _ ts[k] ts'[k] (HT.out.1.gr (And.left ‹Gr wr _ ∧ _›)) (HT.out.2.1.gr (And.left ‹Gr wr _ ∧ _›)) (by have := HT.out.2.2; omega)).mono ?_; rw [HE.out]; rintro e w1 ⟨rfl, hge⟩))
          have hG := hg.trans (And.left ‹Gr wr _ ∧ _›)
          go_wp2_with fail
          go_ret
          exact ⟨by rw [HF.out]; rfl, hG⟩
        · have HE := Lib.hid he
          have HF := Lib.hid (ha.succ HN.out.2 hkl he)
          clear he ha
          go_wp2_with fail
          go_region_held3 (fun w' => Gr wr w' ∧ w'.cell? (ad.add (k * 3)) = some c0 ∧ w'.cell? ⟨(ad.add (k * 3)).block, (ad.add (k * 3)).off + 1, none⟩ = some c1 ∧ w'.cell? ⟨(ad.add (k * 3)).block, (ad.add (k * 3)).off + 2, none⟩ = some c2 ∧ w'.cell? (ad'.add (k * 3)) = some d0 ∧ w'.cell? ⟨(ad'.add (k * 3)).block, (ad'.add (k * 3)).off + 1, none⟩ = some d1 ∧ w'.cell? ⟨(ad'.add (k * 3)).block, (ad'.add (k * 3)).off + 2, none⟩ = some d2)
            (first | exact HK.out _ (Gr.refl _).drew | exact HK.out _ (Gr.trans (And.left ‹_›) hge))
            (first | (go_at_call 46; refine (ih _ _ _ ts[k] ts'[k] (HT.out.1.gr (And.left ‹Gr wr _ ∧ _›)) (HT.out.2.1.gr (And.left ‹Gr wr _ ∧ _›)) (by have := HT.out.2.2; omega)).mono ?_; rw [HE.out]; rintro e w1 ⟨rfl, hge⟩))
          have hG := hg.trans (And.left ‹Gr wr _ ∧ _›)
          clear HK HT HE hg
          clear hge
          go_wp2_with fail
          exact ⟨⟨k + 1, by omega, by go_num, HF.out, hG⟩, by simp [intOf]; omega⟩
      · have HF := Lib.hid (ha.all HN.out.2 (by have := HN.out.1; omega))
        go_wp2_with fail
        go_ret
        exact ⟨by rw [HF.out]; rfl, hg⟩
  · have HF := Lib.hid (trEqL_len (ts := ts) (ts' := ts') (by omega))
    clear hN hN'
    go_enter Try.func74, Try.ntmps74
    go_wp2_with fail
    go_ret
    exact ⟨by rw [HF.out]; rfl, Gr.refl w⟩

theorem eqFormula_all : ∀ n, EqFormula n ∧ EqFormulaS n
  | 0 => ⟨fun w v v' t t' h h' hn => absurd (trN_pos t) (by omega), eqFormulaS_step (fun w v v' t t' h h' hn => absurd (trN_pos t) (by omega))⟩
  | n + 1 => ⟨eqFormula_step (eqFormula_all n).2, eqFormulaS_step (eqFormula_step (eqFormula_all n).2)⟩

/-! ### The reference's and the program's Same -/
def SpecFormula (n : Nat) : Prop := ∀ (w : World) (v v' : Value) (t t' : Tr), TS w 0 v t → TS w 0 v' t' → trN t ≤ n →
    Calls Try.prog 43 #[v, v'] w fun e w' => e = .returned (.bool (trEq t t')) ∧ Gr w w'

set_option maxHeartbeats 1000000 in
theorem specFormula_step {n : Nat} (ih : SpecFormula n) : SpecFormula (n + 1) := by
  intro w v v' t t' h h' hn
  obtain ⟨a, b, ts⟩ := t
  obtain ⟨a', b', ts'⟩ := t'
  simp only [TS] at h h'
  obtain ⟨A, c, rfl, hm, hts⟩ := h
  obtain ⟨A', c', rfl, hm', hts'⟩ := h'
  simp only [trN] at hn
  unfold maxLen at hm hm'
  have G0 := Lib.hid (((Gr.refl w).alloc (.cells #[.int .i64 a, .int .i64 b, .slice A ts.length c] 75)).alloc (.cells #[.int .i64 a', .int .i64 b', .slice A' ts'.length c'] 75))
  by_cases h1 : a = a'
  · subst h1
    by_cases h2 : b = b'
    · subst h2
      have E : trEq (.node a b ts) (.node a b ts') = trEqL ts ts' := by simp [trEq]
      rw [E]
      clear E
      by_cases hl : ts.length = ts'.length
      · obtain ⟨N, hN⟩ : ∃ N, N = ts.length := ⟨_, rfl⟩
        rw [← hl, ← hN]
        rw [← hN] at hm
        have HN := Lib.hid (And.intro hN hl)
        clear hN hl hm'
        have b0 := ((Box.new (w := w) (t := 75) (cs := #[.int .i64 a, .int .i64 b, .slice A N c]) rfl).alloc (.cells #[.int .i64 a, .int .i64 b, .slice A' N c'] 75))
        have b1 := (Box.new (w := w.alloc (.cells #[.int .i64 a, .int .i64 b, .slice A N c] 75)) (t := 75) (cs := #[.int .i64 a, .int .i64 b, .slice A' N c']) (k := w.heap.size + 1) (by simp))
        have GG := Lib.hid (((Gr.refl w).alloc (.cells #[.int .i64 a, .int .i64 b, .slice A N c] 75)).alloc (.cells #[.int .i64 a, .int .i64 b, .slice A' N c'] 75))
        obtain ⟨W, hW⟩ : ∃ W, W = ((w.alloc (.cells #[.int .i64 a, .int .i64 b, .slice A N c] 75)).alloc (.cells #[.int .i64 a, .int .i64 b, .slice A' N c'] 75)) := ⟨_, rfl⟩
        rw [← hW] at b0 b1 GG
        have HT := Lib.hid (And.intro (hts.gr GG.out) (hts'.gr GG.out))
        clear G0 hts hts'
        have HW := Lib.hid hW
        clear hW
        go_enter Try.func43, Try.ntmps43
        go_wp2_with fail
        go_loopw [5] (fun i wr => ∃ k : Nat, k ≤ N ∧ i = .int .i64 k ∧ AgreeT k ts ts' ∧ Gr W wr) (fun i _ => N - (intOf i).toNat)
        case atStart => exact ⟨0, Nat.zero_le _, rfl, AgreeT.zero _ _, by rw [HW.out]; exact Gr.refl _⟩
        case round =>
          obtain ⟨k, hk, rfl, ha, hg⟩ := hrel
          have c0 := (b0.gr hg).c
          have c1 := (b1.gr hg).c
          by_cases hlt : k < N
          · have hkl : k < ts.length := by have := HN.out.1; omega
            have hkl' : k < ts'.length := by have := HN.out.2; omega
            obtain ⟨ad, x0, x1, x2, rfl, _, hc, ht⟩ := HT.out.1.at_ k hkl
            obtain ⟨ad', y0, y1, y2, rfl, _, hd, ht'⟩ := HT.out.2.at_ k hkl'
            rw [Nat.zero_add] at hc hd
            have HK := Lib.hid (fun w' (g : Gr wr w') => And.intro g (And.intro ((b0.gr hg).gr g).c (And.intro ((b1.gr hg).gr g).c (And.intro ((hc.gr hg).gr g).c0 (And.intro ((hc.gr hg).gr g).c1 (And.intro ((hc.gr hg).gr g).c2 (And.intro ((hd.gr hg).gr g).c0 (And.intro ((hd.gr hg).gr g).c1 ((hd.gr hg).gr g).c2))))))))
            have HU := Lib.hid (And.intro (ht.gr hg) (And.intro (ht'.gr hg) (trN_le hkl)))
            clear ht ht' hc hd HT
            cases he : trEq ts[k] ts'[k]
            · have HE := Lib.hid he
              have HF := Lib.hid (trEqL_ne HN.out.2 hkl he)
              clear he
              go_wp2_with fail
              go_region_held3 (fun w' => Gr wr w' ∧ (∀ i, w'.cell? ⟨w.heap.size, i, none⟩ = (#[.int .i64 a, .int .i64 b, .slice (some ad) N c] : Array Value)[i]?) ∧ (∀ i, w'.cell? ⟨w.heap.size + 1, i, none⟩ = (#[.int .i64 a, .int .i64 b, .slice (some ad') N c'] : Array Value)[i]?) ∧ w'.cell? (ad.add (k * 3)) = some x0 ∧ w'.cell? ⟨(ad.add (k * 3)).block, (ad.add (k * 3)).off + 1, none⟩ = some x1 ∧ w'.cell? ⟨(ad.add (k * 3)).block, (ad.add (k * 3)).off + 2, none⟩ = some x2 ∧ w'.cell? (ad'.add (k * 3)) = some y0 ∧ w'.cell? ⟨(ad'.add (k * 3)).block, (ad'.add (k * 3)).off + 1, none⟩ = some y1 ∧ w'.cell? ⟨(ad'.add (k * 3)).block, (ad'.add (k * 3)).off + 2, none⟩ = some y2)
                (first | exact HK.out _ (Gr.refl _).drew | exact HK.out _ (Gr.trans (And.left ‹_›) hge))
                (first | (go_at_call 43; refine (ih _ _ _ ts[k] ts'[k] (HU.out.1.gr (And.left ‹Gr wr _ ∧ _›)) (HU.out.2.1.gr (And.left ‹Gr wr _ ∧ _›)) (by have := HU.out.2.2; omega)).mono ?_; rw [HE.out]; rintro e w1 ⟨rfl, hge⟩))
              have hG := hg.trans (And.left ‹Gr wr _ ∧ _›)
              go_wp2_with fail
              go_ret
              exact ⟨by rw [HF.out]; rfl, GG.out.trans hG⟩
            · have HE := Lib.hid he
              have HF := Lib.hid (ha.succ HN.out.2 hkl he)
              clear he ha
              go_wp2_with fail
              go_region_held3 (fun w' => Gr wr w' ∧ (∀ i, w'.cell? ⟨w.heap.size, i, none⟩ = (#[.int .i64 a, .int .i64 b, .slice (some ad) N c] : Array Value)[i]?) ∧ (∀ i, w'.cell? ⟨w.heap.size + 1, i, none⟩ = (#[.int .i64 a, .int .i64 b, .slice (some ad') N c'] : Array Value)[i]?) ∧ w'.cell? (ad.add (k * 3)) = some x0 ∧ w'.cell? ⟨(ad.add (k * 3)).block, (ad.add (k * 3)).off + 1, none⟩ = some x1 ∧ w'.cell? ⟨(ad.add (k * 3)).block, (ad.add (k * 3)).off + 2, none⟩ = some x2 ∧ w'.cell? (ad'.add (k * 3)) = some y0 ∧ w'.cell? ⟨(ad'.add (k * 3)).block, (ad'.add (k * 3)).off + 1, none⟩ = some y1 ∧ w'.cell? ⟨(ad'.add (k * 3)).block, (ad'.add (k * 3)).off + 2, none⟩ = some y2)
                (first | exact HK.out _ (Gr.refl _).drew | exact HK.out _ (Gr.trans (And.left ‹_›) hge))
                (first | (go_at_call 43; refine (ih _ _ _ ts[k] ts'[k] (HU.out.1.gr (And.left ‹Gr wr _ ∧ _›)) (HU.out.2.1.gr (And.left ‹Gr wr _ ∧ _›)) (by have := HU.out.2.2; omega)).mono ?_; rw [HE.out]; rintro e w1 ⟨rfl, hge⟩))
              have hG := hg.trans (And.left ‹Gr wr _ ∧ _›)
              clear HK HU HE hg hge
              go_wp2_with fail
              exact ⟨⟨k + 1, by omega, by go_num, HF.out, hG⟩, by simp [intOf]; omega⟩
          · have HF := Lib.hid (ha.all HN.out.2 (by have := HN.out.1; omega))
            go_wp2_with fail
            go_ret
            exact ⟨by rw [HF.out]; rfl, GG.out.trans hg⟩
      · have HF := Lib.hid (trEqL_len hl)
        have hb : ((ts.length : Int) != (ts'.length : Int)) = true := by simp; omega
        go_enter Try.func43, Try.ntmps43
        go_wp2_with fail
        go_ret
        exact ⟨by rw [HF.out]; rfl, G0.out⟩
    · have E : trEq (.node a b ts) (.node a b' ts') = false := by simp [trEq, h2]
      rw [E]
      clear E
      have hb : (b != b') = true := by simpa using h2
      clear h2
      go_enter Try.func43, Try.ntmps43
      go_wp2_with fail
      go_ret
      exact ⟨rfl, G0.out⟩
  · have E : trEq (.node a b ts) (.node a' b' ts') = false := by simp [trEq, h1]
    rw [E]
    clear E
    have hb : (a != a') = true := by simpa using h1
    clear h1
    go_enter Try.func43, Try.ntmps43
    go_wp2_with fail
    go_ret
    exact ⟨rfl, G0.out⟩

theorem specFormula_all : ∀ n, SpecFormula n
  | 0 => fun w v v' t t' h h' hn => absurd (trN_pos t) (by omega)
  | n + 1 => specFormula_step (specFormula_all n)

def ImplFormula (n : Nat) : Prop := ∀ (w : World) (v v' : Value) (t t' : Tr), TS w 0 v t → TS w 0 v' t' → trN t ≤ n →
    Calls Try.prog 45 #[v, v'] w fun e w' => e = .returned (.bool (trEq t t')) ∧ Gr w w'
def ImplFormulaS (n : Nat) : Prop := ∀ (w : World) (A A' : Option Addr) (N N' c c' : Nat) (ts ts' : List Tr), TL w 0 A 0 ts → TL w 0 A' 0 ts' → N = ts.length → N' = ts'.length → N ≤ maxLen → trNL ts ≤ n →
    Calls Try.prog 73 #[.slice A N c, .slice A' N' c', .func (.func 45) #[] #[]] w fun e w' => e = .returned (.bool (trEqL ts ts')) ∧ Gr w w'

set_option maxHeartbeats 1000000 in
theorem implFormula_step {n : Nat} (ih : ImplFormulaS n) : ImplFormula (n + 1) := by
  intro w v v' t t' h h' hn
  obtain ⟨a, b, ts⟩ := t
  obtain ⟨a', b', ts'⟩ := t'
  simp only [TS] at h h'
  obtain ⟨A, c, rfl, hm, hts⟩ := h
  obtain ⟨A', c', rfl, hm', hts'⟩ := h'
  simp only [trN] at hn
  have G0 := Lib.hid (((Gr.refl w).alloc (.cells #[.int .i64 a, .int .i64 b, .slice A ts.length c] 75)).alloc (.cells #[.int .i64 a', .int .i64 b', .slice A' ts'.length c'] 75))
  have HT := Lib.hid (And.intro (hts.gr G0.out) (hts'.gr G0.out))
  clear hts hts'
  by_cases h1 : a = a'
  · subst h1
    by_cases h2 : b = b'
    · subst h2
      have E : trEq (.node a b ts) (.node a b ts') = trEqL ts ts' := by simp [trEq]
      rw [E]
      clear E
      go_enter Try.func45, Try.ntmps45
      go_wp2_with fail
      refine (ih _ _ _ _ _ _ _ ts ts' HT.out.1 HT.out.2 rfl rfl hm (by omega)).mono ?_
      rintro e w1 ⟨rfl, hg⟩
      go_wp2_with fail
      go_ret
      exact ⟨rfl, G0.out.trans hg⟩
    · have E : trEq (.node a b ts) (.node a b' ts') = false := by simp [trEq, h2]
      rw [E]
      clear E
      have hb : (b == b') = false := by simpa using h2
      clear h2
      go_enter Try.func45, Try.ntmps45
      go_wp2_with fail
      go_ret
      exact ⟨rfl, G0.out⟩
  · have E : trEq (.node a b ts) (.node a' b' ts') = false := by simp [trEq, h1]
    rw [E]
    clear E
    have hb : (a == a') = false := by simpa using h1
    clear h1
    go_enter Try.func45, Try.ntmps45
    go_wp2_with fail
    go_ret
    exact ⟨rfl, G0.out⟩

set_option maxHeartbeats 1000000 in
theorem implFormulaS_step {n : Nat} (ih : ImplFormula n) : ImplFormulaS n := by
  intro w A A' N N' c c' ts ts' hts hts' hN hN' hm hn
  unfold maxLen at hm
  by_cases hl : N = N'
  · subst hl
    have HN := Lib.hid (And.intro hN (hN.symm.trans hN'))
    clear hN hN'
    go_enter Try.func73, Try.ntmps73
    go_wp2_with fail
    go_loopw [7, 8, 9, 17] (fun _ _ _ i wr => ∃ k : Nat, k ≤ N ∧ i = .int .i64 k ∧ AgreeT k ts ts' ∧ Gr w wr) (fun _ _ _ i _ => N - (intOf i).toNat)
    case atStart => exact ⟨0, Nat.zero_le _, rfl, AgreeT.zero _ _, Gr.refl w⟩
    case round =>
      obtain ⟨k, hk, rfl, ha, hg⟩ := hrel
      by_cases hlt : k < N
      · have hkl : k < ts.length := by have := HN.out.1; omega
        have hkl' : k < ts'.length := by have := HN.out.2; omega
        obtain ⟨ad, x0, x1, x2, rfl, _, hc, ht⟩ := hts.at_ k hkl
        obtain ⟨ad', y0, y1, y2, rfl, _, hd, ht'⟩ := hts'.at_ k hkl'
        rw [Nat.zero_add] at hc hd
        obtain ⟨_, _, _, _, _, rfl, rfl, rfl⟩ := ht.form
        obtain ⟨_, _, _, _, _, rfl, rfl, rfl⟩ := ht'.form
        have q0 := (hc.gr hg).c0
        have q1 := (hc.gr hg).c1
        have q2 := (hc.gr hg).c2
        have q3 := (hd.gr hg).c0
        have q4 := (hd.gr hg).c1
        have q5 := (hd.gr hg).c2
        have HU := Lib.hid (And.intro (ht.gr hg) (And.intro (ht'.gr hg) (trN_le hkl)))
        have lc := lt_of_cell q3
        have lc1 := lt_of_cell q4
        have lc2 := lt_of_cell q5
        clear ht ht' hc hd
        go_wp2_with fail
        refine (ih _ _ _ ts[k] ts'[k] (HU.out.1.gr (((Gr.refl _).alloc _).alloc _)) (HU.out.2.1.gr (((Gr.refl _).alloc _).alloc _)) (by have := HU.out.2.2; omega)).mono ?_
        rintro e w1 ⟨rfl, hge⟩
        have hG := hg.trans (((((Gr.refl _).alloc _).alloc _)).trans hge)
        clear q0 q1 q2 q3 q4 q5 hge lc lc1 lc2 hg
        cases he : trEq ts[k] ts'[k]
        · have HF := Lib.hid (trEqL_ne HN.out.2 hkl he)
          clear he
          go_wp2_with fail
          go_ret
          exact ⟨by rw [HF.out]; rfl, hG⟩
        · have HF := Lib.hid (ha.succ HN.out.2 hkl he)
          clear he ha HU
          go_wp2_with fail
          exact ⟨⟨k + 1, by omega, by go_num, HF.out, hG⟩, by simp [intOf]; omega⟩
      · have HF := Lib.hid (ha.all HN.out.2 (by have := HN.out.1; omega))
        go_wp2_with fail
        go_ret
        exact ⟨by rw [HF.out]; rfl, hg⟩
  · have HF := Lib.hid (trEqL_len (ts := ts) (ts' := ts') (by omega))
    clear hN hN'
    go_enter Try.func73, Try.ntmps73
    go_wp2_with fail
    go_ret
    exact ⟨by rw [HF.out]; rfl, Gr.refl w⟩

theorem implFormula_all : ∀ n, ImplFormula n ∧ ImplFormulaS n
  | 0 => ⟨fun w v v' t t' h h' hn => absurd (trN_pos t) (by omega), implFormulaS_step (fun w v v' t t' h h' hn => absurd (trN_pos t) (by omega))⟩
  | n + 1 => ⟨implFormula_step (implFormula_all n).2, implFormulaS_step (implFormula_step (implFormula_all n).2)⟩

end Go.Proofs.Ytnooaggphajllaa
