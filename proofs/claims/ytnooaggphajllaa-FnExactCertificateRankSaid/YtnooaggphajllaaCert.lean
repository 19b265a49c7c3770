/-
  Contracts of the functions over certificates. No conditions but that the slices can be read.
-/
import Derived.Test.YtnooaggphajllaaInts
namespace Go.Proofs.Ytnooaggphajllaa
open Go.RowKit Go.Deep

set_option maxHeartbeats 400000 in
theorem szCertificate_any (w : World) (v : Value) (l : List Int) (left : Int) (h : OS w v l) (hl : 0 ≤ left) (hl' : left ≤ 1048576) (hm : l.length ≤ maxLen) :
    Calls Try.prog 15 #[v, .int .i64 left] w fun e w' => e = .returned (.int .i64 (szOf left l.length)) ∧ Gr w w' := by
  obtain ⟨s1, rfl, h1⟩ := h
  have G0 := Lib.hid ((Gr.refl w).alloc (.cells #[s1] 25))
  by_cases h : left - l.length < 0
  · have E1 := Lib.hid (szOf_no h)
    go_enter Try.func15, Try.ntmps15
    go_wp2_with fail
    refine (szIntS_any _ _ _ left (h1.gr G0.out) hl hl' hm).mono ?_
    rintro e w1 ⟨rfl, rfl⟩
    rw [E1.out]
    go_wp2_with fail
    go_ret
    exact ⟨by rw [E1.out]; rfl, G0.out⟩
  · have E1 := Lib.hid (szOf_yes (by omega : 0 ≤ left - l.length))
    go_enter Try.func15, Try.ntmps15
    go_wp2_with fail
    refine (szIntS_any _ _ _ left (h1.gr G0.out) hl hl' hm).mono ?_
    rintro e w1 ⟨rfl, rfl⟩
    rw [E1.out]
    go_wp2_with fail
    go_ret
    exact ⟨by rw [E1.out]; rfl, G0.out⟩

set_option maxHeartbeats 400000 in
theorem toCertificate_any (w : World) (v : Value) (l : List Int) (h : OS w v l) (hm : l.length ≤ 1048576) :
    Calls Try.prog 17 #[v] w (NewOne 3 w l) := by
  obtain ⟨s1, rfl, h1⟩ := h
  go_enter Try.func17, Try.ntmps17
  go_wp2_with fail
  refine (toIntS_any _ _ l (h1.gr (((Gr.refl w).alloc _).alloc _ |>.alloc _)) hm).mono ?_
  rintro e w1 ⟨rfl, hg, hs, hr⟩
  have hz : w1.heap.size = w.heap.size + 4 := by simp [hs]
  have g1 : Gr w w1 := Gr.trans ((((Gr.refl w).alloc _).alloc _).alloc _) hg
  have b1 := ((Box.new (w := w.alloc _) (k := w.heap.size + 1) (by simp)).alloc _).gr hg
  have b2 := (Box.new (w := (w.alloc _).alloc _) (k := w.heap.size + 1 + 1) (by simp)).gr hg
  simp only [World.size_alloc] at hr
  have c1 := b1.c
  have f1 := b1.f
  have c2 := b2.c
  have f2 := b2.f
  have HG := Lib.hid (And.intro g1 hr)
  clear hg hs hr g1
  have hz' : w.heap.size + 1 + 1 + 1 < w1.heap.size := by omega
  have HZ := Lib.hid hz
  clear hz
  go_wp2_with fail
  refine bodyPost_ret (v := .agg #[.slice (some ⟨w.heap.size + 1 + 1 + 1, 0, none⟩) l.length l.length]) (by simp [results, Try.results17, go_sem, c1]) rfl
    ⟨w.heap.size + 1 + 1 + 1, by omega, by rw [sz_set, sz_set]; omega, rfl, ?_, ?_⟩
  · exact (HG.out.1.set (by omega)).set (by omega)
  · exact row_off (row_off HG.out.2 (by omega)) (by omega)

set_option maxHeartbeats 400000 in
theorem eqCertificate_any (w : World) (v v' : Value) (l l' : List Int) (h : OS w v l) (h' : OS w v' l') (hm : l.length ≤ 1048576) :
    Calls Try.prog 19 #[v, v'] w fun e w' => e = .returned (.bool (eqB l l')) ∧ Gr w w' := by
  obtain ⟨s1, rfl, h1⟩ := h
  obtain ⟨s1', rfl, h1'⟩ := h'
  have G0 := Lib.hid (((Gr.refl w).alloc (.cells #[s1] 28)).alloc (.cells #[s1'] 28))
  by_cases h : l = l'
  · subst h
    rw [eqB_self]
    go_enter Try.func19, Try.ntmps19
    go_wp2_with fail
    refine (eqIntS_any _ _ _ _ _ (h1.gr G0.out) (h1'.gr G0.out) hm).mono ?_
    rw [eqB_self]
    rintro e w1 ⟨rfl, n, rfl⟩
    go_wp2_with fail
    go_ret
    exact ⟨rfl, G0.out.drewN _⟩
  · rw [eqB_ne h]
    go_enter Try.func19, Try.ntmps19
    go_wp2_with fail
    refine (eqIntS_any _ _ _ _ _ (h1.gr G0.out) (h1'.gr G0.out) hm).mono ?_
    rw [eqB_ne h]
    rintro e w1 ⟨rfl, n, rfl⟩
    go_wp2_with fail
    go_ret
    exact ⟨rfl, G0.out.drewN _⟩


set_option maxHeartbeats 400000 in
theorem specCertificateRank_any (w : World) (v : Value) (l : List Int) (h : OS w v l) (hm : l.length ≤ maxLen) :
    Calls Try.prog 16 #[v] w fun e w' => e = .returned (.int .i64 (maxTill l l.length)) ∧ Gr w w' := by
  obtain ⟨s1, rfl, h1⟩ := h
  obtain ⟨A, N, c, rfl, h1⟩ := h1
  obtain rfl : N = l.length := h1.1
  unfold maxLen at hm
  have G0 := Lib.hid ((Gr.refl w).alloc (.cells #[.slice A l.length c] 28))
  go_enter Try.func16, Try.ntmps16
  go_wp2_with fail
  go_loop [3, 4] (fun m i => ∃ (k : Nat) (z : Int), k ≤ l.length ∧ i = .int .i64 k ∧ m = .int .i64 z ∧ MaxIs l k z) (fun _ i => l.length - (intOf i).toNat)
  case atStart => exact ⟨0, _, Nat.zero_le _, rfl, rfl, rfl⟩
  case round =>
    obtain ⟨k, z, hk, rfl, rfl, ht⟩ := hrel
    by_cases hlt : k < l.length
    · obtain ⟨ad, rfl, hc⟩ := h1.2 k hlt
      have hc1 := G0.out.cell hc
      by_cases hz : z < nth l k
      · go_wp2_with fail
        exact ⟨⟨k + 1, _, by omega, by go_num, rfl, (maxTill_gt (by rw [← ht]; omega)).symm⟩, by simp [intOf]; omega⟩
      · go_wp2_with fail
        exact ⟨⟨k + 1, _, by omega, by go_num, rfl, ht.trans (maxTill_le (by rw [← ht]; omega)).symm⟩, by simp [intOf]; omega⟩
    · have hk' : k = l.length := by omega
      have HT := Lib.hid (hk' ▸ ht)
      clear hk'
      go_wp2_with fail
      go_ret
      exact ⟨by rw [← show z = _ from HT.out]; rfl, G0.out⟩

set_option maxHeartbeats 400000 in
theorem implCertificateRank_any (w : World) (v : Value) (l : List Int) (h : OS w v l) (hm : l.length ≤ maxLen) :
    Calls Try.prog 18 #[v] w fun e w' => e = .returned (.int .i64 (maxTill l l.length)) ∧ Gr w w' := by
  obtain ⟨s1, rfl, h1⟩ := h
  obtain ⟨A, N, c, rfl, h1⟩ := h1
  obtain rfl : N = l.length := h1.1
  unfold maxLen at hm
  have G0 := Lib.hid ((Gr.refl w).alloc (.cells #[.slice A l.length c] 28))
  go_enter Try.func18, Try.ntmps18
  go_wp2_with fail
  go_loop [3, 5, 9] (fun m _ i => ∃ (k : Nat) (z : Int), k ≤ l.length ∧ i = .int .i64 k ∧ m = .int .i64 z ∧ MaxIs l k z) (fun _ _ i => l.length - (intOf i).toNat)
  case atStart => exact ⟨0, _, Nat.zero_le _, rfl, rfl, rfl⟩
  case round =>
    obtain ⟨k, z, hk, rfl, rfl, ht⟩ := hrel
    by_cases hlt : k < l.length
    · obtain ⟨ad, rfl, hc⟩ := h1.2 k hlt
      have hc1 := G0.out.cell hc
      by_cases hz : z < nth l k
      · go_wp2_with fail
        exact ⟨⟨k + 1, _, by omega, by go_num, rfl, (maxTill_gt (by rw [← ht]; omega)).symm⟩, by simp [intOf]; omega⟩
      · go_wp2_with fail
        exact ⟨⟨k + 1, _, by omega, by go_num, rfl, ht.trans (maxTill_le (by rw [← ht]; omega)).symm⟩, by simp [intOf]; omega⟩
    · have hk' : k = l.length := by omega
      have HT := Lib.hid (hk' ▸ ht)
      clear hk'
      go_wp2_with fail
      go_ret
      exact ⟨by rw [← show z = _ from HT.out]; rfl, G0.out⟩
end Go.Proofs.Ytnooaggphajllaa
