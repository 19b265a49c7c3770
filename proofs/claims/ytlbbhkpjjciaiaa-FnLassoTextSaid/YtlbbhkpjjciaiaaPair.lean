/-
  Contracts of the functions over structs of two slices of integers (lassos, states). No conditions but that the slices can be read.
-/
import Derived.Test.YtlbbhkpjjciaiaaInts
namespace Go.Proofs.Ytlbbhkpjjciaiaa
open Go.RowKit Go.Deep

set_option maxHeartbeats 400000 in
theorem szLasso_any (w : World) (v : Value) (l : Ints2) (left : Int) (h : PS w v l) (hl : 0 ≤ left) (hl' : left ≤ 1048576) (hm : l.1.length ≤ maxLen) (hm2 : l.2.length ≤ maxLen) :
    Calls Try.prog 25 #[v, .int .i64 left] w fun e w' => e = .returned (.int .i64 (szOf left (l.1.length + l.2.length))) ∧ Gr w w' := by
  obtain ⟨s1, s2, rfl, h1, h2⟩ := h
  have G0 := Lib.hid ((Gr.refl w).alloc (.cells #[s1, s2] 42))
  by_cases h : left - l.1.length < 0
  · have E1 := Lib.hid (szOf_no h)
    have E2 := Lib.hid (szOf_no (left := left) (n := l.1.length + l.2.length) (by omega))
    go_enter Try.func25, Try.ntmps25
    go_wp2_with fail
    refine (szIntS_any _ _ _ left (h1.gr G0.out) hl hl' hm).mono ?_
    rintro e w1 ⟨rfl, rfl⟩
    rw [E1.out]
    go_wp2_with fail
    go_ret
    exact ⟨by rw [E2.out]; rfl, G0.out⟩
  · have E1 := Lib.hid (szOf_yes (by omega : 0 ≤ left - l.1.length))
    go_enter Try.func25, Try.ntmps25
    go_wp2_with fail
    refine (szIntS_any _ _ _ left (h1.gr G0.out) hl hl' hm).mono ?_
    rintro e w1 ⟨rfl, rfl⟩
    rw [E1.out]
    go_wp2_with fail
    refine (szIntS_any _ _ _ (left - l.1.length) (h2.gr G0.out) (by omega) (by omega) hm2).mono ?_
    rintro e w1 ⟨rfl, rfl⟩
    by_cases h3 : left - l.1.length - l.2.length < 0
    · have E2 := Lib.hid (szOf_no (left := left) (n := l.1.length + l.2.length) (by omega))
      rw [szOf_no h3]
      go_wp2_with fail
      go_ret
      exact ⟨by rw [E2.out]; rfl, G0.out⟩
    · have E2 := Lib.hid (szOf_yes (left := left) (n := l.1.length + l.2.length) (by omega))
      rw [szOf_yes (by omega : 0 ≤ left - l.1.length - l.2.length)]
      go_wp2_with fail
      go_ret
      exact ⟨by rw [E2.out]; show Ending.returned (Value.int .i64 _) = Ending.returned (Value.int .i64 _); congr 2; omega, G0.out⟩

set_option maxHeartbeats 400000 in
theorem toLasso_any (w : World) (v : Value) (l : Ints2) (h : PS w v l) (hm : l.1.length ≤ 1048576) (hm2 : l.2.length ≤ 1048576) :
    Calls Try.prog 27 #[v] w (NewPair 3 w l) := by
  obtain ⟨s1, s2, rfl, h1, h2⟩ := h
  go_enter Try.func27, Try.ntmps27
  go_wp2_with fail
  refine (toIntS_any _ _ l.1 (h1.gr (((Gr.refl w).alloc _).alloc _ |>.alloc _)) hm).mono ?_
  rintro e w1 ⟨rfl, hg, hs, hr⟩
  have hz : w1.heap.size = w.heap.size + 4 := by simp [hs]
  have g1 : Gr w w1 := Gr.trans ((((Gr.refl w).alloc _).alloc _).alloc _) hg
  have b0 := (((Box.new (w := w) rfl).alloc _).alloc _).gr hg
  have b1 := ((Box.new (w := w.alloc _) (k := w.heap.size + 1) (by simp)).alloc _).gr hg
  have b2 := (Box.new (w := (w.alloc _).alloc _) (k := w.heap.size + 1 + 1) (by simp)).gr hg
  simp only [World.size_alloc] at hr
  have c0 := b0.c
  have c2 := b2.c
  have f2 := b2.f
  have HG := Lib.hid (And.intro g1 hr)
  clear hg hs hr
  have hz' : w.heap.size + 1 + 1 + 1 < w1.heap.size := by omega
  have HZ := Lib.hid hz
  clear hz
  go_wp2_with fail
  refine (toIntS_any _ _ l.2 (h2.gr (HG.out.1.set (by omega))) hm2).mono ?_
  rintro e w2 ⟨rfl, hg, hs, hr⟩
  have g2 : Gr w w2 := Gr.trans (HG.out.1.set (by omega)) hg
  have d1 := (b1.off (by omega)).gr hg
  have d2 := (b2.set_).gr hg
  have r1 := row_gr (row_off HG.out.2 (by omega)) hg
  have hz2 : w2.heap.size = w1.heap.size + 1 := by rw [hs]; simp [World.setCell]
  have hz3 : w.heap.size + 1 + 1 + 1 < w2.heap.size := by omega
  have e1 := d1.c
  have e2 := d2.c
  have f1 := d1.f
  have f3 := d2.f
  clear b0 b1 b2 c0 c2 f2
  have HG2 := Lib.hid (And.intro g2 (And.intro hr (And.intro r1 (And.intro hz' hz2))))
  clear g1 g2 hg hs hr r1 hz2 hz' d1 d2 HG
  go_wp2_with fail
  obtain ⟨g2, hr, r1, hz', hz2⟩ := HG2.out
  rw [sz_set] at hr
  refine bodyPost_ret (v := .agg #[.slice (some ⟨w.heap.size + 1 + 1 + 1, 0, none⟩) l.1.length l.1.length, .slice (some ⟨w1.heap.size, 0, none⟩) l.2.length l.2.length]) (by simp [results, Try.results27, go_sem, e1]) rfl
    ⟨w.heap.size + 1 + 1 + 1, w1.heap.size, by omega, by omega, by rw [sz_set, sz_set, sz_set]; omega, rfl, ?_, ?_, ?_, by unfold maxLen; omega, by unfold maxLen; omega⟩
  · exact ((g2.set (by omega)).set (by omega)).set (by omega)
  · exact row_off (row_off (row_off r1 (by omega)) (by omega)) (by omega)
  · exact row_off (row_off (row_off hr (by omega)) (by omega)) (by omega)

set_option maxHeartbeats 400000 in
theorem eqLasso_any (w : World) (v v' : Value) (l l' : Ints2) (h : PS w v l) (h' : PS w v' l') (hm : l.1.length ≤ 1048576) (hm2 : l.2.length ≤ 1048576) :
    Calls Try.prog 29 #[v, v'] w fun e w' => e = .returned (.bool (eqB l l')) ∧ Gr w w' := by
  obtain ⟨s1, s2, rfl, h1, h2⟩ := h
  obtain ⟨s1', s2', rfl, h1', h2'⟩ := h'
  obtain ⟨xs, ys⟩ := l
  obtain ⟨xs', ys'⟩ := l'
  dsimp only at h1 h2 h1' h2' hm hm2
  have G0 := Lib.hid (((Gr.refl w).alloc (.cells #[s1, s2] 33)).alloc (.cells #[s1', s2'] 33))
  by_cases h : xs = xs'
  · subst h
    go_enter Try.func29, Try.ntmps29
    go_wp2_with fail
    refine (eqIntS_any _ _ _ _ _ (h1.gr G0.out) (h1'.gr G0.out) hm).mono ?_
    rintro e w1 ⟨rfl, n, rfl⟩
    rw [eqB_self]
    go_wp2_with fail
    refine (eqIntS_any _ _ _ _ _ (h2.gr (G0.out.drewN _)) (h2'.gr (G0.out.drewN _)) hm2).mono ?_
    rintro e w1 ⟨rfl, n2, rfl⟩
    by_cases h : ys = ys'
    · subst h
      rw [eqB_self]
      go_wp2_with fail
      go_ret
      exact ⟨by rw [eqB_self]; rfl, G0.out.drewN _⟩
    · rw [eqB_ne h]
      go_wp2_with fail
      go_ret
      exact ⟨by rw [eqB_ne (by simp [h])]; rfl, G0.out.drewN _⟩
  · go_enter Try.func29, Try.ntmps29
    go_wp2_with fail
    refine (eqIntS_any _ _ _ _ _ (h1.gr G0.out) (h1'.gr G0.out) hm).mono ?_
    rintro e w1 ⟨rfl, n, rfl⟩
    rw [eqB_ne h]
    go_wp2_with fail
    go_ret
    exact ⟨by rw [eqB_ne (by simp [h])]; rfl, G0.out.drewN _⟩

set_option maxHeartbeats 400000 in
theorem specLassoSame_any (w : World) (v v' : Value) (l l' : Ints2) (h : PS w v l) (h' : PS w v' l') (hm : l.1.length ≤ 1048576) (hm2 : l.2.length ≤ 1048576) :
    Calls Try.prog 24 #[v, v'] w fun e w' => e = .returned (.bool (eqB l l')) ∧ Gr w w' := by
  obtain ⟨s1, s2, rfl, h1, h2⟩ := h
  obtain ⟨s1', s2', rfl, h1', h2'⟩ := h'
  obtain ⟨xs, ys⟩ := l
  obtain ⟨xs', ys'⟩ := l'
  dsimp only at h1 h2 h1' h2' hm hm2
  have G0 := Lib.hid (((Gr.refl w).alloc (.cells #[s1, s2] 33)).alloc (.cells #[s1', s2'] 33))
  by_cases h : xs = xs'
  · subst h
    go_enter Try.func24, Try.ntmps24
    go_wp2_with fail
    refine (l2Ints_any _ _ _ _ _ (h1.gr G0.out) (h1'.gr G0.out) hm).mono ?_
    rintro e w1 ⟨rfl, n, rfl⟩
    rw [eqB_self]
    go_wp2_with fail
    refine (l2Ints_any _ _ _ _ _ (h2.gr (G0.out.drewN _)) (h2'.gr (G0.out.drewN _)) hm2).mono ?_
    rintro e w1 ⟨rfl, n2, rfl⟩
    by_cases h : ys = ys'
    · subst h
      rw [eqB_self]
      go_wp2_with fail
      go_ret
      exact ⟨by rw [eqB_self]; rfl, G0.out.drewN _⟩
    · rw [eqB_ne h]
      go_wp2_with fail
      go_ret
      exact ⟨by rw [eqB_ne (by simp [h])]; rfl, G0.out.drewN _⟩
  · go_enter Try.func24, Try.ntmps24
    go_wp2_with fail
    refine (l2Ints_any _ _ _ _ _ (h1.gr G0.out) (h1'.gr G0.out) hm).mono ?_
    rintro e w1 ⟨rfl, n, rfl⟩
    rw [eqB_ne h]
    go_wp2_with fail
    go_ret
    exact ⟨by rw [eqB_ne (by simp [h])]; rfl, G0.out.drewN _⟩

set_option maxHeartbeats 400000 in
theorem implLassoSame_any (w : World) (v v' : Value) (l l' : Ints2) (h : PS w v l) (h' : PS w v' l') (hm : l.1.length ≤ 1048576) (hm2 : l.2.length ≤ 1048576) :
    Calls Try.prog 23 #[v, v'] w fun e w' => e = .returned (.bool (eqB l l')) ∧ Gr w w' := by
  obtain ⟨s1, s2, rfl, h1, h2⟩ := h
  obtain ⟨s1', s2', rfl, h1', h2'⟩ := h'
  obtain ⟨xs, ys⟩ := l
  obtain ⟨xs', ys'⟩ := l'
  dsimp only at h1 h2 h1' h2' hm hm2
  have G0 := Lib.hid (((Gr.refl w).alloc (.cells #[s1, s2] 33)).alloc (.cells #[s1', s2'] 33))
  by_cases h : xs = xs'
  · subst h
    go_enter Try.func23, Try.ntmps23
    go_wp2_with fail
    refine (slicesEqual_any _ _ _ _ _ (h1.gr G0.out) (h1'.gr G0.out) hm).mono ?_
    rintro e w1 ⟨rfl, n, rfl⟩
    rw [eqB_self]
    go_wp2_with fail
    refine (slicesEqual_any _ _ _ _ _ (h2.gr (G0.out.drewN _)) (h2'.gr (G0.out.drewN _)) hm2).mono ?_
    rintro e w1 ⟨rfl, n2, rfl⟩
    by_cases h : ys = ys'
    · subst h
      rw [eqB_self]
      go_wp2_with fail
      go_ret
      exact ⟨by rw [eqB_self]; rfl, G0.out.drewN _⟩
    · rw [eqB_ne h]
      go_wp2_with fail
      go_ret
      exact ⟨by rw [eqB_ne (by simp [h])]; rfl, G0.out.drewN _⟩
  · go_enter Try.func23, Try.ntmps23
    go_wp2_with fail
    refine (slicesEqual_any _ _ _ _ _ (h1.gr G0.out) (h1'.gr G0.out) hm).mono ?_
    rintro e w1 ⟨rfl, n, rfl⟩
    rw [eqB_ne h]
    go_wp2_with fail
    go_ret
    exact ⟨by rw [eqB_ne (by simp [h])]; rfl, G0.out.drewN _⟩

end Go.Proofs.Ytlbbhkpjjciaiaa

