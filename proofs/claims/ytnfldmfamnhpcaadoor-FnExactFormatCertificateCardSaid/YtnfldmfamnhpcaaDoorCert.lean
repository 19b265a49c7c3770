/-
  Contracts of the functions over certificates. No conditions but that the slices can be read.
-/
import Derived.Test.YtnfldmfamnhpcaaDoorInts
namespace Go.Proofs.YtnfldmfamnhpcaaDoor
open Go.RowKit Go.Deep

set_option maxHeartbeats 400000 in
theorem szCertificate_any (w : World) (v : Value) (l : List Int) (left : Int) (h : OS w v l) (hl : 0 ≤ left) (hl' : left ≤ 1048576) (hm : l.length ≤ maxLen) :
    Calls Tryd.prog 6 #[v, .int .i64 left] w fun e w' => e = .returned (.int .i64 (szOf left l.length)) ∧ Gr w w' := by
  obtain ⟨s1, rfl, h1⟩ := h
  have G0 := Lib.hid ((Gr.refl w).alloc (.cells #[s1] 24))
  by_cases h : left - l.length < 0
  · have E1 := Lib.hid (szOf_no h)
    go_enter Tryd.func6, Tryd.ntmps6
    go_wp2_with fail
    refine (szIntS_any _ _ _ left (h1.gr G0.out) hl hl' hm).mono ?_
    rintro e w1 ⟨rfl, rfl⟩
    rw [E1.out]
    go_wp2_with fail
    go_ret
    exact ⟨by rw [E1.out]; rfl, G0.out⟩
  · have E1 := Lib.hid (szOf_yes (by omega : 0 ≤ left - l.length))
    go_enter Tryd.func6, Tryd.ntmps6
    go_wp2_with fail
    refine (szIntS_any _ _ _ left (h1.gr G0.out) hl hl' hm).mono ?_
    rintro e w1 ⟨rfl, rfl⟩
    rw [E1.out]
    go_wp2_with fail
    go_ret
    exact ⟨by rw [E1.out]; rfl, G0.out⟩

set_option maxHeartbeats 400000 in
theorem toCertificate_any (w : World) (v : Value) (l : List Int) (h : OS w v l) (hm : l.length ≤ 1048576) :
    Calls Tryd.prog 8 #[v] w (NewOne 3 w l) := by
  obtain ⟨s1, rfl, h1⟩ := h
  go_enter Tryd.func8, Tryd.ntmps8
  go_wp2_with fail
  refine (toIntS_any _ _ l (h1.gr (((Gr.refl w).alloc _).alloc _ |>.alloc _)) hm).mono ?_
  rintro e w1 ⟨rfl, hg, hs, hr⟩
  have hz : w1.heap.size = w.heap.size + 4 := by simp [hs]
  have g1 : Gr w w1 := Gr.trans ((((Gr.refl w).alloc _).alloc _).alloc _) hg
  have b1 := ((Box.new (w := w.alloc _) (k := w.heap.size + 1) (by simp)).alloc _).gr hg
  have b2 := (Box.new (w := (w.alloc _).alloc _) (k := w.heap.size + 1 + 1) (by simp)).gr hg
  simp only [World.size_alloc] at hr
  have c1 := b1.c
  have f1 := b1.f
  have c2 := b2.c
  have f2 := b2.f
  have HG := Lib.hid (And.intro g1 hr)
  clear hg hs hr g1
  have hz' : w.heap.size + 1 + 1 + 1 < w1.heap.size := by omega
  have HZ := Lib.hid hz
  clear hz
  go_wp2_with fail
  refine bodyPost_ret (v := .agg #[.slice (some ⟨w.heap.size + 1 + 1 + 1, 0, none⟩) l.length l.length]) (by simp [results, Tryd.results8, go_sem, c1]) rfl
    ⟨w.heap.size + 1 + 1 + 1, by omega, by rw [sz_set, sz_set]; omega, rfl, ?_, ?_⟩
  · exact (HG.out.1.set (by omega)).set (by omega)
  · exact ⟨row_off (row_off HG.out.2 (by omega)) (by omega), by unfold maxLen; omega⟩

set_option maxHeartbeats 400000 in
theorem eqCertificate_any (w : World) (v v' : Value) (l l' : List Int) (h : OS w v l) (h' : OS w v' l') (hm : l.length ≤ 1048576) :
    Calls Tryd.prog 10 #[v, v'] w fun e w' => e = .returned (.bool (eqB l l')) ∧ Gr w w' := by
  obtain ⟨s1, rfl, h1⟩ := h
  obtain ⟨s1', rfl, h1'⟩ := h'
  have G0 := Lib.hid (((Gr.refl w).alloc (.cells #[s1] 27)).alloc (.cells #[s1'] 27))
  by_cases h : l = l'
  · subst h
    rw [eqB_self]
    go_enter Tryd.func10, Tryd.ntmps10
    go_wp2_with fail
    refine (eqIntS_any _ _ _ _ _ (h1.gr G0.out) (h1'.gr G0.out) hm).mono ?_
    rw [eqB_self]
    rintro e w1 ⟨rfl, n, rfl⟩
    go_wp2_with fail
    go_ret
    exact ⟨rfl, G0.out.drewN _⟩
  · rw [eqB_ne h]
    go_enter Tryd.func10, Tryd.ntmps10
    go_wp2_with fail
    refine (eqIntS_any _ _ _ _ _ (h1.gr G0.out) (h1'.gr G0.out) hm).mono ?_
    rw [eqB_ne h]
    rintro e w1 ⟨rfl, n, rfl⟩
    go_wp2_with fail
    go_ret
    exact ⟨rfl, G0.out.drewN _⟩
end Go.Proofs.YtnfldmfamnhpcaaDoor
