/-
  LiveStates, both ways. No conditions.
-/
import Derived.Test.YtkjimmkemnmajaaN8
namespace Go.Proofs.Ytkjimmkemnmajaa.Vm
open Go
set_option linter.unusedVariables false
set_option linter.unusedSimpArgs false
set_option maxRecDepth 200000

theorem AutOk.rng {a : List Int} {n : Nat} {c : List Tr4} (h : AutOk a n c) : InRng n c := fun i hi => by
  obtain ⟨g1, g2, g3, g4, _⟩ := h.2.2.2.2 i hi
  exact ⟨⟨g1, g2⟩, g3, g4⟩
theorem AutOk.sizes {a : List Int} {n : Nat} {c : List Tr4} (h : AutOk a n c) : 1 ≤ n ∧ n ≤ 64 ∧ a.length ≤ n ∧ c.length ≤ 2048 := ⟨h.1, h.2.1, sorted_len h.2.2.1, h.2.2.2.1⟩
noncomputable def lsL (a : List Int) (b : List Bool) (c : List Tr4) : List Bool := if B (AutOk a b.length c) = true then livL (nxE b.length c c.length) b else []
theorem lsL_yes {a : List Int} {b : List Bool} {c : List Tr4} (h : B (AutOk a b.length c) = true) : lsL a b c = livL (nxE b.length c c.length) b := by rw [lsL, if_pos h]
theorem lsL_no {a : List Int} {b : List Bool} {c : List Tr4} (h : B (AutOk a b.length c) = false) : lsL a b c = [] := by rw [lsL, if_neg (by rw [h]; simp)]
theorem livL_same {n : Nat} {c : List Tr4} (hr : InRng n c) (acc : List Bool) : livL (nxD n c c.length) acc = livL (nxE n c c.length) acc := by
  have hs := nx_sameN hr
  unfold livL
  rw [← hs.1]
  apply List.map_congr_left
  intro i hi
  rw [List.mem_range] at hi
  rw [Bool.eq_iff_iff, B_iff, B_iff]
  exact (hs.liv (nxE_ok hr) (by intro s q; simp at q; subst q; exact ⟨by omega, by omega⟩)).symm
theorem lsL_len (a : List Int) (b : List Bool) (c : List Tr4) : (lsL a b c).length ≤ 64 := by
  cases h : B (AutOk a b.length c) with
  | true =>
    have h2 : AutOk a b.length c := by rw [B_iff] at h; exact h
    rw [lsL_yes h, livL_len, nxE_len _ _ _ (Nat.le_refl _)]; exact h2.2.1
  | false => rw [lsL_no h]; simp
theorem lsL_ne {a : List Int} {b : List Bool} {c : List Tr4} (h : AutOk a b.length c) : ¬ lsL a b c = [] := by
  intro e
  have e2 := congrArg List.length e
  rw [lsL_yes (B_yes h), livL_len, nxE_len _ _ _ (Nat.le_refl _), List.length_nil] at e2
  have := h.1
  omega

theorem implLs_pure (a : List Int) (b : List Bool) (c : List Tr4) (hS : AllSmall c) : Pure Try.prog 43 [.st [li cI a, li cB b, li cT c]] (if lsL a b c = [] then .nil else fr 1 cB (lsL a b c)) := by
  refine Pure.of_walk Try.func43 rfl (by simp [Try.f43]) (by simp [-List.drop_one, go_sem]) fun B hK => ?_
  cases hg : Vm.B (AutOk a b.length c)
  all_goals (repeat' (first
    | refine AW_seq ?_
    | refine zaac (id := 0) Γn11_ok [] (by kernel_rfl) ?_; simp  [-List.getD_eq_getElem?_getD, -List.drop_one, ↓zaab, ↓zaaa, go_sem]; try (refine AW_data hK 1 ?_; simp [go_sem])
    | refine zaac (id := 1) Γn11_ok [] (by kernel_rfl) ?_; simp  [-List.getD_eq_getElem?_getD, -List.drop_one, ↓zaab, ↓zaaa, go_sem, hg, hS]
    | refine zaac (id := 2) Γn11_ok [] (by kernel_rfl) ?_; simp  [-List.getD_eq_getElem?_getD, -List.drop_one, ↓zaab, ↓zaaa, go_sem, lsL_no hg]
    | (have hG : AutOk a b.length c := (by rw [B_iff] at hg; exact hg); obtain ⟨n1, n2, n3, n4⟩ := hG.sizes; (have hle : ¬ livL (nxE b.length c c.length) b = [] := (by rw [← lsL_yes hg]; exact lsL_ne hG))); refine zaac (id := 3) Γn11_ok [] (by kernel_rfl) ?_; simp  [-List.getD_eq_getElem?_getD, -List.drop_one, ↓zaab, ↓zaaa, go_sem, hG.rng, (show b.length ≤ 1048576 by omega), (show c.length ≤ 1048576 by omega), lsL_yes hg, hle]
    | refine zaaf (c := .tmp 5) ?_; simp [-List.getD_eq_getElem?_getD, -List.drop_one, ↓zaab, ↓zaaa, go_sem]; try first | (refine ⟨?_, ?_⟩ <;> change AW _ _ _ _ _ _) | (refine ⟨fun c5 => ?_, fun c5 => ?_⟩ <;> (try simp [B_iff, B_not] at c5))
    | (refine zaag ?_)
    | (refine zaap ?_; simp [-List.getD_eq_getElem?_getD, -List.drop_one, ↓zaab, ↓zaaa, go_sem])
    | (refine zaan ?_; simp [-List.getD_eq_getElem?_getD, -List.drop_one, ↓zaab, ↓zaaa, go_sem])
    | (refine AW_ret ?_; simp [-List.getD_eq_getElem?_getD, -List.drop_one, ↓zaab, ↓zaaa, go_sem, Try.results43])
    | (intro hx; change AW _ _ _ _ _ _)
    | (refine ⟨?_, ?_⟩ <;> change AW _ _ _ _ _ _)
    | (intro hx; refine ⟨fun hs => ?_, fun hs => ?_⟩)
    | (refine ⟨fun hs => ?_, fun hs => ?_⟩)
    | (refine ⟨?_, fun hs => ?_⟩; change AW _ _ _ _ _ _)
    | (refine ⟨fun hs => ?_, ?_⟩; rotate_left; change AW _ _ _ _ _ _; rotate_left)))
  all_goals (first
    | (rw [lsL_no hg]; simp; done)
    | skip)
noncomputable def implLs_pureC : Con := .pure fun
  | [.st [.list n_a c_a, .list n_b c_b, .list n_c c_c]] => ((Is cI n_a c_a) ∧ (Is cB n_b c_b) ∧ (Is cT n_c c_c) ∧ (AllSmall (de cT c_c)), if lsL (de cI c_a) (de cB c_b) (de cT c_c) = [] then .nil else fr 1 cB (lsL (de cI c_a) (de cB c_b) (de cT c_c)))
  | _ => (False, .any)
attribute [go_sem] implLs_pureC
theorem implLs_pureC_ok : ConOk Try.prog 43 implLs_pureC := by
  refine ⟨zaal Try.func43 (by decide) rfl, fun args h => ?_⟩
  revert h
  dsimp only
  split
  · intro h
    obtain ⟨⟨a, rfl, rfl⟩, ⟨b, rfl, rfl⟩, ⟨c, rfl, rfl⟩, hS⟩ := h
    try simp only [de_cat] at *
    exact ⟨implLs_pure a b c hS, by simp [go_sem]⟩
  · intro h
    exact h.elim
noncomputable def Γn12 : FuncId → Con := ext Γn11 43 implLs_pureC
attribute [go_sem] Γn12
theorem Γn12_ok : ∀ g, ConOk Try.prog g (Γn12 g) := ext_ok Γn11_ok implLs_pureC_ok

set_option maxHeartbeats 4000000 in

theorem specLs_pure (a : List Int) (b : List Bool) (c : List Tr4) (hS : AllSmall c) : Pure Try.prog 44 [.st [li cI a, li cB b, li cT c]] (fr 1 cB (lsL a b c)) := by
  refine Pure.of_walk Try.func44 rfl (by simp [Try.f44]) (by simp [-List.drop_one, go_sem]) fun B hK => ?_
  cases hg : Vm.B (AutOk a b.length c)
  all_goals (repeat' (first
    | refine AW_seq ?_
    | refine zaac (id := 0) Γn12_ok [] (by kernel_rfl) ?_; simp  [-List.getD_eq_getElem?_getD, -List.drop_one, ↓zaab, ↓zaaa, go_sem]; try (refine AW_data hK 1 ?_; simp [go_sem])
    | refine zaac (id := 1) Γn12_ok [] (by kernel_rfl) ?_; simp  [-List.getD_eq_getElem?_getD, -List.drop_one, ↓zaab, ↓zaaa, go_sem]
    | refine zaac (id := 2) Γn12_ok [] (by kernel_rfl) ?_; simp  [-List.getD_eq_getElem?_getD, -List.drop_one, ↓zaab, ↓zaaa, go_sem, hg, hS]
    | refine zaac (id := 3) Γn12_ok [] (by kernel_rfl) ?_; simp  [-List.getD_eq_getElem?_getD, -List.drop_one, ↓zaab, ↓zaaa, go_sem, lsL_no hg]
    | (have hG : AutOk a b.length c := (by rw [B_iff] at hg; exact hg); obtain ⟨n1, n2, n3, n4⟩ := hG.sizes; (have hr := hG.rng)); refine zaac (id := 4) Γn12_ok [] (by kernel_rfl) ?_; simp  [-List.getD_eq_getElem?_getD, -List.drop_one, ↓zaab, ↓zaaa, go_sem, hr, (show b.length ≤ 1048576 by omega), (show c.length ≤ 1048576 by omega)]; try ((refine AW_data hK 4 ?_); (simp [go_sem]); (have hx := nxD_ok hr); (have hs := nxD_nextS hr (by omega)); (have hnl := nxD_len b.length c c.length (Nat.le_refl _)); (have hlv : livL (nxD b.length c c.length) b = lsL a b c := (by rw [livL_same hr, lsL_yes hg])); (obtain ⟨nx, hnx⟩ : ∃ nx, nxD b.length c c.length = nx := ⟨_, rfl⟩); (rw [hnx] at hx hs hnl hlv ⊢); (rw [← hlv]); (have hll := livL_len nx b))
    | refine zaac (id := 5) Γn12_ok [] (by kernel_rfl) ?_; simp  [-List.getD_eq_getElem?_getD, -List.drop_one, ↓zaab, ↓zaaa, go_sem]
    | refine zaac (id := 6) Γn12_ok [] (by kernel_rfl) ?_; simp  [-List.getD_eq_getElem?_getD, -List.drop_one, ↓zaab, ↓zaaa, go_sem]
    | ((have hnd : Nd nx (i : Int) := ⟨by omega, by omega⟩); (have hst : Starts nx.length [(i : Int)] := Starts.one hnd.1 hnd.2); (have hB := bfsE_ok hx hst); (have hin := hB.le)); refine zaac (id := 8) Γn12_ok [] (by kernel_rfl) ?_; simp  [-List.getD_eq_getElem?_getD, -List.drop_one, ↓zaab, ↓zaaa, go_sem, hx, hs, hnl, (show b.length ≤ 1048576 by omega), hst, (show Starts b.length [(i : Int)] from by rw [← hnl]; exact hst), (show 1 ≤ b.length by omega), (show Is cI 1 [D.int .i64 (i : Int)] ↔ True by rw [one_cI, is_cat]; simp), (show de cI [D.int .i64 (i : Int)] = [(i : Int)] by rw [one_cI, de_cat])]; try ((refine AW_data hK 6 ?_); (simp [go_sem]); (have hmem := fun y => bfs_rchS hx hst (y := y)); (have hrg := hB.rng); (obtain ⟨ns, hns⟩ : ∃ ns, (bfsE nx [(i : Int)]).2 = ns := ⟨_, rfl⟩); (rw [hns] at hin hrg ⊢); (simp only [hns] at hmem))
    | refine zaac (id := 9) Γn12_ok [] (by kernel_rfl) ?_; simp  [-List.getD_eq_getElem?_getD, -List.drop_one, ↓zaab, ↓zaaa, go_sem]
    | refine zaac (id := 10) Γn12_ok [] (by kernel_rfl) ?_; simp  [-List.getD_eq_getElem?_getD, -List.drop_one, ↓zaab, ↓zaaa, go_sem]
    | refine zaac (id := 11) Γn12_ok [31] (by kernel_rfl) ?_; simp  [-List.getD_eq_getElem?_getD, -List.drop_one, ↓zaab, ↓zaaa, go_sem]; try (refine ⟨fun s11a => ?_, fun s11a => ?_⟩ <;> (try simp [B_iff, B_not] at s11a) <;> try (refine ⟨fun s11b => ?_, fun s11b => ?_⟩ <;> (try simp [B_iff, B_not] at s11b)))
    | ((have hyl : y.1 < ns.length := (by omega)); (obtain ⟨u0, u1⟩ := hrg y.1 hyl); (obtain ⟨u, hu⟩ : ∃ u, nth ns y.1 = u := ⟨_, rfl⟩); (rw [hu] at u0 u1); (have hub : u.toNat < b.length := (by omega)); (have hyf : y.2 = false := (by simp_all)); (rw [hyf] at f2); (have f3 : ¬ ∃ j, j < y.1 ∧ Cyc nx (nth ns j) ∧ nth b (nth ns j).toNat = true := (fun h => by have := f2.2 h; cases this)); (have hnew : (∃ j, j < y.1 + 1 ∧ Cyc nx (nth ns j) ∧ nth b (nth ns j).toNat = true) ↔ Cyc nx u ∧ nth b u.toNat = true := ⟨fun ⟨j, h1, h2⟩ => (by by_cases e : j = y.1; (subst e; rw [hu] at h2; exact h2); exact absurd ⟨j, by omega, h2⟩ f3), fun h => ⟨y.1, by omega, by rw [hu]; exact h⟩⟩)); refine AW_region_draw (id := 13) Γn12_ok mixed [45] [] (by kernel_rfl) (by kernel_rfl) (by simp [-List.getD_eq_getElem?_getD, -List.drop_one, ↓zaab, ↓zaaa, go_sem, hyl, zaas hyl, Nat.sub_pos_of_lt hyl, hu, u0, u1, hub, zaas hub, Nat.sub_pos_of_lt hub, hx, hs, hnl, (show u < (b.length : Int) by omega), (show b.length ≤ 1048576 by omega)]) ?_; simp  [-List.getD_eq_getElem?_getD, -List.drop_one, ↓zaab, ↓zaaa, go_sem, hyl, zaas hyl, Nat.sub_pos_of_lt hyl, hu, u0, u1, hub, zaas hub, Nat.sub_pos_of_lt hub, hx, hs, hnl, (show u < (b.length : Int) by omega), (show b.length ≤ 1048576 by omega)]; try (refine ⟨fun s13a => ?_, fun s13a => ?_⟩ <;> (try simp [B_iff, B_not] at s13a) <;> try (refine ⟨fun s13b => ?_, fun s13b => ?_⟩ <;> (try simp [B_iff, B_not] at s13b)))
    | ((obtain ⟨v', hve, hv'⟩ : ∃ v', v' = (nth b u.toNat && Vm.B (Cyc nx u)) ∧ (v' = true ↔ ∃ j, j < y.1 + 1 ∧ Cyc nx (nth ns j) ∧ nth b (nth ns j).toNat = true) := ⟨_, rfl, by rw [hnew, Bool.and_eq_true, B_iff]; exact and_comm⟩); (simp only [s13a, Bool.true_and, Bool.false_and] at hve)); refine zaac (id := 12) Γn12_ok [] (by kernel_rfl) ?_; simp  [-List.getD_eq_getElem?_getD, -List.drop_one, ↓zaab, ↓zaaa, go_sem, wrapS (k := y.1) (by omega)]
    | ((have hfin : y.2 = true ↔ Liv nx b [(i : Int)] := (by rw [f2]; constructor; (rintro ⟨j, j1, j2, j3⟩; (have hr2 := hrg j (by omega)); exact ⟨nth ns j, ⟨hr2.1, hr2.2⟩, (hmem _).1 (nth_mem (by omega)), j2, j3⟩); (rintro ⟨x, x1, x2, x3, x4⟩; by_cases hl2 : y.2 = true; (exact f2.1 hl2); (have hl3 : y.1 = ns.length := (by first | omega | (exfalso; simp_all; done))); (obtain ⟨j, j1, j2⟩ := mem_idx ((hmem x).2 x2)); exact ⟨j, by omega, by rw [j2]; exact x3, by rw [j2]; exact x4⟩))); (have hv : nth (livL nx b) i = y.2 := (by rw [nth_livL (by omega), Bool.eq_iff_iff, B_iff]; exact hfin.symm)); (have htk : cat cB ((livL nx b).take i) ++ [.bool y.2] = cat cB ((livL nx b).take (i + 1)) := (by rw [List.take_succ_eq_append_getElem (by omega), cat_append, cat_one, ← nth_lt, hv]; rfl))); refine zaac (id := 14) Γn12_ok [] (by kernel_rfl) ?_; simp  [-List.getD_eq_getElem?_getD, -List.drop_one, ↓zaab, ↓zaaa, go_sem, htk, (show i ≤ 9223372036854775806 by omega), (show 2 * (i + 1) * 1 ≤ 281474976710656 by omega), (show 2 * (i + 1) ≤ 281474976710656 by omega), (show i + 1 ≤ 9223372036854775807 by omega)]
    | refine zaac (id := 7) Γn12_ok [] (by kernel_rfl) ?_; simp  [-List.getD_eq_getElem?_getD, -List.drop_one, ↓zaab, ↓zaaa, go_sem, wrapS (k := i) (by omega)]
    | ((obtain rfl : i = b.length := by omega)); refine zaac (id := 15) Γn12_ok [] (by kernel_rfl) ?_; simp  [-List.getD_eq_getElem?_getD, -List.drop_one, ↓zaab, ↓zaaa, go_sem, hll, hnl, (show (livL nx b).take b.length = livL nx b from List.take_of_length_le (by omega))]
    | refine zaaf (c := .tmp 12) ?_; simp [-List.getD_eq_getElem?_getD, -List.drop_one, ↓zaab, ↓zaaa, go_sem]; try first | (refine ⟨?_, ?_⟩ <;> change AW _ _ _ _ _ _) | (refine ⟨fun c12 => ?_, fun c12 => ?_⟩ <;> (try simp [B_iff, B_not] at c12))
    | refine zaaf (c := .tmp 20) ?_; simp [-List.getD_eq_getElem?_getD, -List.drop_one, ↓zaab, ↓zaaa, go_sem]; try first | (refine ⟨?_, ?_⟩ <;> change AW _ _ _ _ _ _) | (refine ⟨fun c20 => ?_, fun c20 => ?_⟩ <;> (try simp [B_iff, B_not] at c20))
    | refine zaaf (c := .tmp 34) ?_; simp [-List.getD_eq_getElem?_getD, -List.drop_one, ↓zaab, ↓zaaa, go_sem]; try first | (refine ⟨?_, ?_⟩ <;> change AW _ _ _ _ _ _) | (refine ⟨fun c34 => ?_, fun c34 => ?_⟩ <;> (try simp [B_iff, B_not] at c34))
    | (refine zaag (id := 0) (AW_loop (ι := Nat) (fun i : Nat => ⟨(upd (upd (upd (upd (fun _ => .any) 1 (.pd [li cI a, li cB b, li cT c])) 3 (.fr 1 i (cat cB ((livL nx b).take i)))) 4 (li cL nx)) 5 (.int .i64 i)), fun _ => none⟩) (fun i => i ≤ b.length) (fun i => b.length - i) (0) ?_ ?_ ?_); exact Nat.zero_le _; ((repeat' (first | exact zaad (by assumption) | exact zaah | refine zaai ?_ ?_ | refine zaae ?_)) <;> simp [-List.getD_eq_getElem?_getD, -List.drop_one, ↓zaab, ↓zaaa, go_sem, List.take_zero, cat_nil, li, hnl]); rintro i hi)
    | (refine ⟨i + 1, by omega, by first | omega | (simp; done) | (simp; omega), ?_⟩; ((repeat' (first | exact zaad (by assumption) | exact zaah | refine zaai ?_ ?_ | refine zaae ?_)) <;> simp [-List.getD_eq_getElem?_getD, -List.drop_one, ↓zaab, ↓zaaa, go_sem, li, hnl]))
    | (refine zaag (id := 2) (AW_loop (ι := Nat × Bool) (fun y : Nat × Bool => ⟨(upd (upd (upd (upd (upd (upd (upd (fun _ => .any) 1 (.pd [li cI a, li cB b, li cT c])) 3 (.fr 1 i (cat cB ((livL nx b).take i)))) 4 (li cL nx)) 5 (.int .i64 i)) 6 (li cI ns)) 7 (.bool y.2)) 8 (.int .i64 y.1)), fun _ => none⟩) (fun y => y.1 ≤ ns.length ∧ (y.2 = true ↔ ∃ j, j < y.1 ∧ Cyc nx (nth ns j) ∧ nth b (nth ns j).toNat = true)) (fun y => ns.length - y.1) ((0, false)) ?_ ?_ ?_); exact ⟨Nat.zero_le _, by simp⟩; ((repeat' (first | exact zaad (by assumption) | exact zaah | refine zaai ?_ ?_ | refine zaae ?_)) <;> simp [-List.getD_eq_getElem?_getD, -List.drop_one, ↓zaab, ↓zaaa, go_sem, li, hnl]); rintro y ⟨f1, f2⟩)
    | (refine ⟨(y.1 + 1, v'), ⟨by dsimp only; omega, hv'⟩, by first | omega | (simp; done) | (simp; omega), ?_⟩; ((repeat' (first | exact zaad (by assumption) | exact zaah | refine zaai ?_ ?_ | refine zaae ?_)) <;> simp [-List.getD_eq_getElem?_getD, -List.drop_one, ↓zaab, ↓zaaa, go_sem, li, hnl, hve]))
    | (refine zaag ?_)
    | (refine zaap ?_; simp [-List.getD_eq_getElem?_getD, -List.drop_one, ↓zaab, ↓zaaa, go_sem])
    | (refine zaan ?_; simp [-List.getD_eq_getElem?_getD, -List.drop_one, ↓zaab, ↓zaaa, go_sem])
    | (refine AW_ret ?_; simp [-List.getD_eq_getElem?_getD, -List.drop_one, ↓zaab, ↓zaaa, go_sem, Try.results44])
    | (intro hx; change AW _ _ _ _ _ _)
    | (refine ⟨?_, ?_⟩ <;> change AW _ _ _ _ _ _)
    | (intro hx; refine ⟨fun hs => ?_, fun hs => ?_⟩)
    | (refine ⟨fun hs => ?_, fun hs => ?_⟩)
    | (refine ⟨?_, fun hs => ?_⟩; change AW _ _ _ _ _ _)
    | (refine ⟨fun hs => ?_, ?_⟩; rotate_left; change AW _ _ _ _ _ _; rotate_left)))
noncomputable def specLs_pureC : Con := .pure fun
  | [.st [.list n_a c_a, .list n_b c_b, .list n_c c_c]] => ((Is cI n_a c_a) ∧ (Is cB n_b c_b) ∧ (Is cT n_c c_c) ∧ (AllSmall (de cT c_c)), fr 1 cB (lsL (de cI c_a) (de cB c_b) (de cT c_c)))
  | _ => (False, .any)
attribute [go_sem] specLs_pureC
theorem specLs_pureC_ok : ConOk Try.prog 44 specLs_pureC := by
  refine ⟨zaal Try.func44 (by decide) rfl, fun args h => ?_⟩
  revert h
  dsimp only
  split
  · intro h
    obtain ⟨⟨a, rfl, rfl⟩, ⟨b, rfl, rfl⟩, ⟨c, rfl, rfl⟩, hS⟩ := h
    try simp only [de_cat] at *
    exact ⟨specLs_pure a b c hS, by simp [go_sem]⟩
  · intro h
    exact h.elim
noncomputable def Γn13 : FuncId → Con := ext Γn12 44 specLs_pureC
attribute [go_sem] Γn13
theorem Γn13_ok : ∀ g, ConOk Try.prog g (Γn13 g) := ext_ok Γn12_ok specLs_pureC_ok

end Go.Proofs.Ytkjimmkemnmajaa.Vm

