/-
  LiveStates, both ways. No conditions.
-/
import Derived.Test.YtkjimmkemnmajaaN7
namespace Go.Proofs.Ytkjimmkemnmajaa.Vm
open Go
set_option linter.unusedVariables false
set_option linter.unusedSimpArgs false
set_option maxRecDepth 200000

def gd (nx : List (List Int)) (acc : List Bool) (s : Int) (i : Nat) : Prop := RchS nx [s] (i : Int) ∧ Cyc nx (i : Int) ∧ nth acc i = true
theorem gd_iff {nx : List (List Int)} {acc : List Bool} {s : Int} {i : Nat} (h : i < nx.length) : gd nx acc s i ↔ nth (rchL nx [s]) i = true ∧ nth (cycL nx) i = true ∧ nth acc i = true := by
  rw [nth_rchL h, nth_cycL h, B_iff, B_iff]; rfl
theorem gd_liv {nx : List (List Int)} {acc : List Bool} {s : Int} : (∃ i, i < nx.length ∧ gd nx acc s i) ↔ Liv nx acc [s] := by
  constructor
  · rintro ⟨i, h, h1, h2, h3⟩
    exact ⟨(i : Int), ⟨by omega, by omega⟩, h1, h2, by simpa using h3⟩
  · rintro ⟨x, h, h1, h2, h3⟩
    have e : ((x.toNat : Nat) : Int) = x := Int.toNat_of_nonneg h.1
    exact ⟨x.toNat, by have := h.1; have := h.2; omega, by rw [e]; exact h1, by rw [e]; exact h2, h3⟩
theorem nth_livL {nx : List (List Int)} {acc : List Bool} {i : Nat} (h : i < nx.length) : nth (livL nx acc) i = Vm.B (Liv nx acc [(i : Int)]) := by
  rw [nth_lt (by rw [livL_len]; exact h)]; simp [livL]
theorem prtB_set0 {xs : List Bool} {k : Nat} (h : k < xs.length) : (prtB xs k).set k false = prtB xs k := by
  obtain ⟨m, e⟩ : ∃ m, xs.length - k = m + 1 := ⟨xs.length - k - 1, by omega⟩
  rw [prtB, e, List.replicate_succ, set_mid (by simp; omega)]
structure LV (b5 j5 : Nat) (nx : List (List Int)) (acc : List Bool) (k j : Nat) (H : Hp) : Prop where
  w : ∃ v, H b5 = some (cat cB ((prtB (livL nx acc) k).set k v) ++ List.replicate j5 .any) ∧ (v = true ↔ ∃ i, i < j ∧ gd nx acc (k : Int) i)
theorem LV.next {b5 j5 : Nat} {nx : List (List Int)} {acc : List Bool} {k j : Nat} {H2 : Hp} {v v' : Bool} (h : v = true ↔ ∃ i, i < j ∧ gd nx acc (k : Int) i) (h2 : H2 b5 = some (cat cB (((prtB (livL nx acc) k).set k v).set k v') ++ List.replicate j5 .any)) (hv : v' = true ↔ v = true ∨ gd nx acc (k : Int) j) : LV b5 j5 nx acc k (j + 1) H2 := by
  refine ⟨v', by rw [h2, List.set_set], ?_⟩
  rw [hv, h]
  constructor
  · rintro (⟨i, h1, h2⟩ | q)
    · exact ⟨i, by omega, h2⟩
    · exact ⟨j, by omega, q⟩
  · rintro ⟨i, h1, h2⟩
    by_cases e : i = j
    · subst e; exact .inr h2
    · exact .inl ⟨i, by omega, h2⟩
set_option maxHeartbeats 4000000 in

theorem live_pure (a : List Int) (b : List Bool) (c : List Tr4) (hr : InRng b.length c) (hb : b.length ≤ 1048576) (hc : c.length ≤ 1048576) : Pure Try.prog 125 [.st [li cI a, li cB b, li cT c]] (fr 1 cB (livL (nxE b.length c c.length) b)) := by
  refine Pure.of_walk Try.func125 rfl (by simp [Try.f125]) (by simp [-List.drop_one, go_sem]) fun B hK => ?_
  (repeat' (first
    | refine AW_seq ?_
    | refine zaac (id := 0) Γn10_ok [] (by kernel_rfl) ?_; simp  [-List.getD_eq_getElem?_getD, -List.drop_one, ↓zaab, ↓zaaa, go_sem]; try (refine AW_data hK 1 ?_; simp [go_sem])
    | refine zaac (id := 1) Γn10_ok [] (by kernel_rfl) ?_; simp  [-List.getD_eq_getElem?_getD, -List.drop_one, ↓zaab, ↓zaaa, go_sem, hr, hb, hc]; try ((refine AW_data hK 3 ?_); (simp [go_sem]); (have hx := nxE_ok hr); (have hs := nxE_nextS hr hc); (have hnl := nxE_len b.length c c.length (Nat.le_refl _)); (obtain ⟨nx, hnx⟩ : ∃ nx, nxE b.length c c.length = nx := ⟨_, rfl⟩); (rw [hnx] at hx hs hnl ⊢); (have hcl := cycL_len nx); (have hll := livL_len nx b))
    | refine zaac (id := 2) Γn10_ok [] (by kernel_rfl) ?_; simp  [-List.getD_eq_getElem?_getD, -List.drop_one, ↓zaab, ↓zaaa, go_sem, hx, hs, hnl, hb]; try ((refine AW_data hK 4 ?_); (simp [go_sem]))
    | refine zaac (id := 3) Γn10_ok [] (by kernel_rfl) ?_; simp  [-List.getD_eq_getElem?_getD, -List.drop_one, ↓zaab, ↓zaaa, go_sem, hnl, make_cB, (by omega : (b.length : Int) ≤ 281474976710656), (by omega : (b.length : Int) ≤ 9223372036854775807)]; try ((refine AW_mat 5 rfl fun b5 c5 j5 q5 hc5 hj5 => ?_); (clear q5); (refine AW_gen (fun H1 => H1 b5 = some (cat cB (prtB (livL nx b) 0) ++ List.replicate j5 D.any)) (by simp [upd, prtB_zero, hll, hnl]) fun H1 w5 => ?_))
    | refine zaac (id := 4) Γn10_ok [] (by kernel_rfl) ?_; simp  [-List.getD_eq_getElem?_getD, -List.drop_one, ↓zaab, ↓zaaa, go_sem, hnl]
    | refine zaac (id := 5) Γn10_ok [] (by kernel_rfl) ?_; simp  [-List.getD_eq_getElem?_getD, -List.drop_one, ↓zaab, ↓zaaa, go_sem]
    | refine zaac (id := 6) Γn10_ok [] (by kernel_rfl) ?_; simp  [-List.getD_eq_getElem?_getD, -List.drop_one, ↓zaab, ↓zaaa, go_sem]
    | ((have hnd : Nd nx (q.1 : Int) := ⟨by omega, by omega⟩); (have hone : ∀ x, x ∈ [(q.1 : Int)] → Nd nx x := (by intro x h; simp at h; subst h; exact hnd)); (have hrl := rchL_len nx [(q.1 : Int)])); refine zaac (id := 7) Γn10_ok [] (by kernel_rfl) ?_; simp  [-List.getD_eq_getElem?_getD, -List.drop_one, ↓zaab, ↓zaaa, go_sem, hx, hs, hnl, hb, hone, (show Is cI 1 [D.int .i64 (q.1 : Int)] ↔ True by rw [one_cI, is_cat]; simp), (show de cI [D.int .i64 (q.1 : Int)] = [(q.1 : Int)] by rw [one_cI, de_cat]), hnd.1, hnd.2, (show Nd nx (q.1 : Int) = True from eq_true hnd), hrl]; try ((refine AW_data hK 24 ?_); (simp [go_sem, hrl]); (have hpl := prtB_len (xs := livL nx b) (k := q.1) (by omega)); (have hw0 : LV b5 j5 nx b q.1 0 q.2 := ⟨⟨false, by rw [g2, prtB_set0 (by omega)], by simp⟩⟩))
    | refine zaac (id := 8) Γn10_ok [] (by kernel_rfl) ?_; simp  [-List.getD_eq_getElem?_getD, -List.drop_one, ↓zaab, ↓zaaa, go_sem]
    | ((have hyn : y.1 < nx.length := (by omega)); (have hgi := gd_iff (acc := b) (s := (q.1 : Int)) hyn); (have hsl : ((prtB (livL nx b) q.1).set q.1 v).length = nx.length := (by rw [List.length_set, hpl, hll])); (have hsv : nth ((prtB (livL nx b) q.1).set q.1 v) q.1 = v := nth_set_self (by omega) v); (obtain ⟨B5, hB5⟩ : ∃ B5, (prtB (livL nx b) q.1).set q.1 v = B5 := ⟨_, rfl⟩); (rw [hB5] at hsl hsv f2)); refine zaac (id := 9) Γn10_ok [] (by kernel_rfl) ?_; simp  [-List.getD_eq_getElem?_getD, -List.drop_one, ↓zaab, ↓zaaa, go_sem, (show ¬ rchL nx [(q.1 : Int)] = [] by intro e; rw [e] at hrl; simp at hrl; omega), hrl, hnl, c27, Nat.sub_pos_of_lt c27, (show y.1 < nx.length by omega)]
    | refine zaac (id := 10) Γn10_ok [37, 39, 45] (by kernel_rfl) ?_; simp  [-List.getD_eq_getElem?_getD, -List.drop_one, ↓zaab, ↓zaaa, go_sem, f2, hsl, hsv, hnl, hcl, c27, Nat.sub_pos_of_lt c27, (show q.1 < b.length by omega), (show 0 < b.length - q.1 by omega), (show q.1 < b.length + j5 by omega), (show q.1 + 1 ≤ b.length + j5 by omega), (show ¬ b = [] by intro e; subst e; simp at c27), (show ¬ cycL nx = [] by intro e; rw [e] at hcl; simp at hcl; omega)]; try (refine ⟨fun s10a => ?_, fun s10a => ?_⟩ <;> (try simp [B_iff, B_not] at s10a) <;> try (refine ⟨fun s10b => ?_, fun s10b => ?_⟩ <;> (try simp [B_iff, B_not] at s10b) <;> try (refine ⟨fun s10c => ?_, fun s10c => ?_⟩ <;> (try simp [B_iff, B_not] at s10c) <;> try (refine ⟨fun s10d => ?_, fun s10d => ?_⟩ <;> (try simp [B_iff, B_not] at s10d)))))
    | ((refine AW_gen (fun H1 => LV b5 j5 nx b q.1 (y.1 + 1) H1) (LV.next (v := v) (v' := v || (nth (rchL nx [(q.1 : Int)]) y.1 && (nth (cycL nx) y.1 && nth b y.1))) f3 (by rw [hB5]; simp_all [upd]) (by rw [hgi]; simp [Bool.or_eq_true, Bool.and_eq_true])) fun H8 t8 => ?_)); refine zaac (id := 11) Γn10_ok [] (by kernel_rfl) ?_; simp  [-List.getD_eq_getElem?_getD, -List.drop_one, ↓zaab, ↓zaaa, go_sem, wrapS (k := y.1) (by omega)]
    | ((have e9 : y.1 = nx.length := (by omega)); (rw [e9, gd_liv] at f3); (have hv : nth (livL nx b) q.1 = v := (by rw [nth_livL (by omega), Bool.eq_iff_iff, B_iff]; exact f3.symm)); (have hst := prtB_set (xs := livL nx b) (k := q.1) (by omega) hv); (rw [hst] at f2); (refine AW_gen (fun H1 => H1 b5 = some (cat cB (prtB (livL nx b) (q.1 + 1)) ++ List.replicate j5 D.any)) f2 fun H9 t5 => ?_)); refine zaac (id := 12) Γn10_ok [] (by kernel_rfl) ?_; simp  [-List.getD_eq_getElem?_getD, -List.drop_one, ↓zaab, ↓zaaa, go_sem, wrapS (k := q.1) (by omega)]
    | ((obtain ⟨kx, Hx⟩ := q); (dsimp only at *); (obtain rfl : kx = b.length := by omega); (have hpa : prtB (livL nx b) b.length = livL nx b := (by have := prtB_all (livL nx b); rwa [hll, hnl] at this)); (rw [hpa] at g2); (refine AW_unmat 5 (b := b5) (all := cat cB (livL nx b) ++ List.replicate j5 D.any) rfl g2 (by omega) (by simp [zaaj, hll, hnl]) (by simp [zaaj, hll, hnl]; omega) ?_)); refine zaac (id := 13) Γn10_ok [] (by kernel_rfl) ?_; simp  [-List.getD_eq_getElem?_getD, -List.drop_one, ↓zaab, ↓zaaa, go_sem, hll, hnl, cat_take_app1c (f := cB) (livL nx b) (List.replicate j5 D.any) (n := b.length) (by rw [hll, hnl])]
    | refine zaaf (c := .tmp 19) ?_; simp [-List.getD_eq_getElem?_getD, -List.drop_one, ↓zaab, ↓zaaa, go_sem]; try first | (refine ⟨?_, ?_⟩ <;> change AW _ _ _ _ _ _) | (refine ⟨fun c19 => ?_, fun c19 => ?_⟩ <;> (try simp [B_iff, B_not] at c19))
    | refine zaaf (c := .tmp 27) ?_; simp [-List.getD_eq_getElem?_getD, -List.drop_one, ↓zaab, ↓zaaa, go_sem]; try first | (refine ⟨?_, ?_⟩ <;> change AW _ _ _ _ _ _) | (refine ⟨fun c27 => ?_, fun c27 => ?_⟩ <;> (try simp [B_iff, B_not] at c27))
    | (refine zaag (id := 0) (AW_loop (ι := Nat × Hp) (fun q : Nat × Hp => ⟨(upd (upd (upd (upd (upd (upd (upd (fun _ => .any) 1 (.pd [li cI a, li cB b, li cT c])) 3 (li cL nx)) 4 (li cB (cycL nx))) 5 (.sl b5 1 0 b.length c5)) 16 (li cL nx)) 17 (.int .i64 b.length)) 18 (.int .i64 q.1)), q.2⟩) (fun q => q.1 ≤ b.length ∧ q.2 b5 = some (cat cB (prtB (livL nx b) q.1) ++ List.replicate j5 D.any)) (fun q => b.length - q.1) ((0, H1)) ?_ ?_ ?_); exact ⟨Nat.zero_le _, w5⟩; ((repeat' (first | exact zaad (by assumption) | exact zaah | refine zaai ?_ ?_ | refine zaae ?_)) <;> simp [-List.getD_eq_getElem?_getD, -List.drop_one, ↓zaab, ↓zaaa, go_sem, li, hnl, hcl]); rintro q ⟨g1, g2⟩)
    | (refine ⟨(q.1 + 1, H9), ⟨by dsimp only; omega, t5⟩, by first | omega | (simp; done) | (simp; omega), ?_⟩; ((repeat' (first | exact zaad (by assumption) | exact zaah | refine zaai ?_ ?_ | refine zaae ?_)) <;> simp [-List.getD_eq_getElem?_getD, -List.drop_one, ↓zaab, ↓zaaa, go_sem, li, hnl, hcl]))
    | (refine zaag (id := 2) (AW_loop (ι := Nat × Hp) (fun y : Nat × Hp => ⟨(upd (upd (upd (upd (upd (upd (upd (upd (upd (upd (upd (fun _ => .any) 1 (.pd [li cI a, li cB b, li cT c])) 3 (li cL nx)) 4 (li cB (cycL nx))) 5 (.sl b5 1 0 b.length c5)) 6 (.int .i64 q.1)) 16 (li cL nx)) 17 (.int .i64 b.length)) 18 (.int .i64 q.1)) 24 (li cB (rchL nx [(q.1 : Int)]))) 25 (.int .i64 b.length)) 26 (.int .i64 y.1)), y.2⟩) (fun y => y.1 ≤ b.length ∧ LV b5 j5 nx b q.1 y.1 y.2) (fun y => b.length - y.1) ((0, q.2)) ?_ ?_ ?_); exact ⟨Nat.zero_le _, hw0⟩; ((repeat' (first | exact zaad (by assumption) | exact zaah | refine zaai ?_ ?_ | refine zaae ?_)) <;> simp [-List.getD_eq_getElem?_getD, -List.drop_one, ↓zaab, ↓zaaa, go_sem, li, hnl, hcl, hrl]); rintro y ⟨f1, ⟨v, f2, f3⟩⟩)
    | (refine ⟨(y.1 + 1, H8), ⟨by dsimp only; omega, t8⟩, by first | omega | (simp; done) | (simp; omega), ?_⟩; ((repeat' (first | exact zaad (by assumption) | exact zaah | refine zaai ?_ ?_ | refine zaae ?_)) <;> simp [-List.getD_eq_getElem?_getD, -List.drop_one, ↓zaab, ↓zaaa, go_sem, li, hnl, hcl, hrl]))
    | (refine zaag ?_)
    | (refine zaap ?_; simp [-List.getD_eq_getElem?_getD, -List.drop_one, ↓zaab, ↓zaaa, go_sem])
    | (refine zaan ?_; simp [-List.getD_eq_getElem?_getD, -List.drop_one, ↓zaab, ↓zaaa, go_sem])
    | (refine AW_ret ?_; simp [-List.getD_eq_getElem?_getD, -List.drop_one, ↓zaab, ↓zaaa, go_sem, Try.results125])
    | (intro hx; change AW _ _ _ _ _ _)
    | (refine ⟨?_, ?_⟩ <;> change AW _ _ _ _ _ _)
    | (intro hx; refine ⟨fun hs => ?_, fun hs => ?_⟩)
    | (refine ⟨fun hs => ?_, fun hs => ?_⟩)
    | (refine ⟨?_, fun hs => ?_⟩; change AW _ _ _ _ _ _)
    | (refine ⟨fun hs => ?_, ?_⟩; rotate_left; change AW _ _ _ _ _ _; rotate_left)))
noncomputable def live_pureC : Con := .pure fun
  | [.st [.list n_a c_a, .list n_b c_b, .list n_c c_c]] => ((Is cI n_a c_a) ∧ (Is cB n_b c_b) ∧ (Is cT n_c c_c) ∧ (InRng (de cB c_b).length (de cT c_c)) ∧ ((de cB c_b).length ≤ 1048576) ∧ ((de cT c_c).length ≤ 1048576), fr 1 cB (livL (nxE (de cB c_b).length (de cT c_c) (de cT c_c).length) (de cB c_b)))
  | _ => (False, .any)
attribute [go_sem] live_pureC
theorem live_pureC_ok : ConOk Try.prog 125 live_pureC := by
  refine ⟨zaal Try.func125 (by decide) rfl, fun args h => ?_⟩
  revert h
  dsimp only
  split
  · intro h
    obtain ⟨⟨a, rfl, rfl⟩, ⟨b, rfl, rfl⟩, ⟨c, rfl, rfl⟩, hr, hb, hc⟩ := h
    try simp only [de_cat] at *
    exact ⟨live_pure a b c hr hb hc, by simp [go_sem]⟩
  · intro h
    exact h.elim
noncomputable def Γn11 : FuncId → Con := ext Γn10 125 live_pureC
attribute [go_sem] Γn11
theorem Γn11_ok : ∀ g, ConOk Try.prog g (Γn11 g) := ext_ok Γn10_ok live_pureC_ok

end Go.Proofs.Ytkjimmkemnmajaa.Vm

