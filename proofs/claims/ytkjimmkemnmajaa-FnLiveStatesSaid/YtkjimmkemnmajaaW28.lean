/-
  FnLiveStates: the walk of the law. No conditions.
-/
import Derived.Test.YtkjimmkemnmajaaN9
import Derived.Test.YtkjimmkemnmajaaY9
import Derived.Test.YtkjimmkemnmajaaSM3
namespace Go.Proofs.Ytkjimmkemnmajaa.Vm
open Go
set_option linter.unusedVariables false
set_option linter.unusedSimpArgs false
set_option maxRecDepth 200000

noncomputable def Γl1 : FuncId → Con := ext Γn13 42 DrawLiveStatesC
attribute [go_sem] Γl1
theorem Γl1_ok : ∀ g, ConOk Try.prog g (Γl1 g) := ext_ok Γn13_ok DrawLiveStatesC_ok
theorem lsL_ok {a : List Int} {b : List Bool} {c : List Tr4} (h : ¬ lsL a b c = []) : AutOk a b.length c := by
  cases hg : Vm.B (AutOk a b.length c) with
  | true => rw [B_iff] at hg; exact hg
  | false => exact absurd (lsL_no hg) h
theorem lsL_ors {a : List Int} {b : List Bool} {c : List Tr4} (h : ¬ lsL a b c = []) : (lsL a b c).length = b.length ∧ orsE (lsL a b c) b.length c c.length = lsL a b c := by
  have hG := lsL_ok h
  rw [lsL_yes (B_yes hG)]
  exact ⟨by rw [livL_len, nxE_len _ _ _ (Nat.le_refl _)], ors_live hG.rng b⟩

set_option maxHeartbeats 8000000 in
theorem lawFnLs (xs : List UInt8)  : Pure Try.prog 7 [li cY xs] (.bool true) := by
  refine Pure.of_walk Try.func7 rfl (by simp [Try.f7]) (by simp [-List.drop_one, go_sem]) fun B hK => ?_
  (repeat' (first
    | refine AW_seq ?_
    | refine zaac (id := 0) Γl1_ok [] (by kernel_rfl) ?_; simp  [-List.getD_eq_getElem?_getD, -List.drop_one, ↓zaab, ↓zaaa, go_sem]
    | refine zaac (id := 1) Γl1_ok [] (by kernel_rfl) ?_; simp  [-List.getD_eq_getElem?_getD, -List.drop_one, ↓zaab, ↓zaaa, go_sem]
    | refine zaac (id := 2) Γl1_ok [] (by kernel_rfl) ?_; simp  [-List.getD_eq_getElem?_getD, -List.drop_one, ↓zaab, ↓zaaa, go_sem]
    | refine zaac (id := 3) Γl1_ok [] (by kernel_rfl) ?_; simp  [-List.getD_eq_getElem?_getD, -List.drop_one, ↓zaab, ↓zaaa, go_sem]; try ((intro c3); (have y0 : AuM (DrawLiveStates_sel xs c3) := DrawLiveStates_ok xs c3); (generalize (DrawLiveStates_sel xs c3) = z at *); (obtain ⟨a, b, c⟩ := z); (obtain ⟨y1, y2, y3, y4⟩ := y0); (dsimp only at y1 y2 y3); (have hS : AllSmall c := y4); (refine AW_data hK 3 ?_); (simp [go_sem]); (by_cases hW : lsL a b c = []))
    | refine zaac (id := 4) Γl1_ok [] (by kernel_rfl) ?_; simp  [-List.getD_eq_getElem?_getD, -List.drop_one, ↓zaab, ↓zaaa, go_sem, hS, hW]; try ((refine AW_data hK 4 ?_); (simp [go_sem, dat, datL, cat_flat2]))
    | refine zaac (id := 5) Γl1_ok [] (by kernel_rfl) ?_; simp  [-List.getD_eq_getElem?_getD, -List.drop_one, ↓zaab, ↓zaaa, go_sem, hS, hW]; try ((refine AW_data hK 5 ?_); (simp [go_sem]))
    | ((have hll := lsL_len a b c)); refine zaac (id := 6) Γl1_ok [23] (by kernel_rfl) ?_; simp  [-List.getD_eq_getElem?_getD, -List.drop_one, ↓zaab, ↓zaaa, go_sem, hW]; try (refine ⟨fun s6a => ?_, fun s6a => ?_⟩ <;> (try simp [B_iff, B_not] at s6a) <;> try (refine ⟨fun s6b => ?_, fun s6b => ?_⟩ <;> (try simp [B_iff, B_not] at s6b)))
    | refine zaac (id := 7) Γl1_ok [] (by kernel_rfl) ?_; simp  [-List.getD_eq_getElem?_getD, -List.drop_one, ↓zaab, ↓zaaa, go_sem]
    | ((have hG := lsL_ok hW); (have hr := hG.rng); (obtain ⟨ho1, ho2⟩ := lsL_ors hW); (obtain ⟨L, hL⟩ : ∃ L, lsL a b c = L := ⟨_, rfl⟩); (rw [hL] at ho1 ho2 hW hll ⊢); (have hol := fun k hk => orsE_len L b.length c k hk)); refine zaac (id := 8) Γl1_ok [] (by kernel_rfl) ?_; simp  [-List.getD_eq_getElem?_getD, -List.drop_one, ↓zaab, ↓zaaa, go_sem, make_cB, (by omega : (L.length : Int) ≤ 281474976710656), (by omega : (L.length : Int) ≤ 9223372036854775807)]; try ((refine AW_mat 6 rfl fun nb cp j hnb hcp hcj => ?_); (clear hnb); (refine AW_gen (fun H1 => H1 nb = some (cat cB (orsE L b.length c 0) ++ List.replicate j D.any)) (by simp [upd, orsE_zero, ho1]) fun H1 w1 => ?_))
    | refine zaac (id := 9) Γl1_ok [] (by kernel_rfl) ?_; simp  [-List.getD_eq_getElem?_getD, -List.drop_one, ↓zaab, ↓zaaa, go_sem]
    | refine zaac (id := 10) Γl1_ok [] (by kernel_rfl) ?_; simp  [-List.getD_eq_getElem?_getD, -List.drop_one, ↓zaab, ↓zaaa, go_sem]
    | ((obtain ⟨⟨p0, p1⟩, v0, v1⟩ := hr q.1 c40); (have hst := orsE_succ (L := L) (n := b.length) c40); (have hok := hol q.1 g1); (obtain ⟨f, hf⟩ : ∃ f, (nth c q.1).1 = f := ⟨_, rfl⟩); (obtain ⟨t, ht⟩ : ∃ t, (nth c q.1).2.2.2 = t := ⟨_, rfl⟩); (rw [hf] at p0 p1 hst); (rw [ht] at v0 v1 hst)); refine AW_region_draw (id := 12) Γl1_ok mixed [59] [6, 3, 7] (by kernel_rfl) (by kernel_rfl) (by simp [-List.getD_eq_getElem?_getD, -List.drop_one, ↓zaab, ↓zaaa, go_sem, c40, zaas c40, Nat.sub_pos_of_lt c40, g2, hf, ht, p0, p1, v0, v1, hok, (show f.toNat < b.length by omega), (show t.toNat < b.length by omega), (show f.toNat < b.length + j by omega), (show f.toNat + 1 ≤ b.length + j by omega), (show f.toNat < L.length by omega), (show t.toNat < L.length by omega), (show f < (L.length : Int) by omega), (show t < (L.length : Int) by omega), hW, (show 0 < L.length - t.toNat by omega)]) ?_; simp  [-List.getD_eq_getElem?_getD, -List.drop_one, ↓zaab, ↓zaaa, go_sem, c40, zaas c40, Nat.sub_pos_of_lt c40, g2, hf, ht, p0, p1, v0, v1, hok, (show f.toNat < b.length by omega), (show t.toNat < b.length by omega), (show f.toNat < b.length + j by omega), (show f.toNat + 1 ≤ b.length + j by omega), (show f.toNat < L.length by omega), (show t.toNat < L.length by omega), (show f < (L.length : Int) by omega), (show t < (L.length : Int) by omega), hW, (show 0 < L.length - t.toNat by omega)]; try (refine ⟨fun s12a => ?_, fun s12a => ?_⟩ <;> (try simp [B_iff, B_not] at s12a) <;> try (refine ⟨fun s12b => ?_, fun s12b => ?_⟩ <;> (try simp [B_iff, B_not] at s12b)))
    | ((refine AW_gen (fun H1 => H1 nb = some (cat cB (orsE L b.length c (q.1 + 1)) ++ List.replicate j D.any)) (by simp [upd, hst, s12a]) fun H9 t9 => ?_)); refine zaac (id := 11) Γl1_ok [] (by kernel_rfl) ?_; simp  [-List.getD_eq_getElem?_getD, -List.drop_one, ↓zaab, ↓zaaa, go_sem, wrapS (k := q.1) (by omega)]
    | ((obtain ⟨k, H2⟩ := q); (dsimp only at *); (obtain rfl : k = c.length := by omega); (rw [ho2] at g2)); refine zaac (id := 13) Γl1_ok [] (by kernel_rfl) ?_; simp  [-List.getD_eq_getElem?_getD, -List.drop_one, ↓zaab, ↓zaaa, go_sem]
    | refine zaac (id := 14) Γl1_ok [] (by kernel_rfl) ?_; simp  [-List.getD_eq_getElem?_getD, -List.drop_one, ↓zaab, ↓zaaa, go_sem]
    | refine AW_region_draw (id := 16) Γl1_ok mixed [86] [8] (by kernel_rfl) (by kernel_rfl) (by simp [-List.getD_eq_getElem?_getD, -List.drop_one, ↓zaab, ↓zaaa, go_sem, c74, zaas c74, Nat.sub_pos_of_lt c74, g2, (show i < L.length + j by omega)]) ?_; simp  [-List.getD_eq_getElem?_getD, -List.drop_one, ↓zaab, ↓zaaa, go_sem, c74, zaas c74, Nat.sub_pos_of_lt c74, g2, (show i < L.length + j by omega)]; try (refine ⟨fun s16a => ?_, fun s16a => ?_⟩ <;> (try simp [B_iff, B_not] at s16a) <;> try (refine ⟨fun s16b => ?_, fun s16b => ?_⟩ <;> (try simp [B_iff, B_not] at s16b)))
    | refine zaac (id := 17) Γl1_ok [] (by kernel_rfl) ?_; simp  [-List.getD_eq_getElem?_getD, -List.drop_one, ↓zaab, ↓zaaa, go_sem]
    | refine zaac (id := 15) Γl1_ok [] (by kernel_rfl) ?_; simp  [-List.getD_eq_getElem?_getD, -List.drop_one, ↓zaab, ↓zaaa, go_sem, wrapS (k := i) (by omega)]
    | refine zaac (id := 18) Γl1_ok [] (by kernel_rfl) ?_; simp  [-List.getD_eq_getElem?_getD, -List.drop_one, ↓zaab, ↓zaaa, go_sem]
    | refine zaaf (c := .tmp 11) ?_; simp [-List.getD_eq_getElem?_getD, -List.drop_one, ↓zaab, ↓zaaa, go_sem]; try first | (refine ⟨?_, ?_⟩ <;> change AW _ _ _ _ _ _) | (refine ⟨fun c11 => ?_, fun c11 => ?_⟩ <;> (try simp [B_iff, B_not] at c11))
    | refine zaaf (c := .tmp 27) ?_; simp [-List.getD_eq_getElem?_getD, -List.drop_one, ↓zaab, ↓zaaa, go_sem]; try first | (refine ⟨?_, ?_⟩ <;> change AW _ _ _ _ _ _) | (refine ⟨fun c27 => ?_, fun c27 => ?_⟩ <;> (try simp [B_iff, B_not] at c27))
    | refine zaaf (c := .tmp 40) ?_; simp [-List.getD_eq_getElem?_getD, -List.drop_one, ↓zaab, ↓zaaa, go_sem]; try first | (refine ⟨?_, ?_⟩ <;> change AW _ _ _ _ _ _) | (refine ⟨fun c40 => ?_, fun c40 => ?_⟩ <;> (try simp [B_iff, B_not] at c40))
    | refine zaaf (c := .tmp 74) ?_; simp [-List.getD_eq_getElem?_getD, -List.drop_one, ↓zaab, ↓zaaa, go_sem]; try first | (refine ⟨?_, ?_⟩ <;> change AW _ _ _ _ _ _) | (refine ⟨fun c74 => ?_, fun c74 => ?_⟩ <;> (try simp [B_iff, B_not] at c74))
    | refine zaaf (c := .tmp 96) ?_; simp [-List.getD_eq_getElem?_getD, -List.drop_one, ↓zaab, ↓zaaa, go_sem]; try first | (refine ⟨?_, ?_⟩ <;> change AW _ _ _ _ _ _) | (refine ⟨fun c96 => ?_, fun c96 => ?_⟩ <;> (try simp [B_iff, B_not] at c96))
    | (refine zaag (id := 0) (AW_loop (ι := Nat × Hp) (fun q : Nat × Hp => ⟨(upd (upd (upd (upd (upd (fun _ => .any) 3 (.pd [li cI a, li cB b, li cT c])) 4 (li cB L)) 5 (li cB L)) 6 (.sl nb 1 0 L.length cp)) 7 (.int .i64 q.1)), q.2⟩) (fun q => q.1 ≤ c.length ∧ q.2 nb = some (cat cB (orsE L b.length c q.1) ++ List.replicate j D.any)) (fun q => c.length - q.1) ((0, H1)) ?_ ?_ ?_); exact ⟨Nat.zero_le _, w1⟩; ((repeat' (first | exact zaad (by assumption) | exact zaah | refine zaai ?_ ?_ | refine zaae ?_)) <;> simp [-List.getD_eq_getElem?_getD, -List.drop_one, ↓zaab, ↓zaaa, go_sem]); rintro q ⟨g1, g2⟩)
    | (refine ⟨(q.1 + 1, H9), ⟨by dsimp only; omega, t9⟩, by first | omega | (simp; done) | (simp; omega), ?_⟩; ((repeat' (first | exact zaad (by assumption) | exact zaah | refine zaai ?_ ?_ | refine zaae ?_)) <;> simp [-List.getD_eq_getElem?_getD, -List.drop_one, ↓zaab, ↓zaaa, go_sem]))
    | (refine zaag (id := 2) (AW_loop (ι := Nat) (fun i : Nat => ⟨(upd (upd (upd (upd (upd (fun _ => .any) 3 (.pd [li cI a, li cB b, li cT c])) 4 (li cB L)) 5 (li cB L)) 6 (.sl nb 1 0 L.length cp)) 8 (.int .i64 i)), H2⟩) (fun i => i ≤ L.length) (fun i => L.length - i) (0) ?_ ?_ ?_); exact Nat.zero_le _; ((repeat' (first | exact zaad (by assumption) | exact zaah | refine zaai ?_ ?_ | refine zaae ?_)) <;> simp [-List.getD_eq_getElem?_getD, -List.drop_one, ↓zaab, ↓zaaa, go_sem]); rintro i hi)
    | (refine ⟨i + 1, by omega, by first | omega | (simp; done) | (simp; omega), ?_⟩; ((repeat' (first | exact zaad (by assumption) | exact zaah | refine zaai ?_ ?_ | refine zaae ?_)) <;> simp [-List.getD_eq_getElem?_getD, -List.drop_one, ↓zaab, ↓zaaa, go_sem]))
    | (refine zaag ?_)
    | (refine zaap ?_; simp [-List.getD_eq_getElem?_getD, -List.drop_one, ↓zaab, ↓zaaa, go_sem])
    | (refine zaan ?_; simp [-List.getD_eq_getElem?_getD, -List.drop_one, ↓zaab, ↓zaaa, go_sem])
    | (refine AW_ret ?_; simp [-List.getD_eq_getElem?_getD, -List.drop_one, ↓zaab, ↓zaaa, go_sem, Try.results7])
    | (intro hx; change AW _ _ _ _ _ _)
    | (refine ⟨?_, ?_⟩ <;> change AW _ _ _ _ _ _)
    | (intro hx; refine ⟨fun hs => ?_, fun hs => ?_⟩)
    | (refine ⟨fun hs => ?_, fun hs => ?_⟩)
    | (refine ⟨?_, fun hs => ?_⟩; change AW _ _ _ _ _ _)
    | (refine ⟨fun hs => ?_, ?_⟩; rotate_left; change AW _ _ _ _ _ _; rotate_left)))

end Go.Proofs.Ytkjimmkemnmajaa.Vm

