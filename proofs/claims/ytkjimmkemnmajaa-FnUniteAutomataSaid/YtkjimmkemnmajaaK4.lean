/-
  Accepts, both ways. No conditions.
-/
import Derived.Test.YtkjimmkemnmajaaK3
namespace Go.Proofs.Ytkjimmkemnmajaa.Vm
open Go
open List renaming getD_eq_getElem?_getD → zgE, drop_one → zdO
set_option linter.unusedVariables false
set_option linter.unusedSimpArgs false
set_option maxRecDepth 200000

def AcAsk (a : List Int) (b : List Bool) (c : List Tr4) (s l : List Int) : Prop := AutOk a b.length c ∧ LasOk s l
noncomputable def acR (a : List Int) (b : List Bool) (c : List Tr4) (s l : List Int) : Bool := B (AcAsk a b c s l) && B (Acp b.length b a (aAll b.length c s l))
theorem acR_no {a : List Int} {b : List Bool} {c : List Tr4} {s l : List Int} (h : ¬ AcAsk a b c s l) : acR a b c s l = false := by rw [acR, B_no h]; rfl
theorem acR_yes {a : List Int} {b : List Bool} {c : List Tr4} {s l : List Int} (h : AcAsk a b c s l) : acR a b c s l = B (Acp b.length b a (aAll b.length c s l)) := by rw [acR, B_yes h]; rfl
set_option maxHeartbeats 2000000 in

theorem implAc_pure (a : List Int) (b : List Bool) (c : List Tr4) (s : List Int) (l : List Int) (hS : AllSmall c) : Pure Try.prog 50 [.st [li cI a, li cB b, li cT c], .st [li cI s, li cI l]] (.tup [.bool (acR a b c s l), .bool (B (AcAsk a b c s l))]) := by
  refine Pure.of_walk Try.func50 rfl (by simp [Try.f50]) (by simp [-zdO, go_sem]) fun B hK => ?_
  cases hg : Vm.B (AutOk a b.length c) <;> cases hg2 : Vm.B (LasOk s l)
  all_goals (repeat' (first
    | refine AW_seq ?_
    | refine zaac (id := 0) Γk18_ok [] (by kernel_rfl) ?_; simp  [-zgE, -zdO, ↓zaab, ↓zaaa, go_sem]; try ((refine AW_data hK 2 ?_); (refine AW_data hK 3 ?_); simp [go_sem])
    | refine zaac (id := 1) Γk18_ok [9] (by kernel_rfl) ?_; simp  [-zgE, -zdO, ↓zaab, ↓zaaa, go_sem, hg, hg2, hS]; try (refine ⟨fun s1a => ?_, fun s1a => ?_⟩ <;> (try simp [B_iff, B_not] at s1a) <;> try (refine ⟨fun s1b => ?_, fun s1b => ?_⟩ <;> (try simp [B_iff, B_not] at s1b)))
    | refine zaac (id := 2) Γk18_ok [] (by kernel_rfl) ?_; simp  [-zgE, -zdO, ↓zaab, ↓zaaa, go_sem]
    | ((have hA : AutOk a b.length c := (by rw [B_iff] at hg; exact hg)); (have hL : LasOk s l := (by rw [B_iff] at hg2; exact hg2))); refine zaac (id := 3) Γk18_ok [] (by kernel_rfl) ?_; simp  [-zgE, -zdO, ↓zaab, ↓zaaa, go_sem, hA, hL]
    | refine zaad (c := .tmp 13) ?_; simp [-zgE, -zdO, ↓zaab, ↓zaaa, go_sem]; try first | (refine ⟨?_, ?_⟩ <;> change AW _ _ _ _ _ _) | (refine ⟨fun c13 => ?_, fun c13 => ?_⟩ <;> (try simp [B_iff, B_not] at c13))
    | (refine zaag ?_)
    | (refine zaap ?_; simp [-zgE, -zdO, ↓zaab, ↓zaaa, go_sem])
    | (refine zaao ?_; simp [-zgE, -zdO, ↓zaab, ↓zaaa, go_sem])
    | (refine AW_ret ?_; simp [-zgE, -zdO, ↓zaab, ↓zaaa, go_sem, Try.results50])
    | (intro hx; change AW _ _ _ _ _ _)
    | (refine ⟨?_, ?_⟩ <;> change AW _ _ _ _ _ _)
    | (intro hx; refine ⟨fun hs => ?_, fun hs => ?_⟩)
    | (refine ⟨fun hs => ?_, fun hs => ?_⟩)
    | (refine ⟨?_, fun hs => ?_⟩; change AW _ _ _ _ _ _)
    | (refine ⟨fun hs => ?_, ?_⟩; rotate_left; change AW _ _ _ _ _ _; rotate_left)))
  all_goals (first
    | (have hn : ¬ AcAsk a b c s l := (fun h => by first | (have := B_yes h.1; rw [hg] at this; cases this; done) | (have := B_yes h.2; rw [hg2] at this; cases this; done)); exact ⟨acR_no hn, hn⟩)
    | (have hn : ¬ AcAsk a b c s l := (fun h => by first | (have := B_yes h.1; rw [hg] at this; cases this; done) | (have := B_yes h.2; rw [hg2] at this; cases this; done)); simp [acR_no hn, B_no hn]; done)
    | (exact ⟨(acR_yes ⟨hA, hL⟩).symm, ⟨hA, hL⟩⟩)
    | skip)
noncomputable def implAc_pureC : Con := .pure fun
  | [.st [.list n_a c_a, .list n_b c_b, .list n_c c_c], .st [.list n_s c_s, .list n_l c_l]] => ((Is cI n_a c_a) ∧ (Is cB n_b c_b) ∧ (Is cT n_c c_c) ∧ (Is cI n_s c_s) ∧ (Is cI n_l c_l) ∧ (AllSmall (de cT c_c)), .tup [.bool (acR (de cI c_a) (de cB c_b) (de cT c_c) (de cI c_s) (de cI c_l)), .bool (B (AcAsk (de cI c_a) (de cB c_b) (de cT c_c) (de cI c_s) (de cI c_l)))])
  | _ => (False, .any)
attribute [go_sem] implAc_pureC
theorem implAc_pureC_ok : ConOk Try.prog 50 implAc_pureC := by
  refine ⟨zaal Try.func50 (by decide) rfl, fun args h => ?_⟩
  revert h
  dsimp only
  split
  · intro h
    obtain ⟨⟨a, rfl, rfl⟩, ⟨b, rfl, rfl⟩, ⟨c, rfl, rfl⟩, ⟨s, rfl, rfl⟩, ⟨l, rfl, rfl⟩, hS⟩ := h
    try simp only [de_cat] at *
    exact ⟨implAc_pure a b c s l hS, by simp [go_sem]⟩
  · intro h
    exact h.elim
end Go.Proofs.Ytkjimmkemnmajaa.Vm

