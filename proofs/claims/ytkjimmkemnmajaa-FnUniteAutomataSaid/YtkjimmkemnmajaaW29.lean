/-
  FnUniteAutomata: the walk of the law. No conditions.
-/
import Derived.Test.YtkjimmkemnmajaaU4
import Derived.Test.YtkjimmkemnmajaaY11
import Derived.Test.YtkjimmkemnmajaaSM6
namespace Go.Proofs.Ytkjimmkemnmajaa.Vm
open Go
open List renaming getD_eq_getElem?_getD → zgE, drop_one → zdO
set_option linter.unusedVariables false
set_option linter.unusedSimpArgs false
set_option maxRecDepth 200000

noncomputable def Γl3 : FuncId → Con := ext (ext (ext Γu13 50 implAc_pureC) 45 DrawUniteAutomataC) 46 DrawAcceptsC
attribute [go_sem] Γl3
theorem Γl3_ok : ∀ g, ConOk Try.prog g (Γl3 g) := zaaw (zaaw (zaaw Γu13_ok implAc_pureC_ok) DrawUniteAutomataC_ok) DrawAcceptsC_ok

set_option maxHeartbeats 8000000 in
theorem lawFnUn (xs : List UInt8) (ys : List UInt8)  : Pure Try.prog 8 [li cY xs, li cY ys] (.bool true) := by
  refine Pure.of_walk Try.func8 rfl (by simp [Try.f8]) (by simp [-zdO, go_sem]) fun B hK => ?_
  (repeat' (first
    | refine AW_seq ?_
    | refine zaac (id := 0) Γl3_ok [] (by kernel_rfl) ?_; simp  [-zgE, -zdO, ↓zaab, ↓zaaa, go_sem]
    | refine zaac (id := 1) Γl3_ok [22] (by kernel_rfl) ?_; simp  [-zgE, -zdO, ↓zaab, ↓zaaa, go_sem]; try (refine ⟨fun s1a => ?_, fun s1a => ?_⟩ <;> (try simp [B_iff, B_not] at s1a) <;> try (refine ⟨fun s1b => ?_, fun s1b => ?_⟩ <;> (try simp [B_iff, B_not] at s1b)))
    | refine zaac (id := 2) Γl3_ok [] (by kernel_rfl) ?_; simp  [-zgE, -zdO, ↓zaab, ↓zaaa, go_sem]
    | refine zaac (id := 3) Γl3_ok [] (by kernel_rfl) ?_; simp  [-zgE, -zdO, ↓zaab, ↓zaaa, go_sem]; try ((intro c3); (have y0 : AuM (DrawUniteAutomata_sel xs c3).1 ∧ AuM (DrawUniteAutomata_sel xs c3).2 := DrawUniteAutomata_ok xs c3); (generalize (DrawUniteAutomata_sel xs c3) = z at *); (obtain ⟨⟨a, b, c⟩, ⟨a', b', c'⟩⟩ := z); (obtain ⟨⟨y1, y2, y3, y4⟩, ⟨z1, z2, z3, z4⟩⟩ := y0); (dsimp only at y1 y2 y3 y4 z1 z2 z3 z4 ⊢); (have hS : AllSmall c := y4); (have hS' : AllSmall c' := z4); (refine AW_data hK 5 ?_); (simp [go_sem]); (refine AW_data hK 6 ?_); (simp [go_sem]))
    | refine zaac (id := 4) Γl3_ok [] (by kernel_rfl) ?_; simp  [-zgE, -zdO, ↓zaab, ↓zaaa, go_sem]; try ((intro c4); (have x0 : AuM (DrawAccepts_sel ys c4).1 ∧ _ := DrawAccepts_ok ys c4); (clear x0); (generalize (DrawAccepts_sel ys c4) = v at *); (obtain ⟨⟨va, vb, vc⟩, ⟨s, l⟩⟩ := v); (dsimp only); (refine AW_data hK 7 ?_); (simp [go_sem]); (refine AW_data hK 8 ?_); (simp [go_sem]); (cases hU : Vm.B (UnOk a b c a' b' c')))
    | refine zaac (id := 5) Γl3_ok [] (by kernel_rfl) ?_; simp  [-zgE, -zdO, ↓zaab, ↓zaaa, go_sem, hU, hS, hS']; try ((refine AW_data hK 9 ?_); (simp [go_sem, dat, datL, datL_map, cat_flat2]))
    | refine zaac (id := 6) Γl3_ok [] (by kernel_rfl) ?_; simp  [-zgE, -zdO, ↓zaab, ↓zaaa, go_sem, hU, hS, hS']; try ((refine AW_data hK 11 ?_); (simp [go_sem, dat, datL, datL_map, cat_flat2]))
    | refine zaac (id := 7) Γl3_ok [52, 58] (by kernel_rfl) ?_; simp  [-zgE, -zdO, ↓zaab, ↓zaaa, go_sem]; try (refine ⟨fun s7a => ?_, fun s7a => ?_⟩ <;> (try simp [B_iff, B_not] at s7a) <;> try (refine ⟨fun s7b => ?_, fun s7b => ?_⟩ <;> (try simp [B_iff, B_not] at s7b) <;> try (refine ⟨fun s7c => ?_, fun s7c => ?_⟩ <;> (try simp [B_iff, B_not] at s7c))))
    | refine zaac (id := 8) Γl3_ok [65] (by kernel_rfl) ?_; simp  [-zgE, -zdO, ↓zaab, ↓zaaa, go_sem]; try (refine ⟨fun s8a => ?_, fun s8a => ?_⟩ <;> (try simp [B_iff, B_not] at s8a) <;> try (refine ⟨fun s8b => ?_, fun s8b => ?_⟩ <;> (try simp [B_iff, B_not] at s8b)))
    | ((have hUn : UnOk a b c a' b' c' := (by rw [B_iff] at hU; exact hU)); (have e1 := ask_las (s := s) (l := l) hUn.1); (have e2 := ask_las (s := s) (l := l) hUn.2.1); (have e3 := ask_las (s := s) (l := l) hUn.third); (have e4 := acR_uni hUn s l); (have hu := uT_small hS hS' b.length); (have hbl := hUn.2.2.2.1)); refine zaac (id := 9) Γl3_ok [] (by kernel_rfl) ?_; simp  [-zgE, -zdO, ↓zaab, ↓zaaa, go_sem, hS]
    | refine zaac (id := 10) Γl3_ok [] (by kernel_rfl) ?_; simp  [-zgE, -zdO, ↓zaab, ↓zaaa, go_sem, hS']
    | refine zaac (id := 11) Γl3_ok [] (by kernel_rfl) ?_; simp  [-zgE, -zdO, ↓zaab, ↓zaaa, go_sem, hu, uI_len, uT_len]
    | refine zaac (id := 12) Γl3_ok [91, 96, 99, 104] (by kernel_rfl) ?_; simp  [-zgE, -zdO, ↓zaab, ↓zaaa, go_sem, e1, e2, e3, e4, zaan (x := (b.length : Int) + (b'.length : Int)) (by omega) (by omega)]; try (refine ⟨fun s12a => ?_, fun s12a => ?_⟩ <;> (try simp [B_iff, B_not] at s12a) <;> try (refine ⟨fun s12b => ?_, fun s12b => ?_⟩ <;> (try simp [B_iff, B_not] at s12b) <;> try (refine ⟨fun s12c => ?_, fun s12c => ?_⟩ <;> (try simp [B_iff, B_not] at s12c) <;> try (refine ⟨fun s12d => ?_, fun s12d => ?_⟩ <;> (try simp [B_iff, B_not] at s12d) <;> try (refine ⟨fun s12e => ?_, fun s12e => ?_⟩ <;> (try simp [B_iff, B_not] at s12e))))))
    | refine zaad (c := .tmp 26) ?_; simp [-zgE, -zdO, ↓zaab, ↓zaaa, go_sem]; try first | (refine ⟨?_, ?_⟩ <;> change AW _ _ _ _ _ _) | (refine ⟨fun c26 => ?_, fun c26 => ?_⟩ <;> (try simp [B_iff, B_not] at c26))
    | refine zaad (c := .tmp 61) ?_; simp [-zgE, -zdO, ↓zaab, ↓zaaa, go_sem]; try first | (refine ⟨?_, ?_⟩ <;> change AW _ _ _ _ _ _) | (refine ⟨fun c61 => ?_, fun c61 => ?_⟩ <;> (try simp [B_iff, B_not] at c61))
    | (refine zaag ?_)
    | (refine zaap ?_; simp [-zgE, -zdO, ↓zaab, ↓zaaa, go_sem])
    | (refine zaao ?_; simp [-zgE, -zdO, ↓zaab, ↓zaaa, go_sem])
    | (refine AW_ret ?_; simp [-zgE, -zdO, ↓zaab, ↓zaaa, go_sem, Try.results8])
    | (intro hx; change AW _ _ _ _ _ _)
    | (refine ⟨?_, ?_⟩ <;> change AW _ _ _ _ _ _)
    | (intro hx; refine ⟨fun hs => ?_, fun hs => ?_⟩)
    | (refine ⟨fun hs => ?_, fun hs => ?_⟩)
    | (refine ⟨?_, fun hs => ?_⟩; change AW _ _ _ _ _ _)
    | (refine ⟨fun hs => ?_, ?_⟩; rotate_left; change AW _ _ _ _ _ _; rotate_left)))
  all_goals (first
    | (simp_all; done)
    | skip)

end Go.Proofs.Ytkjimmkemnmajaa.Vm

