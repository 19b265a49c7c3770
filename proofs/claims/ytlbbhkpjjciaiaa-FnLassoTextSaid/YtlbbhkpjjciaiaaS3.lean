/-
  Marks: what the law writes into memory, and looks for. No conditions.
-/
import Derived.Test.YtlbbhkpjjciaiaaS2
namespace Go.Proofs.Ytlbbhkpjjciaiaa.Vm
open Go
set_option linter.unusedVariables false
set_option linter.unusedSimpArgs false
set_option maxRecDepth 200000

/-- n numbers from k on. -/
def marks (k : Int) (n : Nat) : List Int := (List.range n).map fun (i : Nat) => k + i
theorem marks_len (k : Int) (n : Nat) : (marks k n).length = n := by simp [marks]
theorem nth_marks {k : Int} {n i : Nat} (h : i < n) : nth (marks k n) i = k + i := by rw [nth_lt (by rw [marks_len]; exact h)]; simp [marks]
/-- The list, its first i numbers marked. -/
def mk (k : Int) (xs : List Int) (i : Nat) : List Int := marks k i ++ xs.drop i
theorem mk_zero (k : Int) (xs : List Int) : mk k xs 0 = xs := by simp [mk, marks]
theorem mk_all (k : Int) (xs : List Int) : mk k xs xs.length = marks k xs.length := by simp [mk]
theorem mk_len {k : Int} {xs : List Int} {i : Nat} (h : i < xs.length) : (mk k xs i).length = xs.length := by simp [mk, marks_len]; omega
theorem mk_store {k : Int} {xs : List Int} {i : Nat} (h : i < xs.length) (junk : List D) : stSeg (cat cI (mk k xs i) ++ junk) i [.int .i64 (k + i)] = cat cI (mk k xs (i + 1)) ++ junk := by
  unfold stSeg
  have e : cat cI (mk k xs i) ++ junk = cat cI (marks k i) ++ (cat cI (xs.drop i) ++ junk) := by rw [mk, cat_append, List.append_assoc]
  have l : (cat cI (marks k i)).length = i := by rw [cat_length, marks_len]; omega
  have q := setSeg_app (cat cI (marks k i)) [.int .i64 (k + i)] (cat cI (xs.drop i) ++ junk) (by rw [List.length_append, cat_length]; simp; omega)
  rw [l] at q
  rw [e, q, cat_split h, mk]
  have m : marks k (i + 1) = marks k i ++ [k + i] := by simp [marks, List.range_succ]
  rw [m, cat_append, cat_append, cat_one]
  simp [cI]
@[go_sem] theorem cat_drop_app1 {α : Type} {f : α → List D} [Wide f 1] (xs : List α) (ys : List D) : (cat f xs ++ ys).drop xs.length = ys := by
  have := cat_length (f := f) xs
  rw [Nat.mul_one] at this
  rw [← this, List.drop_left']; rfl

theorem markI_spec (xs : List Int) (k : Int) (b cp : Nat) (junk : List D) (H : Hp) (hH : H b = some (cat cI xs ++ junk)) (h0 : 0 ≤ k) (h1 : k + xs.length ≤ 1099511627776) :
    Spec Try.prog 63 [.sl b 1 0 xs.length cp, .int .i64 k] H (.int .i64 (k + xs.length)) (upd H b (some (cat cI (marks k xs.length) ++ junk))) := by
  refine Spec.of_walk Try.func63 rfl (by simp [Try.f63]) fun B => ?_
  (repeat' (first
    | refine AW_seq ?_
    | refine AW_region (id := 0) Γs18_ok [] (by kernel_rfl) ?_; simp  [-List.getD_eq_getElem?_getD, -List.drop_one, ↓splitB_true, ↓splitB_false, go_sem]
    | refine AW_region (id := 1) Γs18_ok [] (by kernel_rfl) ?_; simp  [-List.getD_eq_getElem?_getD, -List.drop_one, ↓splitB_true, ↓splitB_false, go_sem]
    | refine AW_region (id := 2) Γs18_ok [] (by kernel_rfl) ?_; simp  [-List.getD_eq_getElem?_getD, -List.drop_one, ↓splitB_true, ↓splitB_false, go_sem]
    | refine AW_region (id := 4) Γs18_ok [] (by kernel_rfl) ?_; simp  [-List.getD_eq_getElem?_getD, -List.drop_one, ↓splitB_true, ↓splitB_false, go_sem, c9, ne_nil c9, Nat.sub_pos_of_lt c9, mk_len c9, mk_store c9, (show i + 1 ≤ xs.length + junk.length by omega), (show i < xs.length + junk.length by omega)]
    | refine AW_region (id := 5) Γs18_ok [] (by kernel_rfl) ?_; simp  [-List.getD_eq_getElem?_getD, -List.drop_one, ↓splitB_true, ↓splitB_false, go_sem, wrap_in (x := k + (i : Int) + 1) (by omega) (by omega)]
    | refine AW_region (id := 3) Γs18_ok [] (by kernel_rfl) ?_; simp  [-List.getD_eq_getElem?_getD, -List.drop_one, ↓splitB_true, ↓splitB_false, go_sem, wrapS (k := i) (by omega)]
    | refine AW_region (id := 6) Γs18_ok [] (by kernel_rfl) ?_; simp  [-List.getD_eq_getElem?_getD, -List.drop_one, ↓splitB_true, ↓splitB_false, go_sem]
    | refine AW_condA (c := .tmp 9) ?_; simp [-List.getD_eq_getElem?_getD, -List.drop_one, ↓splitB_true, ↓splitB_false, go_sem]; try first | (refine ⟨?_, ?_⟩ <;> change AW _ _ _ _ _ _) | (refine ⟨fun c9 => ?_, fun c9 => ?_⟩ <;> (try simp [B_iff, B_not] at c9))
    | (refine AW_block (id := 0) (AW_loop (ι := Nat) (fun i : Nat => ⟨(upd (upd (upd (fun _ => .any) 0 (.sl b 1 0 xs.length cp)) 1 (.int .i64 (k + i))) 5 (.int .i64 i)), upd H b (some (cat cI (mk k xs i) ++ junk))⟩) (fun i => i ≤ xs.length) (fun i => xs.length - i) (0) ?_ ?_ ?_); exact Nat.zero_le _; ((repeat' (first | exact sub_noneH (by assumption) | exact sub_none | refine sub_upd ?_ ?_ | refine sub_noneE ?_)) <;> simp [-List.getD_eq_getElem?_getD, -List.drop_one, ↓splitB_true, ↓splitB_false, go_sem, mk_zero, upd_self hH]); rintro i hi)
    | (refine ⟨i + 1, by omega, by first | omega | (simp; done) | (simp; omega), ?_⟩; ((repeat' (first | exact sub_noneH (by assumption) | exact sub_none | refine sub_upd ?_ ?_ | refine sub_noneE ?_)) <;> simp [-List.getD_eq_getElem?_getD, -List.drop_one, ↓splitB_true, ↓splitB_false, go_sem, (show k + ((i : Int) + 1) = k + (i : Int) + 1 by omega), (show k + ((i + 1 : Nat) : Int) = k + (i : Int) + 1 by omega)]))
    | (refine AW_block ?_)
    | (refine AW_exit ?_; simp [-List.getD_eq_getElem?_getD, -List.drop_one, ↓splitB_true, ↓splitB_false, go_sem])
    | (refine AW_skip ?_; simp [-List.getD_eq_getElem?_getD, -List.drop_one, ↓splitB_true, ↓splitB_false, go_sem])
    | (refine AW_ret ?_; simp [-List.getD_eq_getElem?_getD, -List.drop_one, ↓splitB_true, ↓splitB_false, go_sem, Try.results63])
    | (intro hx; change AW _ _ _ _ _ _)
    | (refine ⟨?_, ?_⟩ <;> change AW _ _ _ _ _ _)
    | (intro hx; refine ⟨fun hs => ?_, fun hs => ?_⟩)
    | (refine ⟨fun hs => ?_, fun hs => ?_⟩)
    | (refine ⟨?_, fun hs => ?_⟩; change AW _ _ _ _ _ _)
    | (refine ⟨fun hs => ?_, ?_⟩; rotate_left; change AW _ _ _ _ _ _; rotate_left)))
  all_goals (first
    | (obtain rfl : i = xs.length := (by omega); rw [mk_all]; exact ⟨rfl, fun _ _ h => h⟩)
    | skip)
theorem markNil_spec (k : Int) (H : Hp) : Spec Try.prog 63 [.nil, .int .i64 k] H (.int .i64 k) H := by
  refine Spec.of_walk Try.func63 rfl (by simp [Try.f63]) fun B => ?_
  (repeat' (first
    | refine AW_seq ?_
    | refine AW_region (id := 0) Γs18_ok [] (by kernel_rfl) ?_; simp  [-List.getD_eq_getElem?_getD, -List.drop_one, ↓splitB_true, ↓splitB_false, go_sem]
    | refine AW_region (id := 1) Γs18_ok [] (by kernel_rfl) ?_; simp  [-List.getD_eq_getElem?_getD, -List.drop_one, ↓splitB_true, ↓splitB_false, go_sem]
    | refine AW_region (id := 2) Γs18_ok [] (by kernel_rfl) ?_; simp  [-List.getD_eq_getElem?_getD, -List.drop_one, ↓splitB_true, ↓splitB_false, go_sem]
    | refine AW_region (id := 4) Γs18_ok [] (by kernel_rfl) ?_; simp  [-List.getD_eq_getElem?_getD, -List.drop_one, ↓splitB_true, ↓splitB_false, go_sem]
    | refine AW_region (id := 5) Γs18_ok [] (by kernel_rfl) ?_; simp  [-List.getD_eq_getElem?_getD, -List.drop_one, ↓splitB_true, ↓splitB_false, go_sem]
    | refine AW_region (id := 3) Γs18_ok [] (by kernel_rfl) ?_; simp  [-List.getD_eq_getElem?_getD, -List.drop_one, ↓splitB_true, ↓splitB_false, go_sem]
    | refine AW_region (id := 6) Γs18_ok [] (by kernel_rfl) ?_; simp  [-List.getD_eq_getElem?_getD, -List.drop_one, ↓splitB_true, ↓splitB_false, go_sem]
    | refine AW_condA (c := .tmp 9) ?_; simp [-List.getD_eq_getElem?_getD, -List.drop_one, ↓splitB_true, ↓splitB_false, go_sem]; try first | (refine ⟨?_, ?_⟩ <;> change AW _ _ _ _ _ _) | (refine ⟨fun c9 => ?_, fun c9 => ?_⟩ <;> (try simp [B_iff, B_not] at c9))
    | (refine AW_block (id := 0) (AW_loop (ι := Unit) (fun i : Unit => ⟨(upd (upd (upd (fun _ => .any) 0 (.nil)) 1 (.int .i64 k)) 5 (.int .i64 0)), H⟩) (fun i => True) (fun i => 0) (()) ?_ ?_ ?_); exact trivial; ((repeat' (first | exact sub_noneH (by assumption) | exact sub_none | refine sub_upd ?_ ?_ | refine sub_noneE ?_)) <;> simp [-List.getD_eq_getElem?_getD, -List.drop_one, ↓splitB_true, ↓splitB_false, go_sem]); rintro i hi)
    | (refine ⟨(), trivial, by first | omega | (simp; done) | (simp; omega), ?_⟩; ((repeat' (first | exact sub_noneH (by assumption) | exact sub_none | refine sub_upd ?_ ?_ | refine sub_noneE ?_)) <;> simp [-List.getD_eq_getElem?_getD, -List.drop_one, ↓splitB_true, ↓splitB_false, go_sem]))
    | (refine AW_block ?_)
    | (refine AW_exit ?_; simp [-List.getD_eq_getElem?_getD, -List.drop_one, ↓splitB_true, ↓splitB_false, go_sem])
    | (refine AW_skip ?_; simp [-List.getD_eq_getElem?_getD, -List.drop_one, ↓splitB_true, ↓splitB_false, go_sem])
    | (refine AW_ret ?_; simp [-List.getD_eq_getElem?_getD, -List.drop_one, ↓splitB_true, ↓splitB_false, go_sem, Try.results63])
    | (intro hx; change AW _ _ _ _ _ _)
    | (refine ⟨?_, ?_⟩ <;> change AW _ _ _ _ _ _)
    | (intro hx; refine ⟨fun hs => ?_, fun hs => ?_⟩)
    | (refine ⟨fun hs => ?_, fun hs => ?_⟩)
    | (refine ⟨?_, fun hs => ?_⟩; change AW _ _ _ _ _ _)
    | (refine ⟨fun hs => ?_, ?_⟩; rotate_left; change AW _ _ _ _ _ _; rotate_left)
    | (exfalso; omega)))
noncomputable def markIC : Con := .gen fun args H => match args with
  | [.sl b 1 0 n _, .int .i64 k] => match H b with
    | some all => (n ≤ all.length ∧ Is cI n (all.take n) ∧ 0 ≤ k ∧ k + n ≤ 1099511627776, .int .i64 (k + n), upd H b (some (cat cI (marks k n) ++ all.drop n)))
    | none => (False, .any, H)
  | [.nil, .int .i64 k] => (True, .int .i64 k, H)
  | _ => (False, .any, H)
attribute [go_sem] markIC
theorem markIC_ok : ConOk Try.prog 63 markIC := by
  refine ⟨callable Try.func63 (by decide) rfl, fun args H h => ?_⟩
  revert h
  dsimp only
  split
  · rename_i b n cp k
    split
    · rename_i all hH
      rintro ⟨g1, ⟨xs, hn, he⟩, g2, g3⟩
      subst hn
      have : all = cat cI xs ++ all.drop xs.length := by rw [← he, List.take_append_drop]
      rw [this] at hH
      have := markI_spec xs k b cp _ H hH g2 g3
      exact this
    · intro h; exact h.elim
  · intro _
    exact markNil_spec _ H
  · intro h
    exact h.elim
noncomputable def Γs19 : FuncId → Con := ext Γs18 63 markIC
attribute [go_sem] Γs19
theorem Γs19_ok : ∀ g, ConOk Try.prog g (Γs19 g) := ext_ok Γs18_ok markIC_ok

/-- What a look for marks tells. -/
def heldI (k : Int) (xs : List Int) : Int := if xs = marks k xs.length then k + xs.length else -1
@[go_sem] theorem heldI_marks (k : Int) (n : Nat) : heldI k (marks k n) = k + n := by simp [heldI, marks_len]
@[go_sem] theorem heldI_nil (k : Int) : heldI k [] = k := by simp [heldI, marks]
theorem heldI_pure (xs : List Int) (k : Int) (h0 : 0 ≤ k) (h1 : k + xs.length ≤ 1099511627776) : Pure Try.prog 64 [li cI xs, .int .i64 k] (.int .i64 (heldI k xs)) := by
  refine Pure.of_walk Try.func64 rfl (by simp [Try.f64]) (by simp [-List.drop_one, go_sem]) fun B hK => ?_
  (repeat' (first
    | refine AW_seq ?_
    | refine AW_region (id := 0) Γs19_ok [] (by kernel_rfl) ?_; simp  [-List.getD_eq_getElem?_getD, -List.drop_one, ↓splitB_true, ↓splitB_false, go_sem]
    | refine AW_region (id := 1) Γs19_ok [] (by kernel_rfl) ?_; simp  [-List.getD_eq_getElem?_getD, -List.drop_one, ↓splitB_true, ↓splitB_false, go_sem]
    | refine AW_region (id := 2) Γs19_ok [] (by kernel_rfl) ?_; simp  [-List.getD_eq_getElem?_getD, -List.drop_one, ↓splitB_true, ↓splitB_false, go_sem]
    | refine AW_region (id := 4) Γs19_ok [] (by kernel_rfl) ?_; simp  [-List.getD_eq_getElem?_getD, -List.drop_one, ↓splitB_true, ↓splitB_false, go_sem, c9, ne_nil c9, Nat.sub_pos_of_lt c9]
    | refine AW_region (id := 5) Γs19_ok [] (by kernel_rfl) ?_; simp  [-List.getD_eq_getElem?_getD, -List.drop_one, ↓splitB_true, ↓splitB_false, go_sem]
    | refine AW_region (id := 6) Γs19_ok [] (by kernel_rfl) ?_; simp  [-List.getD_eq_getElem?_getD, -List.drop_one, ↓splitB_true, ↓splitB_false, go_sem, wrap_in (x := k + (i : Int) + 1) (by omega) (by omega)]
    | refine AW_region (id := 3) Γs19_ok [] (by kernel_rfl) ?_; simp  [-List.getD_eq_getElem?_getD, -List.drop_one, ↓splitB_true, ↓splitB_false, go_sem, wrapS (k := i) (by omega)]
    | refine AW_region (id := 7) Γs19_ok [] (by kernel_rfl) ?_; simp  [-List.getD_eq_getElem?_getD, -List.drop_one, ↓splitB_true, ↓splitB_false, go_sem]
    | refine AW_condA (c := .tmp 9) ?_; simp [-List.getD_eq_getElem?_getD, -List.drop_one, ↓splitB_true, ↓splitB_false, go_sem]; try first | (refine ⟨?_, ?_⟩ <;> change AW _ _ _ _ _ _) | (refine ⟨fun c9 => ?_, fun c9 => ?_⟩ <;> (try simp [B_iff, B_not] at c9))
    | refine AW_condA (c := .tmp 17) ?_; simp [-List.getD_eq_getElem?_getD, -List.drop_one, ↓splitB_true, ↓splitB_false, go_sem]; try first | (refine ⟨?_, ?_⟩ <;> change AW _ _ _ _ _ _) | (refine ⟨fun c17 => ?_, fun c17 => ?_⟩ <;> (try simp [B_iff, B_not] at c17))
    | (refine AW_block (id := 0) (AW_loop (ι := Nat) (fun i : Nat => ⟨(upd (upd (upd (fun _ => .any) 0 (li cI xs)) 1 (.int .i64 (k + i))) 5 (.int .i64 i)), fun _ => none⟩) (fun i => i ≤ xs.length ∧ NoneTill (fun j => !decide (nth xs j = k + j)) i) (fun i => xs.length - i) (0) ?_ ?_ ?_); exact ⟨Nat.zero_le _, .zero _⟩; ((repeat' (first | exact sub_noneH (by assumption) | exact sub_none | refine sub_upd ?_ ?_ | refine sub_noneE ?_)) <;> simp [-List.getD_eq_getElem?_getD, -List.drop_one, ↓splitB_true, ↓splitB_false, go_sem]); rintro i ⟨hi, ht⟩)
    | (refine ⟨i + 1, ⟨by omega, ht.succ (by simp [c17])⟩, by first | omega | (simp; done) | (simp; omega), ?_⟩; ((repeat' (first | exact sub_noneH (by assumption) | exact sub_none | refine sub_upd ?_ ?_ | refine sub_noneE ?_)) <;> simp [-List.getD_eq_getElem?_getD, -List.drop_one, ↓splitB_true, ↓splitB_false, go_sem, (show k + ((i : Int) + 1) = k + (i : Int) + 1 by omega), (show k + ((i + 1 : Nat) : Int) = k + (i : Int) + 1 by omega)]))
    | (refine AW_block ?_)
    | (refine AW_exit ?_; simp [-List.getD_eq_getElem?_getD, -List.drop_one, ↓splitB_true, ↓splitB_false, go_sem])
    | (refine AW_skip ?_; simp [-List.getD_eq_getElem?_getD, -List.drop_one, ↓splitB_true, ↓splitB_false, go_sem])
    | (refine AW_ret ?_; simp [-List.getD_eq_getElem?_getD, -List.drop_one, ↓splitB_true, ↓splitB_false, go_sem, Try.results64])
    | (intro hx; change AW _ _ _ _ _ _)
    | (refine ⟨?_, ?_⟩ <;> change AW _ _ _ _ _ _)
    | (intro hx; refine ⟨fun hs => ?_, fun hs => ?_⟩)
    | (refine ⟨fun hs => ?_, fun hs => ?_⟩)
    | (refine ⟨?_, fun hs => ?_⟩; change AW _ _ _ _ _ _)
    | (refine ⟨fun hs => ?_, ?_⟩; rotate_left; change AW _ _ _ _ _ _; rotate_left)))
  all_goals (first
    | (rw [heldI, if_neg]; intro e; apply c17; have := nth_marks (k := k) c9; rw [← e] at this; exact this)
    | (obtain rfl : i = xs.length := (by omega); rw [heldI, if_pos]; apply List.ext_getElem (by rw [marks_len]); intro j h1 h2; have := ht j h1; simp at this; rw [← nth_lt h1, ← nth_lt h2, nth_marks h1, this])
    | skip)
noncomputable def heldI_pureC : Con := .pure fun
  | [.list n_xs c_xs, .int .i64 k] => ((Is cI n_xs c_xs) ∧ (0 ≤ k) ∧ (k + (de cI c_xs).length ≤ 1099511627776), .int .i64 (heldI k (de cI c_xs)))
  | _ => (False, .any)
attribute [go_sem] heldI_pureC
theorem heldI_pureC_ok : ConOk Try.prog 64 heldI_pureC := by
  refine ⟨callable Try.func64 (by decide) rfl, fun args h => ?_⟩
  revert h
  dsimp only
  split
  · intro h
    obtain ⟨⟨xs, rfl, rfl⟩, h0, h1⟩ := h
    try simp only [de_cat] at *
    exact ⟨heldI_pure xs _ h0 h1, by simp [go_sem]⟩
  · intro h
    exact h.elim
noncomputable def Γs20 : FuncId → Con := ext Γs19 64 heldI_pureC
attribute [go_sem] Γs20
theorem Γs20_ok : ∀ g, ConOk Try.prog g (Γs20 g) := ext_ok Γs19_ok heldI_pureC_ok
end Go.Proofs.Ytlbbhkpjjciaiaa.Vm

