import Derived.Test.YtkjimmkemnmajaaN9
/-
  Lassos behind the automata's functions; the small functions of Accepts. No conditions.
-/
namespace Go.Proofs.Ytkjimmkemnmajaa.Vm
open Go
open Nat renaming sub_pos_of_lt → zsP
open List renaming getD_eq_getElem?_getD → zg, drop_one → zd, replicate → zrP
noncomputable section
set_option linter.unusedVariables false
set_option linter.unusedSimpArgs false
set_option maxRecDepth 200000

@[go_sem] def Γk1 : FuncId → Con := Γn13
theorem Γk1_ok : ∀ g, ConOk Try.prog g (Γk1 g) := Γn13_ok

@[go_sem] def Γk2 : FuncId → Con := Γk1
theorem Γk2_ok : ∀ g, ConOk Try.prog g (Γk2 g) := Γk1_ok

@[go_sem] def Γk3 : FuncId → Con := Γk2
theorem Ya : ∀ g, ConOk Try.prog g (Γk3 g) := Γk2_ok

def LetOk (xs : List Int) : Prop := ∀ i, i < xs.length → 0 ≤ nth xs i ∧ nth xs i ≤ 7
def LasOk (a b : List Int) : Prop := LetOk a ∧ LetOk b ∧ a.length ≤ 80 ∧ 1 ≤ b.length ∧ b.length ≤ 80

theorem l6Letters_pure (xs : List Int)  : Pure Try.prog 192 [li cI xs] (.bool (B (LetOk xs))) := by
  refine Pure.of_walk Try.func192 rfl (by simp [Try.f192]) (by simp [-zd, go_sem]) fun B hK => ?_
  (repeat' (first
 | refine Qu ?_
 | (refine Vp 0 rfl fun hm => ?_); refine Qc (id := 0) Ya [] (by kernel_rfl) ?_; simp [-zg, -zd, ↓Qb, ↓Qa, go_sem]
 | refine Qc (id := 1) Ya [] (by kernel_rfl) ?_; simp [-zg, -zd, ↓Qb, ↓Qa, go_sem]
 | refine Qc (id := 2) Ya [] (by kernel_rfl) ?_; simp [-zg, -zd, ↓Qb, ↓Qa, go_sem]
 | refine Qc (id := 4) Ya [15] (by kernel_rfl) ?_; simp [-zg, -zd, ↓Qb, ↓Qa, go_sem, c7, Qm c7, zsP c7]; try (refine ⟨fun s4a => ?_, fun s4a => ?_⟩ <;> (try simp [B_iff, B_not] at s4a) <;> try (refine ⟨fun s4b => ?_, fun s4b => ?_⟩ <;> (try simp [B_iff, B_not] at s4b)))
 | refine Qc (id := 5) Ya [] (by kernel_rfl) ?_; simp [-zg, -zd, ↓Qb, ↓Qa, go_sem]
 | refine Qc (id := 3) Ya [] (by kernel_rfl) ?_; simp [-zg, -zd, ↓Qb, ↓Qa, go_sem, wrapS (k := k) (by omega)]
 | refine Qc (id := 6) Ya [] (by kernel_rfl) ?_; simp [-zg, -zd, ↓Qb, ↓Qa, go_sem]
 | refine Qd (c := .tmp 7) ?_; simp [-zg, -zd, ↓Qb, ↓Qa, go_sem]; try first | (refine ⟨?_, ?_⟩ <;> refine zA ?_) | (refine ⟨fun c7 => ?_, fun c7 => ?_⟩ <;> (try simp [B_iff, B_not] at c7))
 | refine Qd (c := .tmp 21) ?_; simp [-zg, -zd, ↓Qb, ↓Qa, go_sem]; try first | (refine ⟨?_, ?_⟩ <;> refine zA ?_) | (refine ⟨fun c21 => ?_, fun c21 => ?_⟩ <;> (try simp [B_iff, B_not] at c21))
 | (refine Qe (id := 0) (Xa (ι := Nat) (fun k : Nat => ⟨(upd (upd (fun _ => .any) 0 (li cI xs)) 3 (.int .i64 k)), fun _ => none⟩) (fun k => k ≤ xs.length ∧ AllTill (fun i => 0 ≤ nth xs i ∧ nth xs i ≤ 7) k) (fun k => xs.length - k) (0) ?_ ?_ ?_); exact ⟨Nat.zero_le _, .zero _⟩; ((repeat' (first | exact Qh (by assumption) | exact Qj | refine Qg ?_ ?_ | refine Qi ?_)) <;> simp [-zg, -zd, ↓Qb, ↓Qa, go_sem]); rintro k ⟨hk, ht⟩)
 | (refine ⟨k + 1, ⟨by omega, ht.succ (by omega)⟩, by first | omega | (simp; done) | (simp; omega), ?_⟩; ((repeat' (first | exact Qh (by assumption) | exact Qj | refine Qg ?_ ?_ | refine Qi ?_)) <;> simp [-zg, -zd, ↓Qb, ↓Qa, go_sem]))
 | (refine Qe ?_)
 | (refine Qs ?_; simp [-zg, -zd, ↓Qb, ↓Qa, go_sem])
 | (refine Qr ?_; simp [-zg, -zd, ↓Qb, ↓Qa, go_sem])
 | (refine Qv ?_; simp [-zg, -zd, ↓Qb, ↓Qa, go_sem, Try.results192])
 | (intro hx; refine zA ?_)
 | (refine ⟨?_, ?_⟩ <;> refine zA ?_)
 | (intro hx; constructor <;> intro hs)
 | (constructor <;> intro hs)
 | (refine ⟨?_, fun hs => ?_⟩; refine zA ?_)
 | (refine ⟨fun hs => ?_, ?_⟩; rotate_left; refine zA ?_; rotate_left)))
  all_goals (first
 | (intro h; have := h k c7; omega)
 | exact fun i hi => ht i (by omega)
 | skip)
@[go_sem] def zadk : Con := .pure fun
  | [.list n_xs c_xs] => ((Is cI n_xs c_xs), .bool (B (LetOk (de cI c_xs))))
  | _ => (False, .any)
theorem zajb : ConOk Try.prog 192 zadk := by
  refine ⟨Qp Try.func192 (by decide) rfl, fun args h => ?_⟩
  revert h
  dsimp only
  split
  · intro h
    obtain ⟨xs, rfl, rfl⟩ := h
    try simp only [Qt] at *
    exact ⟨l6Letters_pure xs, by simp [go_sem]⟩
  · intro h
    exact h.elim
@[go_sem] def Γk4 : FuncId → Con := ext Γk3 192 zadk
theorem Γk4_ok : ∀ g, ConOk Try.prog g (Γk4 g) := Qo Ya zajb

def noLet (n : Int) : Bool := !(decide (0 ≤ n) && decide (n ≤ 7))
theorem find_let {xs : List Int} : (0 ≤ findI noLet xs) = ¬ LetOk xs := by
  rw [findI_ge, eq_iff_iff]
  constructor
  · rintro ⟨i, h, e⟩ k
    have := k i h
    simp [noLet] at e
    omega
  · intro h
    apply Classical.byContradiction; intro h2
    apply h; intro i hi
    apply Classical.byContradiction; intro h3
    exact h2 ⟨i, hi, by simp [noLet]; omega⟩

theorem letters1_pure (n : Int)  : Pure Try.prog 226 [.int .i64 n] (.bool (noLet n)) := by
  refine Pure.of_walk Try.func226 rfl (by simp [Try.f226]) (by simp [-zd, go_sem]) fun B hK => ?_
  (repeat' (first
 | refine Qu ?_
 | refine Qc (id := 0) Γk4_ok [] (by kernel_rfl) ?_; simp [-zg, -zd, ↓Qb, ↓Qa, go_sem, noLet]
 | refine Qc (id := 1) Γk4_ok [] (by kernel_rfl) ?_; simp [-zg, -zd, ↓Qb, ↓Qa, go_sem, noLet]
 | (refine Qe ?_)
 | (refine Qs ?_; simp [-zg, -zd, ↓Qb, ↓Qa, go_sem])
 | (refine Qr ?_; simp [-zg, -zd, ↓Qb, ↓Qa, go_sem])
 | (refine Qv ?_; simp [-zg, -zd, ↓Qb, ↓Qa, go_sem, Try.results226, noLet])
 | (intro hx; refine zA ?_)
 | (refine ⟨?_, ?_⟩ <;> refine zA ?_)
 | (intro hx; constructor <;> intro hs)
 | (constructor <;> intro hs)
 | (refine ⟨?_, fun hs => ?_⟩; refine zA ?_)
 | (refine ⟨fun hs => ?_, ?_⟩; rotate_left; refine zA ?_; rotate_left)))
@[go_sem] def zaea : Con := .pure fun
  | [.int .i64 n] => (True, .bool (noLet n))
  | _ => (False, .any)
theorem zake : ConOk Try.prog 226 zaea := by
  refine ⟨Qp Try.func226 (by decide) rfl, fun args h => ?_⟩
  revert h
  dsimp only
  split
  · intro h
    skip
    skip
    exact ⟨letters1_pure _, by simp [go_sem]⟩
  · intro h
    exact h.elim
@[go_sem] def Γk5 : FuncId → Con := ext Γk4 226 zaea
theorem Wc : ∀ g, ConOk Try.prog g (Γk5 g) := Qo Γk4_ok zake

theorem indexLet_pure (xs : List Int)   : Pure Try.prog 235 [li cI xs, .fn 226 []] (.int .i64 (findI (noLet) xs)) := by
  refine Pure.of_walk Try.func235 rfl (by simp [Try.f235]) (by simp [-zd, go_sem]) fun B hK => ?_
  (repeat' (first
 | refine Qu ?_
 | (refine Vp 0 rfl fun hm => ?_); refine Qc (id := 0) Wc [] (by kernel_rfl) ?_; simp [-zg, -zd, ↓Qb, ↓Qa, go_sem]
 | refine Qc (id := 1) Wc [] (by kernel_rfl) ?_; simp [-zg, -zd, ↓Qb, ↓Qa, go_sem]
 | refine Qc (id := 2) Wc [] (by kernel_rfl) ?_; simp [-zg, -zd, ↓Qb, ↓Qa, go_sem]
 | refine Qc (id := 3) Wc [] (by kernel_rfl) ?_; simp [-zg, -zd, ↓Qb, ↓Qa, go_sem]
 | refine Qc (id := 4) Wc [] (by kernel_rfl) ?_; simp [-zg, -zd, ↓Qb, ↓Qa, go_sem, c9, Qm c9, zsP c9]
 | refine Qc (id := 5) Wc [] (by kernel_rfl) ?_; simp [-zg, -zd, ↓Qb, ↓Qa, go_sem]
 | refine Qc (id := 6) Wc [] (by kernel_rfl) ?_; simp [-zg, -zd, ↓Qb, ↓Qa, go_sem, wrapS (k := k) (by omega)]
 | refine Qc (id := 7) Wc [] (by kernel_rfl) ?_; simp [-zg, -zd, ↓Qb, ↓Qa, go_sem]
 | refine Qd (c := .tmp 9) ?_; simp [-zg, -zd, ↓Qb, ↓Qa, go_sem]; try first | (refine ⟨?_, ?_⟩ <;> refine zA ?_) | (refine ⟨fun c9 => ?_, fun c9 => ?_⟩ <;> (try simp [B_iff, B_not] at c9))
 | refine Qd (c := .tmp 16) ?_; simp [-zg, -zd, ↓Qb, ↓Qa, go_sem]; try first | (refine ⟨?_, ?_⟩ <;> refine zA ?_) | (refine ⟨fun c16 => ?_, fun c16 => ?_⟩ <;> (try simp [B_iff, B_not] at c16))
 | (refine Qe (id := 0) (Xa (ι := Nat) (fun k : Nat => ⟨(upd (upd (upd (upd (upd (fun _ => .any) 0 (li cI xs)) 1 (.fn 226 [])) 6 (li cI xs)) 7 (.int .i64 xs.length)) 8 (.int .i64 k)), fun _ => none⟩) (fun k => k ≤ xs.length ∧ NoneTill (fun i => (noLet) (nth xs i)) k) (fun k => xs.length - k) (0) ?_ ?_ ?_); exact ⟨Nat.zero_le _, .zero _⟩; ((repeat' (first | exact Qh (by assumption) | exact Qj | refine Qg ?_ ?_ | refine Qi ?_)) <;> simp [-zg, -zd, ↓Qb, ↓Qa, go_sem]); rintro k ⟨hk, ht⟩)
 | (refine ⟨k + 1, ⟨by omega, ht.succ (by simp_all)⟩, by first | omega | (simp; done) | (simp; omega), ?_⟩; ((repeat' (first | exact Qh (by assumption) | exact Qj | refine Qg ?_ ?_ | refine Qi ?_)) <;> simp [-zg, -zd, ↓Qb, ↓Qa, go_sem]))
 | (refine Qe ?_)
 | (refine Qs ?_; simp [-zg, -zd, ↓Qb, ↓Qa, go_sem])
 | (refine Qr ?_; simp [-zg, -zd, ↓Qb, ↓Qa, go_sem])
 | (refine Qv ?_; simp [-zg, -zd, ↓Qb, ↓Qa, go_sem, Try.results235])
 | (intro hx; refine zA ?_)
 | (refine ⟨?_, ?_⟩ <;> refine zA ?_)
 | (intro hx; constructor <;> intro hs)
 | (constructor <;> intro hs)
 | (refine ⟨?_, fun hs => ?_⟩; refine zA ?_)
 | (refine ⟨fun hs => ?_, ?_⟩; rotate_left; refine zA ?_; rotate_left)))
  all_goals (first
 | (rw [findI_at ht c9 (by simp_all)])
 | (rw [zaie ht (by omega)])
 | skip)
@[go_sem] def zaeh : Con := .pure fun
  | [.list n_xs c_xs, .fn 226 []] => ((Is cI n_xs c_xs), .int .i64 (findI (noLet) (de cI c_xs)))
  | _ => (False, .any)
theorem zakj : ConOk Try.prog 235 zaeh := by
  refine ⟨Qp Try.func235 (by decide) rfl, fun args h => ?_⟩
  revert h
  dsimp only
  split
  · intro h
    obtain ⟨xs, rfl, rfl⟩ := h
    try simp only [Qt] at *
    exact ⟨indexLet_pure xs , by simp [go_sem]⟩
  · intro h
    exact h.elim
@[go_sem] def Γk6 : FuncId → Con := ext Γk5 235 zaeh
theorem Γk6_ok : ∀ g, ConOk Try.prog g (Γk6 g) := Qo Wc zakj

theorem zanm (xs : List Int)   : Pure Try.prog 201 [li cI xs, .fn 226 []] (.bool (decide (0 ≤ findI noLet xs))) := by
  refine Pure.of_walk Try.func201 rfl (by simp [Try.f201]) (by simp [-zd, go_sem]) fun B hK => ?_
  (repeat' (first
 | refine Qu ?_
 | refine Qc (id := 0) Γk6_ok [] (by kernel_rfl) ?_; simp [-zg, -zd, ↓Qb, ↓Qa, go_sem]
 | refine Qc (id := 1) Γk6_ok [] (by kernel_rfl) ?_; simp [-zg, -zd, ↓Qb, ↓Qa, go_sem]
 | (refine Qe ?_)
 | (refine Qs ?_; simp [-zg, -zd, ↓Qb, ↓Qa, go_sem])
 | (refine Qr ?_; simp [-zg, -zd, ↓Qb, ↓Qa, go_sem])
 | (refine Qv ?_; simp [-zg, -zd, ↓Qb, ↓Qa, go_sem, Try.results201])
 | (intro hx; refine zA ?_)
 | (refine ⟨?_, ?_⟩ <;> refine zA ?_)
 | (intro hx; constructor <;> intro hs)
 | (constructor <;> intro hs)
 | (refine ⟨?_, fun hs => ?_⟩; refine zA ?_)
 | (refine ⟨fun hs => ?_, ?_⟩; rotate_left; refine zA ?_; rotate_left)))
@[go_sem] def zaci : Con := .pure fun
  | [.list n_xs c_xs, .fn 226 []] => ((Is cI n_xs c_xs), .bool (decide (0 ≤ findI noLet (de cI c_xs))))
  | _ => (False, .any)
theorem zahe : ConOk Try.prog 201 zaci := by
  refine ⟨Qp Try.func201 (by decide) rfl, fun args h => ?_⟩
  revert h
  dsimp only
  split
  · intro h
    obtain ⟨xs, rfl, rfl⟩ := h
    try simp only [Qt] at *
    exact ⟨zanm xs , by simp [go_sem]⟩
  · intro h
    exact h.elim
@[go_sem] def Γk7 : FuncId → Con := ext Γk6 201 zaci
theorem Γk7_ok : ∀ g, ConOk Try.prog g (Γk7 g) := Qo Γk6_ok zahe

theorem letters_pure (xs : List Int)  : Pure Try.prog 188 [li cI xs] (.bool (B (LetOk xs))) := by
  refine Pure.of_walk Try.func188 rfl (by simp [Try.f188]) (by simp [-zd, go_sem]) fun B hK => ?_
  (repeat' (first
 | refine Qu ?_
 | refine Qc (id := 0) Γk7_ok [] (by kernel_rfl) ?_; simp [-zg, -zd, ↓Qb, ↓Qa, go_sem]
 | refine Qc (id := 1) Γk7_ok [] (by kernel_rfl) ?_; simp [-zg, -zd, ↓Qb, ↓Qa, go_sem]
 | (refine Qe ?_)
 | (refine Qs ?_; simp [-zg, -zd, ↓Qb, ↓Qa, go_sem])
 | (refine Qr ?_; simp [-zg, -zd, ↓Qb, ↓Qa, go_sem])
 | (refine Qv ?_; simp [-zg, -zd, ↓Qb, ↓Qa, go_sem, Try.results188])
 | (intro hx; refine zA ?_)
 | (refine ⟨?_, ?_⟩ <;> refine zA ?_)
 | (intro hx; constructor <;> intro hs)
 | (constructor <;> intro hs)
 | (refine ⟨?_, fun hs => ?_⟩; refine zA ?_)
 | (refine ⟨fun hs => ?_, ?_⟩; rotate_left; refine zA ?_; rotate_left)))
  all_goals (first
 | (rw [Bool.eq_iff_iff, decide_eq_true_eq, find_let, Bool.not_eq_true', B_not])
 | (rw [Bool.eq_iff_iff, B_iff, Bool.not_eq_true', decide_eq_false_iff_not, find_let, Classical.not_not])
 | skip)
  all_goals trace_state
@[go_sem] def zaey : Con := .pure fun
  | [.list n_xs c_xs] => ((Is cI n_xs c_xs), .bool (B (LetOk (de cI c_xs))))
  | _ => (False, .any)
theorem zami : ConOk Try.prog 188 zaey := by
  refine ⟨Qp Try.func188 (by decide) rfl, fun args h => ?_⟩
  revert h
  dsimp only
  split
  · intro h
    obtain ⟨xs, rfl, rfl⟩ := h
    try simp only [Qt] at *
    exact ⟨letters_pure xs, by simp [go_sem]⟩
  · intro h
    exact h.elim
@[go_sem] def Γk8 : FuncId → Con := ext Γk7 188 zaey
theorem Γk8_ok : ∀ g, ConOk Try.prog g (Γk8 g) := Qo Γk7_ok zami

theorem zahm (a : List Int) (b : List Int)  : Pure Try.prog 139 [.st [li cI a, li cI b]] (.bool (B (LasOk a b))) := by
  refine Pure.of_walk Try.func139 rfl (by simp [Try.f139]) (by simp [-zd, go_sem]) fun B hK => ?_
  (repeat' (first
 | refine Qu ?_
 | refine Qc (id := 0) Γk8_ok [] (by kernel_rfl) ?_; simp [-zg, -zd, ↓Qb, ↓Qa, go_sem]; try (refine Xd hK 1 ?_; simp [go_sem])
 | refine Qc (id := 1) Γk8_ok [6, 11, 17, 23] (by kernel_rfl) ?_; simp [-zg, -zd, ↓Qb, ↓Qa, go_sem]; try (refine ⟨fun s1a => ?_, fun s1a => ?_⟩ <;> (try simp [B_iff, B_not] at s1a) <;> try (refine ⟨fun s1b => ?_, fun s1b => ?_⟩ <;> (try simp [B_iff, B_not] at s1b) <;> try (refine ⟨fun s1c => ?_, fun s1c => ?_⟩ <;> (try simp [B_iff, B_not] at s1c) <;> try (refine ⟨fun s1d => ?_, fun s1d => ?_⟩ <;> (try simp [B_iff, B_not] at s1d) <;> try (refine ⟨fun s1e => ?_, fun s1e => ?_⟩ <;> (try simp [B_iff, B_not] at s1e))))))
 | (refine Qe ?_)
 | (refine Qs ?_; simp [-zg, -zd, ↓Qb, ↓Qa, go_sem])
 | (refine Qr ?_; simp [-zg, -zd, ↓Qb, ↓Qa, go_sem])
 | (refine Qv ?_; simp [-zg, -zd, ↓Qb, ↓Qa, go_sem, Try.results139])
 | (intro hx; refine zA ?_)
 | (refine ⟨?_, ?_⟩ <;> refine zA ?_)
 | (intro hx; constructor <;> intro hs)
 | (constructor <;> intro hs)
 | (refine ⟨?_, fun hs => ?_⟩; refine zA ?_)
 | (refine ⟨fun hs => ?_, ?_⟩; rotate_left; refine zA ?_; rotate_left)))
  all_goals (first
 | (rintro ⟨g1, g2, g3, g4, g5⟩; omega)
 | (rintro ⟨g1, g2, g3, g4, g5⟩; simp_all; done)
 | (rw [Bool.eq_iff_iff, B_iff, decide_eq_true_eq]; exact ⟨fun h => ⟨s1a, s1b, by omega, by omega, by omega⟩, fun h => by have := h.2.2.2.2; omega⟩)
 | skip)
@[go_sem] def zaaw : Con := .pure fun
  | [.st [.list n_a c_a, .list n_b c_b]] => ((Is cI n_a c_a) ∧ (Is cI n_b c_b), .bool (B (LasOk (de cI c_a) (de cI c_b))))
  | _ => (False, .any)
theorem zaes : ConOk Try.prog 139 zaaw := by
  refine ⟨Qp Try.func139 (by decide) rfl, fun args h => ?_⟩
  revert h
  dsimp only
  split
  · intro h
    obtain ⟨⟨a, rfl, rfl⟩, ⟨b, rfl, rfl⟩⟩ := h
    try simp only [Qt] at *
    exact ⟨zahm a b, by simp [go_sem]⟩
  · intro h
    exact h.elim
@[go_sem] def Γk9 : FuncId → Con := ext Γk8 139 zaaw
theorem Γk9_ok : ∀ g, ConOk Try.prog g (Γk9 g) := Qo Γk8_ok zaes

theorem zaic (a : List Int) (b : List Int)  : Pure Try.prog 137 [.st [li cI a, li cI b]] (.bool (B (LasOk a b))) := by
  refine Pure.of_walk Try.func137 rfl (by simp [Try.f137]) (by simp [-zd, go_sem]) fun B hK => ?_
  (repeat' (first
 | refine Qu ?_
 | refine Qc (id := 0) Γk9_ok [] (by kernel_rfl) ?_; simp [-zg, -zd, ↓Qb, ↓Qa, go_sem]; try (refine Xd hK 1 ?_; simp [go_sem])
 | refine Qc (id := 1) Γk9_ok [6, 11, 17] (by kernel_rfl) ?_; simp [-zg, -zd, ↓Qb, ↓Qa, go_sem]; try (refine ⟨fun s1a => ?_, fun s1a => ?_⟩ <;> (try simp [B_iff, B_not] at s1a) <;> try (refine ⟨fun s1b => ?_, fun s1b => ?_⟩ <;> (try simp [B_iff, B_not] at s1b) <;> try (refine ⟨fun s1c => ?_, fun s1c => ?_⟩ <;> (try simp [B_iff, B_not] at s1c) <;> try (refine ⟨fun s1d => ?_, fun s1d => ?_⟩ <;> (try simp [B_iff, B_not] at s1d)))))
 | (refine Qe ?_)
 | (refine Qs ?_; simp [-zg, -zd, ↓Qb, ↓Qa, go_sem])
 | (refine Qr ?_; simp [-zg, -zd, ↓Qb, ↓Qa, go_sem])
 | (refine Qv ?_; simp [-zg, -zd, ↓Qb, ↓Qa, go_sem, Try.results137])
 | (intro hx; refine zA ?_)
 | (refine ⟨?_, ?_⟩ <;> refine zA ?_)
 | (intro hx; constructor <;> intro hs)
 | (constructor <;> intro hs)
 | (refine ⟨?_, fun hs => ?_⟩; refine zA ?_)
 | (refine ⟨fun hs => ?_, ?_⟩; rotate_left; refine zA ?_; rotate_left)))
  all_goals (first
 | (rintro ⟨g1, g2, g3, g4, g5⟩; omega)
 | (rintro ⟨g1, g2, g3, g4, g5⟩; simp_all; done)
 | (rw [Bool.eq_iff_iff, B_iff, Bool.and_eq_true, decide_eq_true_eq, decide_eq_true_eq]; exact ⟨fun h => ⟨s1a, s1b, by omega, by omega, by omega⟩, fun h => by have := h.2.2.2; omega⟩)
 | skip)
@[go_sem] def zaba : Con := .pure fun
  | [.st [.list n_a c_a, .list n_b c_b]] => ((Is cI n_a c_a) ∧ (Is cI n_b c_b), .bool (B (LasOk (de cI c_a) (de cI c_b))))
  | _ => (False, .any)
theorem zaeu : ConOk Try.prog 137 zaba := by
  refine ⟨Qp Try.func137 (by decide) rfl, fun args h => ?_⟩
  revert h
  dsimp only
  split
  · intro h
    obtain ⟨⟨a, rfl, rfl⟩, ⟨b, rfl, rfl⟩⟩ := h
    try simp only [Qt] at *
    exact ⟨zaic a b, by simp [go_sem]⟩
  · intro h
    exact h.elim
@[go_sem] def Γk10 : FuncId → Con := ext Γk9 137 zaba
theorem zali : ∀ g, ConOk Try.prog g (Γk10 g) := Qo Γk9_ok zaeu

def turn (a b : List Int) (i : Int) : Nat := ((i - a.length).tmod b.length).toNat
theorem turn_lt {a b : List Int} {i : Int} (h : 0 < b.length) (hi : (a.length : Int) ≤ i) : (i - a.length).tmod b.length = turn a b i ∧ turn a b i < b.length := by
  have h1 : 0 ≤ (i - a.length).tmod b.length := Int.tmod_nonneg _ (by omega)
  have h2 : (i - a.length).tmod b.length < b.length := Int.tmod_lt_of_pos _ (by omega)
  unfold turn
  omega

theorem l6Index_pure (a : List Int) (b : List Int) (i : Int) (h0 : 0 < b.length) (h1 : b.length ≤ 80) (h2 : a.length ≤ 80) (h3 : 0 ≤ i) (h4 : i ≤ 9223372036854775807) : Pure Try.prog 193 [.st [li cI a, li cI b], .int .i64 i] (.int .i64 (if i < a.length then i else a.length + turn a b i)) := by
  refine Pure.of_walk Try.func193 rfl (by simp [Try.f193]) (by simp [-zd, go_sem]) fun B hK => ?_
  by_cases hi : i < (a.length : Int)
  all_goals (repeat' (first
 | refine Qu ?_
 | refine Qc (id := 0) zali [] (by kernel_rfl) ?_; simp [-zg, -zd, ↓Qb, ↓Qa, go_sem]; try (refine Xd hK 2 ?_; simp [go_sem])
 | refine Qc (id := 1) zali [] (by kernel_rfl) ?_; simp [-zg, -zd, ↓Qb, ↓Qa, go_sem]
 | refine Qc (id := 2) zali [] (by kernel_rfl) ?_; simp [-zg, -zd, ↓Qb, ↓Qa, go_sem]
 | (obtain ⟨t1, t2⟩ := turn_lt (i := i) h0 (show (a.length : Int) ≤ i by omega)); refine Xo (id := 3) zali mixed [] [2] (by kernel_rfl) (by kernel_rfl) (by simp [-zg, -zd, ↓Qb, ↓Qa, go_sem, Qk (x := i - a.length) (by omega) (by omega), t1, Qk (x := (a.length : Int) + turn a b i) (by omega) (by omega), (show ¬ b = [] by rintro rfl; simp at h0)]) ?_; simp [-zg, -zd, ↓Qb, ↓Qa, go_sem, Qk (x := i - a.length) (by omega) (by omega), t1, Qk (x := (a.length : Int) + turn a b i) (by omega) (by omega), (show ¬ b = [] by rintro rfl; simp at h0)]
 | refine Qd (c := .tmp 9) ?_; simp [-zg, -zd, ↓Qb, ↓Qa, go_sem]; try first | (refine ⟨?_, ?_⟩ <;> refine zA ?_) | (refine ⟨fun c9 => ?_, fun c9 => ?_⟩ <;> (try simp [B_iff, B_not] at c9))
 | (refine Qe ?_)
 | (refine Qs ?_; simp [-zg, -zd, ↓Qb, ↓Qa, go_sem])
 | (refine Qr ?_; simp [-zg, -zd, ↓Qb, ↓Qa, go_sem])
 | (refine Qv ?_; simp [-zg, -zd, ↓Qb, ↓Qa, go_sem, Try.results193])
 | (intro hx; refine zA ?_)
 | (refine ⟨?_, ?_⟩ <;> refine zA ?_)
 | (intro hx; constructor <;> intro hs)
 | (constructor <;> intro hs)
 | (refine ⟨?_, fun hs => ?_⟩; refine zA ?_)
 | (refine ⟨fun hs => ?_, ?_⟩; rotate_left; refine zA ?_; rotate_left)))
  all_goals (first
 | (rw [if_pos hi])
 | (rw [if_neg hi])
 | (intro h; exact absurd h hi)
 | (intro h; omega)
 | (simp_all; done)
 | skip)
@[go_sem] def zafd : Con := .pure fun
  | [.st [.list n_a c_a, .list n_b c_b], .int .i64 i] => ((Is cI n_a c_a) ∧ (Is cI n_b c_b) ∧ (0 < (de cI c_b).length) ∧ ((de cI c_b).length ≤ 80) ∧ ((de cI c_a).length ≤ 80) ∧ (0 ≤ i) ∧ (i ≤ 9223372036854775807), .int .i64 (if i < (de cI c_a).length then i else (de cI c_a).length + turn (de cI c_a) (de cI c_b) i))
  | _ => (False, .any)
theorem zamx : ConOk Try.prog 193 zafd := by
  refine ⟨Qp Try.func193 (by decide) rfl, fun args h => ?_⟩
  revert h
  dsimp only
  split
  · intro h
    obtain ⟨⟨a, rfl, rfl⟩, ⟨b, rfl, rfl⟩, h0, h1, h2, h3, h4⟩ := h
    try simp only [Qt] at *
    exact ⟨l6Index_pure a b _ h0 h1 h2 h3 h4, by simp [go_sem]⟩
  · intro h
    exact h.elim
@[go_sem] def Γk11 : FuncId → Con := ext Γk10 193 zafd
theorem Wa : ∀ g, ConOk Try.prog g (Γk11 g) := Qo zali zamx

theorem turn_in {a b : List Int} {i : Int} (h1 : (a.length : Int) ≤ i) (h2 : i < (a.length : Int) + b.length) : (turn a b i : Int) = i - a.length := by
  unfold turn
  have h3 : (i - (a.length : Int)).tmod b.length = i - a.length := Int.tmod_eq_of_lt (by omega) (by omega)
  rw [h3]; omega
theorem turn_end (a b : List Int) : turn a b ((a.length : Int) + b.length) = 0 := by
  unfold turn
  rw [show (a.length : Int) + (b.length : Int) - (a.length : Int) = b.length by omega, Int.tmod_self]; rfl
theorem nth_appK {xs ys : List Int} {i : Nat} (h : xs.length ≤ i) : nth (xs ++ ys) i = nth ys (i - xs.length) := by
  simp only [nth, List.getD_eq_getElem?_getD]; rw [List.getElem?_append_right h]

theorem letterAt_pure (a : List Int) (b : List Int) (i : Int) (hL : LasOk a b) (h0 : 0 ≤ i) (h1 : i < (a.length : Int) + b.length) : Pure Try.prog 140 [.st [li cI a, li cI b], .int .i64 i] (.tup [.int .i64 (nth (a ++ b) i.toNat), .bool true]) := by
  refine Pure.of_walk Try.func140 rfl (by simp [Try.f140]) (by simp [-zd, go_sem]) fun B hK => ?_
  obtain ⟨l1, l2, l3, l4, l5⟩ := id hL; by_cases hi : i < (a.length : Int)
  all_goals (repeat' (first
 | refine Qu ?_
 | refine Qc (id := 0) Wa [] (by kernel_rfl) ?_; simp [-zg, -zd, ↓Qb, ↓Qa, go_sem]; try (refine Xd hK 2 ?_; simp [go_sem])
 | refine Qc (id := 1) Wa [10] (by kernel_rfl) ?_; simp [-zg, -zd, ↓Qb, ↓Qa, go_sem, B_yes hL, h0, (show ¬ i < 0 by omega)]; try (refine ⟨fun s1a => ?_, fun s1a => ?_⟩ <;> (try simp [B_iff, B_not] at s1a) <;> try (refine ⟨fun s1b => ?_, fun s1b => ?_⟩ <;> (try simp [B_iff, B_not] at s1b)))
 | refine Qc (id := 2) Wa [] (by kernel_rfl) ?_; simp [-zg, -zd, ↓Qb, ↓Qa, go_sem]
 | ((have ht := fun h => turn_in (a := a) (b := b) (i := i) h h1); (have hna := fun h => Xx (xs := a) (ys := b) (i := i.toNat) h); (have hnb := fun h => nth_appK (xs := a) (ys := b) (i := i.toNat) h)); refine Qc (id := 3) Wa [] (by kernel_rfl) ?_; simp [-zg, -zd, ↓Qb, ↓Qa, go_sem, (show 0 < b.length by omega), l5, l3, h0, (show i ≤ 9223372036854775807 by omega)]; try ((first | (rw [if_pos hi]; have h9 := hna (by omega)) | (rw [if_neg hi]; have h9 := hnb (by omega); have h8 := ht (by omega))))
 | refine Qc (id := 4) Wa [] (by kernel_rfl) ?_; simp [-zg, -zd, ↓Qb, ↓Qa, go_sem, hi, h8, (show (a.length : Int) + (i - (a.length : Int)) = i by omega)]
 | refine Qc (id := 4) Wa [] (by kernel_rfl) ?_; simp [-zg, -zd, ↓Qb, ↓Qa, go_sem, hi]
 | refine Qc (id := 5) Wa [] (by kernel_rfl) ?_; simp [-zg, -zd, ↓Qb, ↓Qa, go_sem, h0, hi, h9, (show i.toNat < a.length by omega), (show 0 < a.length - i.toNat by omega), (show ¬ a = [] by rintro rfl; simp at hi; omega)]
 | refine Qc (id := 6) Wa [] (by kernel_rfl) ?_; simp [-zg, -zd, ↓Qb, ↓Qa, go_sem, h0, hi, h8, h9, (show (a.length : Int) + (i - (a.length : Int)) = i by omega), Qk (x := i - a.length) (by omega) (by omega), (show (i - (a.length : Int)).toNat = i.toNat - a.length by omega), (show i.toNat - a.length < b.length by omega), (show 0 ≤ i - (a.length : Int) by omega), (show i - (a.length : Int) < (b.length : Int) by omega), (show (a.length : Int) ≤ i by omega), (show ¬ b = [] by rintro rfl; simp at l4), (show 0 < b.length - (i.toNat - a.length) by omega)]
 | refine Qd (c := .tmp 13) ?_; simp [-zg, -zd, ↓Qb, ↓Qa, go_sem]; try first | (refine ⟨?_, ?_⟩ <;> refine zA ?_) | (refine ⟨fun c13 => ?_, fun c13 => ?_⟩ <;> (try simp [B_iff, B_not] at c13))
 | refine Qd (c := .tmp 21) ?_; simp [-zg, -zd, ↓Qb, ↓Qa, go_sem]; try first | (refine ⟨?_, ?_⟩ <;> refine zA ?_) | (refine ⟨fun c21 => ?_, fun c21 => ?_⟩ <;> (try simp [B_iff, B_not] at c21))
 | (refine Qe ?_)
 | (refine Qs ?_; simp [-zg, -zd, ↓Qb, ↓Qa, go_sem])
 | (refine Qr ?_; simp [-zg, -zd, ↓Qb, ↓Qa, go_sem])
 | (refine Qv ?_; simp [-zg, -zd, ↓Qb, ↓Qa, go_sem, Try.results140])
 | (intro hx; refine zA ?_)
 | (refine ⟨?_, ?_⟩ <;> refine zA ?_)
 | (intro hx; constructor <;> intro hs)
 | (constructor <;> intro hs)
 | (refine ⟨?_, fun hs => ?_⟩; refine zA ?_)
 | (refine ⟨fun hs => ?_, ?_⟩; rotate_left; refine zA ?_; rotate_left)))
@[go_sem] def zaeb : Con := .pure fun
  | [.st [.list n_a c_a, .list n_b c_b], .int .i64 i] => ((Is cI n_a c_a) ∧ (Is cI n_b c_b) ∧ (LasOk (de cI c_a) (de cI c_b)) ∧ (0 ≤ i) ∧ (i < ((de cI c_a).length : Int) + (de cI c_b).length), .tup [.int .i64 (nth ((de cI c_a) ++ (de cI c_b)) i.toNat), .bool true])
  | _ => (False, .any)
theorem zakf : ConOk Try.prog 140 zaeb := by
  refine ⟨Qp Try.func140 (by decide) rfl, fun args h => ?_⟩
  revert h
  dsimp only
  split
  · intro h
    obtain ⟨⟨a, rfl, rfl⟩, ⟨b, rfl, rfl⟩, hL, h0, h1⟩ := h
    try simp only [Qt] at *
    exact ⟨letterAt_pure a b _ hL h0 h1, by simp [go_sem]⟩
  · intro h
    exact h.elim
@[go_sem] def Γk12 : FuncId → Con := ext Γk11 140 zaeb
theorem Γk12_ok : ∀ g, ConOk Try.prog g (Γk12 g) := Qo Wa zakf

def nxI (a b : List Int) (i : Nat) : Nat := if i + 1 = a.length + b.length then a.length else i + 1
theorem nxI_lt {a b : List Int} {i : Nat} (h : 0 < b.length) (hi : i < a.length + b.length) : nxI a b i < a.length + b.length := by
  unfold nxI; split <;> omega

theorem l6Next_pure (a : List Int) (b : List Int) (i : Int) (hL : LasOk a b) (h0 : 0 ≤ i) (h1 : i < (a.length : Int) + b.length) : Pure Try.prog 141 [.st [li cI a, li cI b], .int .i64 i] (.int .i64 ((nxI a b i.toNat : Nat) : Int)) := by
  refine Pure.of_walk Try.func141 rfl (by simp [Try.f141]) (by simp [-zd, go_sem]) fun B hK => ?_
  obtain ⟨l1, l2, l3, l4, l5⟩ := id hL
  all_goals (repeat' (first
 | refine Qu ?_
 | refine Qc (id := 0) Γk12_ok [] (by kernel_rfl) ?_; simp [-zg, -zd, ↓Qb, ↓Qa, go_sem]; try (refine Xd hK 2 ?_; simp [go_sem])
 | refine Qc (id := 1) Γk12_ok [] (by kernel_rfl) ?_; simp [-zg, -zd, ↓Qb, ↓Qa, go_sem, Qk (x := i + 1) (by omega) (by omega), (show 0 < b.length by omega), l5, l3, (show 0 ≤ i + 1 by omega), (show i + 1 ≤ 9223372036854775807 by omega)]
 | (refine Qe ?_)
 | (refine Qs ?_; simp [-zg, -zd, ↓Qb, ↓Qa, go_sem])
 | (refine Qr ?_; simp [-zg, -zd, ↓Qb, ↓Qa, go_sem])
 | (refine Qv ?_; simp [-zg, -zd, ↓Qb, ↓Qa, go_sem, Try.results141])
 | (intro hx; refine zA ?_)
 | (refine ⟨?_, ?_⟩ <;> refine zA ?_)
 | (intro hx; constructor <;> intro hs)
 | (constructor <;> intro hs)
 | (refine ⟨?_, fun hs => ?_⟩; refine zA ?_)
 | (refine ⟨fun hs => ?_, ?_⟩; rotate_left; refine zA ?_; rotate_left)))
  all_goals (first
 | (unfold nxI; by_cases e : i + 1 = (a.length : Int) + b.length; (rw [if_neg (by omega), e, turn_end, if_pos (by omega)]; simp); (rw [if_neg (show ¬ i.toNat + 1 = a.length + b.length by omega)]; split; omega; (rw [turn_in (by omega) (by omega)]; omega)))
 | skip)
@[go_sem] def zagx : Con := .pure fun
  | [.st [.list n_a c_a, .list n_b c_b], .int .i64 i] => ((Is cI n_a c_a) ∧ (Is cI n_b c_b) ∧ (LasOk (de cI c_a) (de cI c_b)) ∧ (0 ≤ i) ∧ (i < ((de cI c_a).length : Int) + (de cI c_b).length), .int .i64 ((nxI (de cI c_a) (de cI c_b) i.toNat : Nat) : Int))
  | _ => (False, .any)
theorem zaok : ConOk Try.prog 141 zagx := by
  refine ⟨Qp Try.func141 (by decide) rfl, fun args h => ?_⟩
  revert h
  dsimp only
  split
  · intro h
    obtain ⟨⟨a, rfl, rfl⟩, ⟨b, rfl, rfl⟩, hL, h0, h1⟩ := h
    try simp only [Qt] at *
    exact ⟨l6Next_pure a b _ hL h0 h1, by simp [go_sem]⟩
  · intro h
    exact h.elim
@[go_sem] def Γk13 : FuncId → Con := ext Γk12 141 zagx
theorem zalh : ∀ g, ConOk Try.prog g (Γk13 g) := Qo Γk12_ok zaok

theorem implNext_pure (a : List Int) (b : List Int) (i : Int) (hL : LasOk a b) (h0 : 0 ≤ i) (h1 : i < (a.length : Int) + b.length) : Pure Try.prog 191 [.st [li cI a, li cI b], .int .i64 i] (.int .i64 ((nxI a b i.toNat : Nat) : Int)) := by
  refine Pure.of_walk Try.func191 rfl (by simp [Try.f191]) (by simp [-zd, go_sem]) fun B hK => ?_
  obtain ⟨l1, l2, l3, l4, l5⟩ := id hL
  all_goals (repeat' (first
 | refine Qu ?_
 | refine Qc (id := 0) zalh [] (by kernel_rfl) ?_; simp [-zg, -zd, ↓Qb, ↓Qa, go_sem]; try (refine Xd hK 2 ?_; simp [go_sem])
 | refine Qc (id := 1) zalh [] (by kernel_rfl) ?_; simp [-zg, -zd, ↓Qb, ↓Qa, go_sem, Qk (x := i + 1) (by omega) (by omega), Qk (x := (a.length : Int) + (b.length : Int)) (by omega) (by omega)]
 | refine Qc (id := 2) zalh [] (by kernel_rfl) ?_; simp [-zg, -zd, ↓Qb, ↓Qa, go_sem]
 | refine Qc (id := 3) zalh [] (by kernel_rfl) ?_; simp [-zg, -zd, ↓Qb, ↓Qa, go_sem, Qk (x := i + 1) (by omega) (by omega)]
 | refine Qd (c := .tmp 14) ?_; simp [-zg, -zd, ↓Qb, ↓Qa, go_sem]; try first | (refine ⟨?_, ?_⟩ <;> refine zA ?_) | (refine ⟨fun c14 => ?_, fun c14 => ?_⟩ <;> (try simp [B_iff, B_not] at c14))
 | (refine Qe ?_)
 | (refine Qs ?_; simp [-zg, -zd, ↓Qb, ↓Qa, go_sem])
 | (refine Qr ?_; simp [-zg, -zd, ↓Qb, ↓Qa, go_sem])
 | (refine Qv ?_; simp [-zg, -zd, ↓Qb, ↓Qa, go_sem, Try.results191])
 | (intro hx; refine zA ?_)
 | (refine ⟨?_, ?_⟩ <;> refine zA ?_)
 | (intro hx; constructor <;> intro hs)
 | (constructor <;> intro hs)
 | (refine ⟨?_, fun hs => ?_⟩; refine zA ?_)
 | (refine ⟨fun hs => ?_, ?_⟩; rotate_left; refine zA ?_; rotate_left)))
  all_goals (first
 | (unfold nxI; rw [if_pos (by omega)])
 | (unfold nxI; rw [if_neg (by omega)]; omega)
 | skip)
@[go_sem] def zaej : Con := .pure fun
  | [.st [.list n_a c_a, .list n_b c_b], .int .i64 i] => ((Is cI n_a c_a) ∧ (Is cI n_b c_b) ∧ (LasOk (de cI c_a) (de cI c_b)) ∧ (0 ≤ i) ∧ (i < ((de cI c_a).length : Int) + (de cI c_b).length), .int .i64 ((nxI (de cI c_a) (de cI c_b) i.toNat : Nat) : Int))
  | _ => (False, .any)
theorem zakl : ConOk Try.prog 191 zaej := by
  refine ⟨Qp Try.func191 (by decide) rfl, fun args h => ?_⟩
  revert h
  dsimp only
  split
  · intro h
    obtain ⟨⟨a, rfl, rfl⟩, ⟨b, rfl, rfl⟩, hL, h0, h1⟩ := h
    try simp only [Qt] at *
    exact ⟨implNext_pure a b _ hL h0 h1, by simp [go_sem]⟩
  · intro h
    exact h.elim
@[go_sem] def Γk14 : FuncId → Con := ext Γk13 191 zaej
theorem Γk14_ok : ∀ g, ConOk Try.prog g (Γk14 g) := Qo zalh zakl

theorem all_pure (a : List Int) (b : List Int) (hL : LasOk a b) : Pure Try.prog 189 [.st [li cI a, li cI b]] (fr 1 cI (a ++ b)) := by
  refine Pure.of_walk Try.func189 rfl (by simp [Try.f189]) (by simp [-zd, go_sem]) fun B hK => ?_
  obtain ⟨l1, l2, l3, l4, l5⟩ := id hL; have hf : [a, b].flatten = a ++ b := (by simp)
  all_goals (repeat' (first
 | refine Qu ?_
 | refine Qc (id := 0) Γk14_ok [] (by kernel_rfl) ?_; simp [-zg, -zd, ↓Qb, ↓Qa, go_sem]; try (refine Xd hK 1 ?_; simp [go_sem])
 | refine Qc (id := 1) Γk14_ok [] (by kernel_rfl) ?_; simp [-zg, -zd, ↓Qb, ↓Qa, go_sem, hf, makeD_two, (show a.length + b.length ≤ 1048576 by omega)]
 | (refine Qe ?_)
 | (refine Qs ?_; simp [-zg, -zd, ↓Qb, ↓Qa, go_sem])
 | (refine Qr ?_; simp [-zg, -zd, ↓Qb, ↓Qa, go_sem])
 | (refine Qv ?_; simp [-zg, -zd, ↓Qb, ↓Qa, go_sem, Try.results189])
 | (intro hx; refine zA ?_)
 | (refine ⟨?_, ?_⟩ <;> refine zA ?_)
 | (intro hx; constructor <;> intro hs)
 | (constructor <;> intro hs)
 | (refine ⟨?_, fun hs => ?_⟩; refine zA ?_)
 | (refine ⟨fun hs => ?_, ?_⟩; rotate_left; refine zA ?_; rotate_left)))
@[go_sem] def all_pureC : Con := .pure fun
  | [.st [.list n_a c_a, .list n_b c_b]] => ((Is cI n_a c_a) ∧ (Is cI n_b c_b) ∧ (LasOk (de cI c_a) (de cI c_b)), fr 1 cI ((de cI c_a) ++ (de cI c_b)))
  | _ => (False, .any)
theorem all_pureC_ok : ConOk Try.prog 189 all_pureC := by
  refine ⟨Qp Try.func189 (by decide) rfl, fun args h => ?_⟩
  revert h
  dsimp only
  split
  · intro h
    obtain ⟨⟨a, rfl, rfl⟩, ⟨b, rfl, rfl⟩, hL⟩ := h
    try simp only [Qt] at *
    exact ⟨all_pure a b hL, by simp [go_sem]⟩
  · intro h
    exact h.elim
@[go_sem] def Γk15 : FuncId → Con := ext Γk14 189 all_pureC
theorem Γk15_ok : ∀ g, ConOk Try.prog g (Γk15 g) := Qo Γk14_ok all_pureC_ok

def tk (x : Int) (e : Tr4) : Bool := decide (bitsD .and .i64 x e.2.1 = e.2.2.1)

theorem on_pure (p : Int) (q : Int) (r : Int) (s : Int) (x : Int)  : Pure Try.prog 142 [.st [.int .i64 p, .int .i64 q, .int .i64 r, .int .i64 s], .int .i64 x] (.bool (tk x (p, q, r, s))) := by
  refine Pure.of_walk Try.func142 rfl (by simp [Try.f142]) (by simp [-zd, go_sem]) fun B hK => ?_
  (repeat' (first
 | refine Qu ?_
 | refine Qc (id := 0) Γk15_ok [] (by kernel_rfl) ?_; simp [-zg, -zd, ↓Qb, ↓Qa, go_sem, tk]; try (refine Xd hK 2 ?_; simp [go_sem])
 | refine Qc (id := 1) Γk15_ok [] (by kernel_rfl) ?_; simp [-zg, -zd, ↓Qb, ↓Qa, go_sem, tk]
 | (refine Qe ?_)
 | (refine Qs ?_; simp [-zg, -zd, ↓Qb, ↓Qa, go_sem])
 | (refine Qr ?_; simp [-zg, -zd, ↓Qb, ↓Qa, go_sem])
 | (refine Qv ?_; simp [-zg, -zd, ↓Qb, ↓Qa, go_sem, Try.results142, tk])
 | (intro hx; refine zA ?_)
 | (refine ⟨?_, ?_⟩ <;> refine zA ?_)
 | (intro hx; constructor <;> intro hs)
 | (constructor <;> intro hs)
 | (refine ⟨?_, fun hs => ?_⟩; refine zA ?_)
 | (refine ⟨fun hs => ?_, ?_⟩; rotate_left; refine zA ?_; rotate_left)))
@[go_sem] def on_pureC : Con := .pure fun
  | [.st [.int .i64 p, .int .i64 q, .int .i64 r, .int .i64 s], .int .i64 x] => (True, .bool (tk x (p, q, r, s)))
  | _ => (False, .any)
theorem on_pureC_ok : ConOk Try.prog 142 on_pureC := by
  refine ⟨Qp Try.func142 (by decide) rfl, fun args h => ?_⟩
  revert h
  dsimp only
  split
  · intro h
    skip
    skip
    exact ⟨on_pure _ _ _ _ _, by simp [go_sem]⟩
  · intro h
    exact h.elim
@[go_sem] def Γk16 : FuncId → Con := ext Γk15 142 on_pureC
theorem Γk16_ok : ∀ g, ConOk Try.prog g (Γk16 g) := Qo Γk15_ok on_pureC_ok

theorem takes_pure (p : Int) (q : Int) (r : Int) (s : Int) (x : Int)  : Pure Try.prog 190 [.st [.int .i64 p, .int .i64 q, .int .i64 r, .int .i64 s], .int .i64 x] (.bool (tk x (p, q, r, s))) := by
  refine Pure.of_walk Try.func190 rfl (by simp [Try.f190]) (by simp [-zd, go_sem]) fun B hK => ?_
  (repeat' (first
 | refine Qu ?_
 | refine Qc (id := 0) Γk16_ok [] (by kernel_rfl) ?_; simp [-zg, -zd, ↓Qb, ↓Qa, go_sem, tk]; try (refine Xd hK 2 ?_; simp [go_sem])
 | refine Qc (id := 1) Γk16_ok [] (by kernel_rfl) ?_; simp [-zg, -zd, ↓Qb, ↓Qa, go_sem, tk]
 | (refine Qe ?_)
 | (refine Qs ?_; simp [-zg, -zd, ↓Qb, ↓Qa, go_sem])
 | (refine Qr ?_; simp [-zg, -zd, ↓Qb, ↓Qa, go_sem])
 | (refine Qv ?_; simp [-zg, -zd, ↓Qb, ↓Qa, go_sem, Try.results190, tk])
 | (intro hx; refine zA ?_)
 | (refine ⟨?_, ?_⟩ <;> refine zA ?_)
 | (intro hx; constructor <;> intro hs)
 | (constructor <;> intro hs)
 | (refine ⟨?_, fun hs => ?_⟩; refine zA ?_)
 | (refine ⟨fun hs => ?_, ?_⟩; rotate_left; refine zA ?_; rotate_left)))
@[go_sem] def zain : Con := .pure fun
  | [.st [.int .i64 p, .int .i64 q, .int .i64 r, .int .i64 s], .int .i64 x] => (True, .bool (tk x (p, q, r, s)))
  | _ => (False, .any)
theorem takes_pureC_ok : ConOk Try.prog 190 zain := by
  refine ⟨Qp Try.func190 (by decide) rfl, fun args h => ?_⟩
  revert h
  dsimp only
  split
  · intro h
    skip
    skip
    exact ⟨takes_pure _ _ _ _ _, by simp [go_sem]⟩
  · intro h
    exact h.elim
@[go_sem] def Γk17 : FuncId → Con := ext Γk16 190 zain
theorem Za : ∀ g, ConOk Try.prog g (Γk17 g) := Qo Γk16_ok takes_pureC_ok


def aStep (n : Nat) (x : Int) (P Q : Nat) (r : List (List Int)) (e : Tr4) : List (List Int) := if tk x e = true then addE r ((P : Int) + e.1) ((Q : Int) + e.2.2.2) else r
def aIn (n : Nat) (es : List Tr4) (x : Int) (P Q : Nat) (r : List (List Int)) (k : Nat) : List (List Int) := (es.take k).foldl (aStep n x P Q) r
theorem zanv (n : Nat) (es : List Tr4) (x : Int) (P Q : Nat) (r : List (List Int)) : aIn n es x P Q r 0 = r := by simp [aIn]
theorem zahg {n : Nat} {es : List Tr4} {x : Int} {P Q : Nat} {r : List (List Int)} {k : Nat} (h : k < es.length) : aIn n es x P Q r (k + 1) = aStep n x P Q (aIn n es x P Q r k) (nth es k) := by
  unfold aIn; rw [List.take_succ_eq_append_getElem h, ← Qw h, List.foldl_append]; rfl
def aRow (n : Nat) (es : List Tr4) (a b : List Int) : Nat → List (List Int)
  | 0 => zrP ((a.length + b.length) * n) []
  | i + 1 => aIn n es (nth (a ++ b) i) (i * n) (nxI a b i * n) (aRow n es a b i) es.length
structure AR (N M : Nat) (r : List (List Int)) : Prop where
  len : r.length = N
  rng : ∀ i, i < N → ∀ y, y ∈ nth r i → 0 ≤ y ∧ y < N
  row : ∀ i, i < N → (nth r i).length ≤ M
theorem AR.start (N : Nat) : AR N 0 (zrP N []) := by
  have h : ∀ i, i < N → nth (zrP N ([] : List Int)) i = [] := fun i hi => by rw [Qw (by simpa using hi)]; simp
  exact ⟨by simp, fun i hi y hy => (by rw [h i hi] at hy; cases hy), fun i hi => (by rw [h i hi]; simp)⟩
theorem AR.step {N M n : Nat} {r : List (List Int)} (h : AR N M r) {x : Int} {P Q : Nat} {e : Tr4} (h1 : 0 ≤ e.1) (h2 : (P : Int) + e.1 < N) (h3 : 0 ≤ e.2.2.2) (h4 : (Q : Int) + e.2.2.2 < N) : AR N (M + 1) (aStep n x P Q r e) := by
  unfold aStep
  split
  · have hf : ((P : Int) + e.1).toNat < r.length := by rw [h.len]; omega
    refine ⟨by rw [addE_len, h.len], fun i hi y hy => ?_, fun i hi => ?_⟩
    · rw [mem_addE hf] at hy
      rcases hy with q | ⟨_, rfl⟩
      · exact h.rng i hi y q
      · omega
    · rw [nth_addE hf]
      have := h.row i hi
      split
      · simp; omega
      · omega
  · exact ⟨h.len, h.rng, fun i hi => by have := h.row i hi; omega⟩
theorem AR.aIn {N M n : Nat} {r : List (List Int)} (h : AR N M r) {es : List Tr4} (hr : InRng n es) {x : Int} {P Q : Nat} (hP : P + n ≤ N) (hQ : Q + n ≤ N) : ∀ k, k ≤ es.length → AR N (M + k) (aIn n es x P Q r k)
  | 0, _ => by rw [zanv]; exact h
  | k + 1, hk => by
    rw [zahg (by omega)]
    obtain ⟨⟨g1, g2⟩, g3, g4⟩ := hr k (by omega)
    exact (h.aIn hr hP hQ k (by omega)).step g1 (by omega) g3 (by omega)
theorem Vk {i m n : Nat} (h : i < m) : i * n + n ≤ m * n := by rw [← Nat.succ_mul]; exact Nat.mul_le_mul_right n h
theorem aRow_ok {n : Nat} {es : List Tr4} (hr : InRng n es) {a b : List Int} (hb : 0 < b.length) : ∀ i, i ≤ a.length + b.length → AR ((a.length + b.length) * n) (i * es.length) (aRow n es a b i)
  | 0, _ => by simp only [aRow, Nat.zero_mul]; exact AR.start _
  | i + 1, hi => by
    have ih := aRow_ok hr (a := a) (b := b) hb i (by omega)
    have := ih.aIn hr (x := nth (a ++ b) i) (Vk (n := n) (show i < a.length + b.length by omega)) (Vk (n := n) (nxI_lt (a := a) (b := b) hb (show i < a.length + b.length by omega))) es.length (Nat.le_refl _)
    rw [Nat.succ_mul]
    exact this
def aAll (n : Nat) (es : List Tr4) (a b : List Int) : List (List Int) := aRow n es a b (a.length + b.length)
theorem aAll_ok {n : Nat} {es : List Tr4} (hr : InRng n es) {a b : List Int} (hL : LasOk a b) (hn : n ≤ 64) (he : es.length ≤ 2048) : Xh (aAll n es a b) ∧ NextS (aAll n es a b) ∧ (aAll n es a b).length = (a.length + b.length) * n ∧ (a.length + b.length) * n ≤ 10240 := by
  obtain ⟨l1, l2, l3, l4, l5⟩ := hL
  have h := aRow_ok hr (a := a) (b := b) (by omega) (a.length + b.length) (Nat.le_refl _)
  have hm : (a.length + b.length) * n ≤ 160 * 64 := Nat.mul_le_mul (by omega) hn
  have hs : (a.length + b.length) * es.length ≤ 160 * 2048 := Nat.mul_le_mul (by omega) he
  refine ⟨fun j hj k hk => ?_, fun j hj => ?_, h.len, by omega⟩
  · unfold aAll at hj hk ⊢
    rw [h.len] at hj ⊢
    exact h.rng j hj _ (Xl hk)
  · unfold aAll at hj ⊢
    rw [h.len] at hj
    have := h.row j hj
    omega
def Acp (n : Nat) (acc : List Bool) (ss : List Int) (nx : List (List Int)) : Prop := ∃ x : Nat, x < nx.length ∧ RchS nx ss (x : Int) ∧ Cyc nx (x : Int) ∧ nth acc (x % n) = true
theorem tmod_nat (k n : Nat) : ((k : Int)).tmod (n : Int) = ((k % n : Nat) : Int) := by
  rw [Int.tmod_eq_emod_of_nonneg (by omega)]; exact (Int.natCast_emod k n).symm
theorem oN_addG {xs : List (List Int)} {f t : Int} (hf : f.toNat < xs.length) (junk : List D) : (cat oN xs ++ junk).set f.toNat (.fr 1 ((nth xs f.toNat).length + 1) (cat cI (nth xs f.toNat ++ [t]))) = cat oN (addE xs f t) ++ junk := by
  have := oN_set (xs := xs) (i := f.toNat) (junk := junk) (y := nth xs f.toNat ++ [t]) hf
  rw [addE, ← this, zair (by simp)]
  simp

theorem AutOk.starts {a : List Int} {n : Nat} {c : List Tr4} (h : AutOk a n c) {N : Nat} (hN : n ≤ N) : Starts N a := by
  have h1 := h.2.2.1
  have hge := zaho (a := a) (k := a.length) (fun i hi => (h1 i hi).1)
  have hlt : ∀ i j, i < j → j < a.length → nth a i < nth a j := by
    intro i j hij
    induction j with
    | zero => omega
    | succ j ih =>
      intro hj
      have h2 := (h1 (j + 1) hj).1
      simp only [ahead] at h2
      by_cases e : i = j
      · subst e; exact h2
      · have := ih (by omega) (by omega); omega
  refine ⟨fun x hx => ?_, ?_⟩
  · obtain ⟨i, hi, rfl⟩ := Vy hx
    have := hge i hi
    have := (h1 i hi).2
    omega
  · rw [List.nodup_iff_pairwise_ne, List.pairwise_iff_getElem]
    intro i j hi hj hij e
    have := hlt i j hij hj
    rw [Qw hi, Qw hj] at this
    omega
def gdA (n : Nat) (acc : List Bool) (ss : List Int) (nx : List (List Int)) (i : Nat) : Prop := RchS nx ss (i : Int) ∧ Cyc nx (i : Int) ∧ nth acc (i % n) = true
theorem acp_none {n : Nat} {acc : List Bool} {ss : List Int} {nx : List (List Int)} (h : ∀ i, i < nx.length → ¬ gdA n acc ss nx i) : ¬ Acp n acc ss nx := fun ⟨x, x1, x2⟩ => h x x1 x2
set_option maxHeartbeats 8000000 in

theorem accepts_pure (a : List Int) (b : List Bool) (c : List Tr4) (s : List Int) (l : List Int) (hA : AutOk a b.length c) (hL : LasOk s l) : Pure Try.prog 138 [.st [li cI a, li cB b, li cT c], .st [li cI s, li cI l]] (.bool (B (Acp b.length b a (aAll b.length c s l)))) := by
  refine Pure.of_walk Try.func138 rfl (by simp [Try.f138]) (by simp [-zd, go_sem]) fun B hK => ?_
  obtain ⟨n1, n2, n3, n4⟩ := hA.sizes; have hr := hA.rng; obtain ⟨l1, l2, l3, l4, l5⟩ := id hL; obtain ⟨hx, hs, hlen, hle⟩ := aAll_ok hr hL n2 n4; have hsr := fun i (hi : i < a.length) => hA.2.2.1 i hi
  all_goals (repeat' (first
 | refine Qu ?_
 | refine Qc (id := 0) Za [] (by kernel_rfl) ?_; simp [-zg, -zd, ↓Qb, ↓Qa, go_sem]; try ((refine Xd hK 2 ?_); (refine Xd hK 3 ?_); simp [go_sem])
 | refine Xo (id := 1) Za mixed [] [] (by kernel_rfl) (by kernel_rfl) (by simp [-zg, -zd, ↓Qb, ↓Qa, go_sem, hL]) ?_; simp [-zg, -zd, ↓Qb, ↓Qa, go_sem, hL]; try ((refine Xd hK 5 ?_); (simp [go_sem]); (obtain ⟨w, hw⟩ : ∃ w, s ++ l = w := ⟨_, rfl⟩); (have hwl : w.length = s.length + l.length := (by rw [← hw]; simp)); (try rw [hw]); (have e0 : (s.length : Int) + (l.length : Int) = (w.length : Int) := (by omega)); (have e1 : s.length + l.length = w.length := hwl.symm); (try rw [e1]); (rw [e1] at hlen hle); (obtain ⟨Qn, hQn⟩ : ∃ Qn, w.length * b.length = Qn := ⟨_, rfl⟩); (rw [hQn] at hlen hle); (have hmul : (w.length : Int) * (b.length : Int) = (Qn : Int) := (by rw [← hQn]; exact (Int.natCast_mul ..).symm)); (have hbQ : b.length ≤ Qn := (by have := Vk (n := b.length) (show 0 < w.length by omega); omega)))
 | refine Qc (id := 2) Za [] (by kernel_rfl) ?_; simp [-zg, -zd, ↓Qb, ↓Qa, go_sem, hmul, Qk (x := (Qn : Int)) (by omega) (by omega), make_oN, (by omega : 24 * (Qn : Int) ≤ 281474976710656), (by omega : (Qn : Int) ≤ 281474976710656), (by omega : (Qn : Int) ≤ 9223372036854775807), (by omega : (0 : Int) ≤ (Qn : Int))]; try ((refine Zk 7 rfl fun b7 c7 j7 q7 hc7 hj7 => ?_); (clear q7); (refine Qx (fun H1 => H1 b7 = some (cat oN (aRow b.length c s l 0) ++ zrP j7 D.any)) (by simp [upd, aRow, e1, hQn]) fun H1 w7 => ?_))
 | refine Qc (id := 3) Za [] (by kernel_rfl) ?_; simp [-zg, -zd, ↓Qb, ↓Qa, go_sem]
 | refine Qc (id := 4) Za [] (by kernel_rfl) ?_; simp [-zg, -zd, ↓Qb, ↓Qa, go_sem]
 | refine Qc (id := 5) Za [] (by kernel_rfl) ?_; simp [-zg, -zd, ↓Qb, ↓Qa, go_sem, c28, Qm c28, zsP c28]
 | refine Qc (id := 6) Za [] (by kernel_rfl) ?_; simp [-zg, -zd, ↓Qb, ↓Qa, go_sem]; try ((have hqw : q.1 < w.length := (by omega)); (have hP' := Vk (n := b.length) hqw); (have hzl : nxI s l q.1 < w.length := (by rw [hwl]; exact nxI_lt (by omega) (by omega))); (have hZ' := Vk (n := b.length) hzl); (have hAR0 := aRow_ok hr (a := s) (b := l) (by omega) q.1 (by omega)); (rw [← hwl] at hAR0); (have hcm : q.1 * c.length ≤ 160 * 2048 := Nat.mul_le_mul (by omega) n4); (have hqn : nxI s l ((q.1 : Int)).toNat = nxI s l q.1 := (by rw [Int.toNat_natCast])); (have hPi : (q.1 : Int) * (b.length : Int) = ((q.1 * b.length : Nat) : Int) := (Int.natCast_mul ..).symm); (have hZi : ((nxI s l q.1 : Nat) : Int) * (b.length : Int) = ((nxI s l q.1 * b.length : Nat) : Int) := (Int.natCast_mul ..).symm); (rw [hQn] at hP' hZ' hAR0); (have hin := fun k hk => hAR0.aIn hr (x := nth w q.1) hP' hZ' k hk); (have hsucc : aRow b.length c s l (q.1 + 1) = aIn b.length c (nth w q.1) (q.1 * b.length) (nxI s l q.1 * b.length) (aRow b.length c s l q.1) c.length := (by rw [← hw]; rfl)); (obtain ⟨P, hP⟩ : ∃ P, q.1 * b.length = P := ⟨_, rfl⟩); (obtain ⟨Z, hZ⟩ : ∃ Z, nxI s l q.1 * b.length = Z := ⟨_, rfl⟩); (rw [hP] at hP' hPi hsucc); (rw [hZ] at hZ' hZi hsucc); (simp only [hP, hZ] at hin); (obtain ⟨z, hz⟩ : ∃ z, nxI s l q.1 = z := ⟨_, rfl⟩); (rw [hz] at hZi hzl hqn); (obtain ⟨x, hxw⟩ : ∃ x, nth w q.1 = x := ⟨_, rfl⟩); (try rw [hxw]); (rw [hxw] at hsucc); (simp only [hxw] at hin))
 | refine Qc (id := 7) Za [] (by kernel_rfl) ?_; simp [-zg, -zd, ↓Qb, ↓Qa, go_sem]
 | refine Qc (id := 8) Za [] (by kernel_rfl) ?_; simp [-zg, -zd, ↓Qb, ↓Qa, go_sem, c36, Qm c36, zsP c36]; try ((refine Xd hK 11 ?_); (simp [go_sem]))
 | refine Qc (id := 9) Za [] (by kernel_rfl) ?_; simp [-zg, -zd, ↓Qb, ↓Qa, go_sem]; try ((cases htk : tk x (nth c y.1)); rotate_left; (obtain ⟨f, hf⟩ : ∃ f, (P : Int) + (nth c y.1).1 = f := ⟨_, rfl⟩); (obtain ⟨t, ht⟩ : ∃ t, (Z : Int) + (nth c y.1).2.2.2 = t := ⟨_, rfl⟩); (obtain ⟨⟨p0, p1⟩, p2, p3⟩ := hr y.1 c36); (have f0 : 0 ≤ f := (by omega)); (have f1 : f < (Qn : Int) := (by omega)); (have t0 : 0 ≤ t := (by omega)); (have t1 : t < (Qn : Int) := (by omega)); (have hft : f.toNat < Qn := (by omega)); (have hAR := hin y.1 (by omega)); (have hnl := hAR.len); (have hrow := hAR.row f.toNat hft); (have hnext : (aIn b.length c x P Z (aRow b.length c s l q.1) (y.1 + 1)) = addE (aIn b.length c x P Z (aRow b.length c s l q.1) y.1) f t := (by rw [zahg c36, aStep, if_pos htk, hf, ht])); (have hadd := oN_addG (xs := (aIn b.length c x P Z (aRow b.length c s l q.1) y.1)) (f := f) (t := t) (by omega) (zrP j7 D.any)); (rw [← hnext] at hadd); (have hgt := oN_get (xs := (aIn b.length c x P Z (aRow b.length c s l q.1) y.1)) (i := f.toNat) (by omega) (zrP j7 D.any)); (have hcl := Wf (xs := (aIn b.length c x P Z (aRow b.length c s l q.1) y.1)) (junk := zrP j7 D.any)); (rw [List.length_replicate, hnl] at hcl); (by_cases he : (nth (aIn b.length c x P Z (aRow b.length c s l q.1) y.1) f.toNat) = []); (rw [he, zapb] at hgt); (rw [he] at hadd); (obtain ⟨cells, hce⟩ : ∃ cells, (cat oN (aIn b.length c x P Z (aRow b.length c s l q.1) y.1) ++ zrP j7 D.any) = cells := ⟨_, rfl⟩); (rw [hce] at hgt hcl e2 hadd); (have hadd1 : cells.set f.toNat (.fr 1 1 [.int .i64 t]) = cat oN (aIn b.length c x P Z (aRow b.length c s l q.1) (y.1 + 1)) ++ zrP j7 D.any := hadd); rotate_left; (have hcell := oN_cell (by omega) he (zrP j7 D.any)); (refine Zp b7 f.toNat e2 hcell fun rb rcp rj q8 hrc hrj => ?_); (dsimp only at q8); (have rn : ¬ rb = b7 := (by rintro rfl; rw [e2] at q8; cases q8)); (clear q8); (have hset2 : ∀ z, ((cat oN (aIn b.length c x P Z (aRow b.length c s l q.1) y.1) ++ zrP j7 D.any).set f.toNat (D.sl rb 1 0 (nth (aIn b.length c x P Z (aRow b.length c s l q.1) y.1) f.toNat).length rcp)).set f.toNat z = (cat oN (aIn b.length c x P Z (aRow b.length c s l q.1) y.1) ++ zrP j7 D.any).set f.toNat z := fun z => List.set_set ..); (have hgi2 : ((cat oN (aIn b.length c x P Z (aRow b.length c s l q.1) y.1) ++ zrP j7 D.any).set f.toNat (D.sl rb 1 0 (nth (aIn b.length c x P Z (aRow b.length c s l q.1) y.1) f.toNat).length rcp))[f.toNat]? = some (D.sl rb 1 0 (nth (aIn b.length c x P Z (aRow b.length c s l q.1) y.1) f.toNat).length rcp) := List.getElem?_set_self (by rw [Wf]; omega)); (have hgt2 : ((cat oN (aIn b.length c x P Z (aRow b.length c s l q.1) y.1) ++ zrP j7 D.any).set f.toNat (D.sl rb 1 0 (nth (aIn b.length c x P Z (aRow b.length c s l q.1) y.1) f.toNat).length rcp)).getD f.toNat D.any = (D.sl rb 1 0 (nth (aIn b.length c x P Z (aRow b.length c s l q.1) y.1) f.toNat).length rcp) := (by rw [List.getD_eq_getElem?_getD, hgi2]; rfl)); (have hadd2 := hadd); (rw [← hset2] at hadd2); (have hcl2 : ((cat oN (aIn b.length c x P Z (aRow b.length c s l q.1) y.1) ++ zrP j7 D.any).set f.toNat (D.sl rb 1 0 (nth (aIn b.length c x P Z (aRow b.length c s l q.1) y.1) f.toNat).length rcp)).length = Qn + j7 := (by rw [List.length_set]; exact hcl)); (obtain ⟨cells, hce⟩ : ∃ cells, (cat oN (aIn b.length c x P Z (aRow b.length c s l q.1) y.1) ++ zrP j7 D.any).set f.toNat (D.sl rb 1 0 (nth (aIn b.length c x P Z (aRow b.length c s l q.1) y.1) f.toNat).length rcp) = cells := ⟨_, rfl⟩); (refine Qx (fun H4 => H4 b7 = some cells ∧ H4 rb = some (cat cI (nth (aIn b.length c x P Z (aRow b.length c s l q.1) y.1) f.toNat) ++ zrP rj D.any)) ⟨by simp [upd, rn, Ne.symm rn, ← hce], by simp [upd, rn, Ne.symm rn]⟩ fun H4 ⟨g4, hrb⟩ => ?_); (rw [hce] at hgt2 hadd2 hcl2 hgi2))
 | refine Xr (id := 10) Za mixed [(b7, cells)] [] [7, 8, 6, 11] (by kernel_rfl) (by kernel_rfl) (by simp [-zg, -zd, ↓Qb, ↓Qa, go_sem, Xy, g4, hrb, rn, Ne.symm rn, hgt2, hcl2, Zg, hadd2, hPi, hZi, hf, ht, hL, hz, Qk (x := (P : Int)) (by omega) (by omega), Qk (x := f) (by omega) (by omega), Qk (x := (Z : Int)) (by omega) (by omega), Qk (x := t) (by omega) (by omega), (show (0 : Int) ≤ (q.1 : Int) by omega), (show (q.1 : Int) < (s.length : Int) + (l.length : Int) by omega), hqn, (show f.toNat < Qn + j7 by omega), (show f.toNat + 1 ≤ Qn + j7 by omega), f0, f1, hft, (show rcp ≤ (nth (aIn b.length c x P Z (aRow b.length c s l q.1) y.1) f.toNat).length + rj by omega), (show (nth (aIn b.length c x P Z (aRow b.length c s l q.1) y.1) f.toNat).length + 1 ≤ 9223372036854775807 by omega), (show (nth (aIn b.length c x P Z (aRow b.length c s l q.1) y.1) f.toNat).length ≤ 9223372036854775806 by omega), (show 2 * ((nth (aIn b.length c x P Z (aRow b.length c s l q.1) y.1) f.toNat).length + 1) * 8 ≤ 281474976710656 by omega), Xw]) (by simp [-zg, -zd, ↓Qb, ↓Qa, go_sem, Xy, g4, hrb, rn, Ne.symm rn, hgt2, hcl2, Zg, hadd2, hPi, hZi, hf, ht, hL, hz, Qk (x := (P : Int)) (by omega) (by omega), Qk (x := f) (by omega) (by omega), Qk (x := (Z : Int)) (by omega) (by omega), Qk (x := t) (by omega) (by omega), (show (0 : Int) ≤ (q.1 : Int) by omega), (show (q.1 : Int) < (s.length : Int) + (l.length : Int) by omega), hqn, (show f.toNat < Qn + j7 by omega), (show f.toNat + 1 ≤ Qn + j7 by omega), f0, f1, hft, (show rcp ≤ (nth (aIn b.length c x P Z (aRow b.length c s l q.1) y.1) f.toNat).length + rj by omega), (show (nth (aIn b.length c x P Z (aRow b.length c s l q.1) y.1) f.toNat).length + 1 ≤ 9223372036854775807 by omega), (show (nth (aIn b.length c x P Z (aRow b.length c s l q.1) y.1) f.toNat).length ≤ 9223372036854775806 by omega), (show 2 * ((nth (aIn b.length c x P Z (aRow b.length c s l q.1) y.1) f.toNat).length + 1) * 8 ≤ 281474976710656 by omega), Xw]) ?_; simp [-zg, -zd, ↓Qb, ↓Qa, go_sem, Xy, g4, hrb, rn, Ne.symm rn, hgt2, hcl2, Zg, hadd2, hPi, hZi, hf, ht, hL, hz, Qk (x := (P : Int)) (by omega) (by omega), Qk (x := f) (by omega) (by omega), Qk (x := (Z : Int)) (by omega) (by omega), Qk (x := t) (by omega) (by omega), (show (0 : Int) ≤ (q.1 : Int) by omega), (show (q.1 : Int) < (s.length : Int) + (l.length : Int) by omega), hqn, (show f.toNat < Qn + j7 by omega), (show f.toNat + 1 ≤ Qn + j7 by omega), f0, f1, hft, (show rcp ≤ (nth (aIn b.length c x P Z (aRow b.length c s l q.1) y.1) f.toNat).length + rj by omega), (show (nth (aIn b.length c x P Z (aRow b.length c s l q.1) y.1) f.toNat).length + 1 ≤ 9223372036854775807 by omega), (show (nth (aIn b.length c x P Z (aRow b.length c s l q.1) y.1) f.toNat).length ≤ 9223372036854775806 by omega), (show 2 * ((nth (aIn b.length c x P Z (aRow b.length c s l q.1) y.1) f.toNat).length + 1) * 8 ≤ 281474976710656 by omega), Xw]; try ((refine Qx (fun H1 => H1 b7 = some (cat oN (aIn b.length c x P Z (aRow b.length c s l q.1) (y.1 + 1)) ++ zrP j7 D.any)) (by first | (simp [upd, Xy, rn, Ne.symm rn, hadd2]; done) | (simp [upd, Xy, hadd1]; done)) fun H9 t3 => ?_); (have fl : True ∧ True := ⟨trivial, trivial⟩))
 | refine Xr (id := 10) Za mixed [(b7, cells)] [] [7, 8, 6, 11] (by kernel_rfl) (by kernel_rfl) (by simp [-zg, -zd, ↓Qb, ↓Qa, go_sem, Xy, e2, hgt, hcl, hadd1, hPi, hZi, hf, ht, hL, hz, Qk (x := (P : Int)) (by omega) (by omega), Qk (x := f) (by omega) (by omega), Qk (x := (Z : Int)) (by omega) (by omega), Qk (x := t) (by omega) (by omega), (show (0 : Int) ≤ (q.1 : Int) by omega), (show (q.1 : Int) < (s.length : Int) + (l.length : Int) by omega), hqn, (show f.toNat < Qn + j7 by omega), (show f.toNat + 1 ≤ Qn + j7 by omega), f0, f1, hft, (show makeD [D.int .i64 0] 1 = [D.int .i64 0] from rfl)]) (by simp [-zg, -zd, ↓Qb, ↓Qa, go_sem, Xy, e2, hgt, hcl, hadd1, hPi, hZi, hf, ht, hL, hz, Qk (x := (P : Int)) (by omega) (by omega), Qk (x := f) (by omega) (by omega), Qk (x := (Z : Int)) (by omega) (by omega), Qk (x := t) (by omega) (by omega), (show (0 : Int) ≤ (q.1 : Int) by omega), (show (q.1 : Int) < (s.length : Int) + (l.length : Int) by omega), hqn, (show f.toNat < Qn + j7 by omega), (show f.toNat + 1 ≤ Qn + j7 by omega), f0, f1, hft, (show makeD [D.int .i64 0] 1 = [D.int .i64 0] from rfl)]) ?_; simp [-zg, -zd, ↓Qb, ↓Qa, go_sem, Xy, e2, hgt, hcl, hadd1, hPi, hZi, hf, ht, hL, hz, Qk (x := (P : Int)) (by omega) (by omega), Qk (x := f) (by omega) (by omega), Qk (x := (Z : Int)) (by omega) (by omega), Qk (x := t) (by omega) (by omega), (show (0 : Int) ≤ (q.1 : Int) by omega), (show (q.1 : Int) < (s.length : Int) + (l.length : Int) by omega), hqn, (show f.toNat < Qn + j7 by omega), (show f.toNat + 1 ≤ Qn + j7 by omega), f0, f1, hft, (show makeD [D.int .i64 0] 1 = [D.int .i64 0] from rfl)]; try ((refine Qx (fun H1 => H1 b7 = some (cat oN (aIn b.length c x P Z (aRow b.length c s l q.1) (y.1 + 1)) ++ zrP j7 D.any)) (by first | (simp [upd, Xy, rn, Ne.symm rn, hadd2]; done) | (simp [upd, Xy, hadd1]; done)) fun H9 t3 => ?_); (have fl : True ∧ True := ⟨trivial, trivial⟩))
 | (first | (rename True ∧ True => k_; skip) | ((have hsame : (aIn b.length c x P Z (aRow b.length c s l q.1) (y.1 + 1)) = (aIn b.length c x P Z (aRow b.length c s l q.1) y.1) := (by rw [zahg (by omega), aStep, if_neg (by rw [htk]; simp)])); (refine Qx (fun H1 => H1 b7 = some (cat oN (aIn b.length c x P Z (aRow b.length c s l q.1) (y.1 + 1)) ++ zrP j7 D.any)) (by dsimp only; rw [hsame]; exact e2) fun H9 t3 => ?_))); refine Qc (id := 11) Za [] (by kernel_rfl) ?_; simp [-zg, -zd, ↓Qb, ↓Qa, go_sem, wrapS (k := y.1) (by omega)]
 | refine Qc (id := 12) Za [] (by kernel_rfl) ?_; simp [-zg, -zd, ↓Qb, ↓Qa, go_sem, wrapS (k := q.1) (by omega)]
 | ((obtain ⟨kx, Hx⟩ := q); (dsimp only at *); (obtain rfl : kx = w.length := by omega); (have hal : aRow b.length c s l w.length = aAll b.length c s l := (by rw [hwl]; rfl)); (rw [hal] at g2); (obtain ⟨nx, hnx⟩ : ∃ nx, aAll b.length c s l = nx := ⟨_, rfl⟩); (rw [hnx] at g2 hx hs hlen ⊢); (refine Uf 7 (b := b7) (all := cat oN nx ++ zrP j7 D.any) rfl g2 (by omega) (by rw [Wf]; simp; omega) (by rw [Wf]; simp; omega) ?_); (rw [Nat.mul_one, Ul (f := oN) nx (zrP j7 D.any) (n := Qn) hlen.symm]); (refine Xd hK 7 ?_); (have hst := hA.starts hbQ); (have hcyl := cycL_len nx); (have hrcl := zaip nx a); (have hSN : ∀ z, z ∈ a → Nd nx z := (fun z hz => ⟨(hst.1 z hz).1, by rw [hlen]; exact (hst.1 z hz).2⟩))); refine Qc (id := 13) Za [] (by kernel_rfl) ?_; simp [-zg, -zd, ↓Qb, ↓Qa, go_sem, hx, hs, hlen, (show Qn ≤ 1048576 by omega), (show nx.length ≤ 1048576 by omega)]; try ((refine Xd hK 12 ?_); (simp [go_sem]))
 | refine Qc (id := 14) Za [] (by kernel_rfl) ?_; simp [-zg, -zd, ↓Qb, ↓Qa, go_sem, hx, hs, hlen, (show Qn ≤ 1048576 by omega), (show nx.length ≤ 1048576 by omega), (show (∀ x, x ∈ a → Nd nx x) = True from eq_true hSN), hSN, hrcl, (show a.length ≤ 1048576 by omega)]; try ((refine Xd hK 76 ?_); (simp [go_sem, hrcl]))
 | refine Qc (id := 15) Za [] (by kernel_rfl) ?_; simp [-zg, -zd, ↓Qb, ↓Qa, go_sem]
 | ((have hkn : k < nx.length := (by omega)); (have hmo := Nat.mod_lt k (show 0 < b.length by omega)); (have hr1 : (nth (rchL nx a) k = true) = RchS nx a (k : Int) := (by rw [nth_rchL hkn, B_iff])); (have hr2 : (nth (cycL nx) k = true) = Cyc nx (k : Int) := (by rw [nth_cycL hkn, B_iff])); (have hcn : ¬ cycL nx = [] := (by intro e; rw [e] at hcyl; simp at hcyl; omega)); (have hrn : ¬ rchL nx a = [] := (by intro e; rw [e] at hrcl; simp at hrcl; omega)); (have hbn : ¬ b = [] := (by rintro rfl; simp at n1)); (obtain ⟨km, hkm⟩ : ∃ km : Nat, k % b.length = km := ⟨_, rfl⟩); (have htm : (k : Int).tmod (b.length : Int) = (km : Int) := (by rw [tmod_nat, hkm])); (rw [hkm] at hmo)); refine Qc (id := 16) Za [] (by kernel_rfl) ?_; simp [-zg, -zd, ↓Qb, ↓Qa, go_sem, hrcl, hlen, c79, hrn, zsP c79]
 | refine Xo (id := 17) Za mixed [84, 90] [] (by kernel_rfl) (by kernel_rfl) (by simp [-zg, -zd, ↓Qb, ↓Qa, go_sem, hcyl, hrcl, hlen, c79, hcn, hbn, zsP c79, htm, hmo, zsP hmo, (show ¬ (b.length : Int) = 0 by omega)]) ?_; simp [-zg, -zd, ↓Qb, ↓Qa, go_sem, hcyl, hrcl, hlen, c79, hcn, hbn, zsP c79, htm, hmo, zsP hmo, (show ¬ (b.length : Int) = 0 by omega)]; try (refine ⟨fun s17a => ?_, fun s17a => ?_⟩ <;> (try simp [B_iff, B_not] at s17a) <;> try (refine ⟨fun s17b => ?_, fun s17b => ?_⟩ <;> (try simp [B_iff, B_not] at s17b) <;> try (refine ⟨fun s17c => ?_, fun s17c => ?_⟩ <;> (try simp [B_iff, B_not] at s17c))))
 | refine Qc (id := 18) Za [] (by kernel_rfl) ?_; simp [-zg, -zd, ↓Qb, ↓Qa, go_sem]
 | refine Qc (id := 19) Za [] (by kernel_rfl) ?_; simp [-zg, -zd, ↓Qb, ↓Qa, go_sem, wrapS (k := k) (by omega)]
 | refine Qc (id := 20) Za [] (by kernel_rfl) ?_; simp [-zg, -zd, ↓Qb, ↓Qa, go_sem]
 | refine Qd (c := .tmp 28) ?_; simp [-zg, -zd, ↓Qb, ↓Qa, go_sem]; try first | (refine ⟨?_, ?_⟩ <;> refine zA ?_) | (refine ⟨fun c28 => ?_, fun c28 => ?_⟩ <;> (try simp [B_iff, B_not] at c28))
 | refine Qd (c := .tmp 36) ?_; simp [-zg, -zd, ↓Qb, ↓Qa, go_sem]; try first | (refine ⟨?_, ?_⟩ <;> refine zA ?_) | (refine ⟨fun c36 => ?_, fun c36 => ?_⟩ <;> (try simp [B_iff, B_not] at c36))
 | refine Qd (c := .tmp 41) ?_; simp [-zg, -zd, ↓Qb, ↓Qa, go_sem]; try first | (refine ⟨?_, ?_⟩ <;> refine zA ?_) | (refine ⟨fun c41 => ?_, fun c41 => ?_⟩ <;> (try simp [B_iff, B_not] at c41))
 | refine Qd (c := .tmp 79) ?_; simp [-zg, -zd, ↓Qb, ↓Qa, go_sem]; try first | (refine ⟨?_, ?_⟩ <;> refine zA ?_) | (refine ⟨fun c79 => ?_, fun c79 => ?_⟩ <;> (try simp [B_iff, B_not] at c79))
 | refine Qd (c := .tmp 98) ?_; simp [-zg, -zd, ↓Qb, ↓Qa, go_sem]; try first | (refine ⟨?_, ?_⟩ <;> refine zA ?_) | (refine ⟨fun c98 => ?_, fun c98 => ?_⟩ <;> (try simp [B_iff, B_not] at c98))
 | (refine Qe (id := 0) (Xa (ι := Nat × Hp) (fun q : Nat × Hp => ⟨(upd (upd (upd (upd (upd (upd (upd (upd (fun _ => .any) 2 (.pd [li cI a, li cB b, li cT c])) 3 (.pd [li cI s, li cI l])) 5 (li cI w)) 6 (.int .i64 b.length)) 7 (.sl b7 1 0 Qn c7)) 25 (li cI w)) 26 (.int .i64 w.length)) 27 (.int .i64 q.1)), q.2⟩) (fun q => q.1 ≤ w.length ∧ q.2 b7 = some (cat oN (aRow b.length c s l q.1) ++ zrP j7 D.any)) (fun q => w.length - q.1) ((0, H1)) ?_ ?_ ?_); exact ⟨Nat.zero_le _, w7⟩; ((repeat' (first | exact Qh (by assumption) | exact Qj | exact ⟨fun _ => Or.inl rfl, fun _ _ h => nomatch h⟩ | refine Qg ?_ ?_ | refine Qi ?_)) <;> simp [-zg, -zd, ↓Qb, ↓Qa, go_sem]); rintro q ⟨g1, g2⟩)
 | (refine ⟨(q.1 + 1, y.2), ⟨by dsimp only; omega, by dsimp only; (have e9 : y.1 = c.length := by omega); rw [hsucc, ← e9]; exact e2⟩, by first | omega | (simp; done) | (simp; omega), ?_⟩; ((repeat' (first | exact Qh (by assumption) | exact Qj | exact ⟨fun _ => Or.inl rfl, fun _ _ h => nomatch h⟩ | refine Qg ?_ ?_ | refine Qi ?_)) <;> simp [-zg, -zd, ↓Qb, ↓Qa, go_sem]))
 | (refine Qe (id := 2) (Xa (ι := Nat × Hp) (fun y : Nat × Hp => ⟨(upd (upd (upd (upd (upd (upd (upd (upd (upd (upd (upd (upd (upd (fun _ => .any) 2 (.pd [li cI a, li cB b, li cT c])) 3 (.pd [li cI s, li cI l])) 5 (li cI w)) 6 (.int .i64 b.length)) 7 (.sl b7 1 0 Qn c7)) 8 (.int .i64 q.1)) 9 (.int .i64 x)) 25 (li cI w)) 26 (.int .i64 w.length)) 27 (.int .i64 q.1)) 33 (li cT c)) 34 (.int .i64 c.length)) 35 (.int .i64 y.1)), y.2⟩) (fun y => y.1 ≤ c.length ∧ y.2 b7 = some (cat oN (aIn b.length c x P Z (aRow b.length c s l q.1) y.1) ++ zrP j7 D.any)) (fun y => c.length - y.1) ((0, q.2)) ?_ ?_ ?_); exact ⟨Nat.zero_le _, by dsimp only; rw [zanv]; exact g2⟩; ((repeat' (first | exact Qh (by assumption) | exact Qj | exact ⟨fun _ => Or.inl rfl, fun _ _ h => nomatch h⟩ | refine Qg ?_ ?_ | refine Qi ?_)) <;> simp [-zg, -zd, ↓Qb, ↓Qa, go_sem]); rintro y ⟨e1, e2⟩)
 | (refine ⟨(y.1 + 1, H9), ⟨by dsimp only; omega, t3⟩, by first | omega | (simp; done) | (simp; omega), ?_⟩; ((repeat' (first | exact Qh (by assumption) | exact Qj | exact ⟨fun _ => Or.inl rfl, fun _ _ h => nomatch h⟩ | refine Qg ?_ ?_ | refine Qi ?_)) <;> simp [-zg, -zd, ↓Qb, ↓Qa, go_sem, ]))
 | (refine Qe (id := 4) (Xa (ι := Nat) (fun k : Nat => ⟨(upd (upd (upd (upd (upd (upd (fun _ => .any) 2 (.pd [li cI a, li cB b, li cT c])) 6 (.int .i64 b.length)) 12 (li cB (cycL nx))) 76 (li cB (rchL nx a))) 77 (.int .i64 Qn)) 78 (.int .i64 k)), fun _ => none⟩) (fun k => k ≤ Qn ∧ AllTill (fun i => ¬ gdA b.length b a nx i) k) (fun k => Qn - k) (0) ?_ ?_ ?_); exact ⟨Nat.zero_le _, .zero _⟩; ((repeat' (first | exact Qh (by assumption) | exact Qj | exact ⟨fun _ => Or.inl rfl, fun _ _ h => nomatch h⟩ | refine Qg ?_ ?_ | refine Qi ?_)) <;> simp [-zg, -zd, ↓Qb, ↓Qa, go_sem, li, hcyl, hrcl, hlen]); rintro k ⟨hk, hat⟩)
 | (refine ⟨k + 1, ⟨by omega, hat.succ (fun hg => by have h1 := hg.1; have h2 := hg.2.1; have h3 := hg.2.2; rw [← hr1] at h1; rw [← hr2] at h2; simp_all)⟩, by first | omega | (simp; done) | (simp; omega), ?_⟩; ((repeat' (first | exact Qh (by assumption) | exact Qj | exact ⟨fun _ => Or.inl rfl, fun _ _ h => nomatch h⟩ | refine Qg ?_ ?_ | refine Qi ?_)) <;> simp [-zg, -zd, ↓Qb, ↓Qa, go_sem, li, hcyl, hrcl, hlen]))
 | (refine Qe ?_)
 | (refine Qs ?_; simp [-zg, -zd, ↓Qb, ↓Qa, go_sem])
 | (refine Qr ?_; simp [-zg, -zd, ↓Qb, ↓Qa, go_sem])
 | (refine Qv ?_; simp [-zg, -zd, ↓Qb, ↓Qa, go_sem, Try.results138])
 | (intro hx; refine zA ?_)
 | (refine ⟨?_, ?_⟩ <;> refine zA ?_)
 | (intro hx; constructor <;> intro hs)
 | (constructor <;> intro hs)
 | (refine ⟨?_, fun hs => ?_⟩; refine zA ?_)
 | (refine ⟨fun hs => ?_, ?_⟩; rotate_left; refine zA ?_; rotate_left)))
  all_goals (first
 | (exact B_yes ⟨k, hkn, hr1 ▸ s17a, hr2 ▸ s17b, by rw [hkm]; exact c98⟩)
 | (exact ⟨k, hkn, hr1 ▸ s17a, hr2 ▸ s17b, by rw [hkm]; exact c98⟩)
 | (refine B_yes ⟨k, hkn, ?_, ?_, ?_⟩; (rw [← hr1]; simp_all; done); (rw [← hr2]; simp_all; done); (simp_all; done))
 | (exact B_no (acp_none fun i hi => hat i (by omega)))
 | (refine ⟨k, hkn, ?_, ?_, ?_⟩; (rw [← hr1]; simp_all; done); (rw [← hr2]; simp_all; done); (simp_all; done))
 | (exact acp_none fun i hi => hat i (by omega))
 | skip)
@[go_sem] def zafl : Con := .pure fun
  | [.st [.list n_a c_a, .list n_b c_b, .list n_c c_c], .st [.list n_s c_s, .list n_l c_l]] => ((Is cI n_a c_a) ∧ (Is cB n_b c_b) ∧ (Is cT n_c c_c) ∧ (Is cI n_s c_s) ∧ (Is cI n_l c_l) ∧ (AutOk (de cI c_a) (de cB c_b).length (de cT c_c)) ∧ (LasOk (de cI c_s) (de cI c_l)), .bool (B (Acp (de cB c_b).length (de cB c_b) (de cI c_a) (aAll (de cB c_b).length (de cT c_c) (de cI c_s) (de cI c_l)))))
  | _ => (False, .any)
theorem zanu : ConOk Try.prog 138 zafl := by
  refine ⟨Qp Try.func138 (by decide) rfl, fun args h => ?_⟩
  revert h
  dsimp only
  split
  · intro h
    obtain ⟨⟨a, rfl, rfl⟩, ⟨b, rfl, rfl⟩, ⟨c, rfl, rfl⟩, ⟨s, rfl, rfl⟩, ⟨l, rfl, rfl⟩, hA, hL⟩ := h
    try simp only [Qt] at *
    exact ⟨accepts_pure a b c s l hA hL, by simp [go_sem]⟩
  · intro h
    exact h.elim
@[go_sem] def Γk18 : FuncId → Con := ext Γk17 138 zafl
theorem zalg : ∀ g, ConOk Try.prog g (Γk18 g) := Qo Za zanu

end
end Go.Proofs.Ytkjimmkemnmajaa.Vm

