import Derived.Test.YtkjimmkemnmajaaN9
import Derived.Test.YtkjimmkemnmajaaK3
/-
  Rows of Bools and of transitions cloned; an automaton copied. No conditions.
-/
namespace Go.Proofs.Ytkjimmkemnmajaa.Vm
open Go
open List renaming getD_eq_getElem?_getD → zg, drop_one → zd, replicate → zrP
open Ne renaming symm → zS
noncomputable section
set_option linter.unusedVariables false
set_option linter.unusedSimpArgs false
set_option maxRecDepth 200000

@[go_sem] def Γu0 : FuncId → Con := Γn13
theorem Γu0_ok : ∀ g, ConOk Try.prog g (Γu0 g) := Γn13_ok

theorem clipB_spec (xs : List Bool) (H : Hp) : Spec Try.prog 222 [fr 1 cB xs] H (fr 1 cB xs) H := by
  refine Spec.of_walk Try.func222 rfl (by simp [Try.f222]) fun B => ?_
  refine Zd 0 rfl fun b cp j hb hcp hj => ?_
  (repeat' (first
 | refine Qs ?_
 | refine Qc (id := 0) Γu0_ok [] (by kernel_rfl) ?_; simp [-zg, -zd, ↓Qb, ↓Qa, go_sem]
 | refine Qc (id := 1) Γu0_ok [] (by kernel_rfl) ?_; simp [-zg, -zd, ↓Qb, ↓Qa, go_sem, hcp, Uo]; try (refine Vw 2 (b := b) (all := cat cB xs ++ zrP j .any) rfl (by simp [go_sem]) (by omega) (by simp [Qx]) (by simp [Qx]) ?_)
 | (refine Qe ?_)
 | (refine Qr ?_; simp [-zg, -zd, ↓Qb, ↓Qa, go_sem])
 | (refine Qq ?_; simp [-zg, -zd, ↓Qb, ↓Qa, go_sem])
 | (refine Qt ?_; simp [-zg, -zd, ↓Qb, ↓Qa, go_sem, Try.results222])
 | (intro hx; refine zA ?_)
 | (refine ⟨?_, ?_⟩ <;> refine zA ?_)
 | (intro hx; constructor <;> intro hs)
 | (constructor <;> intro hs)
 | (refine ⟨?_, fun hs => ?_⟩; refine zA ?_)
 | (refine ⟨fun hs => ?_, ?_⟩; rotate_left; refine zA ?_; rotate_left)))
  all_goals (intro b' cs' h; refine ⟨?_, h⟩; rintro rfl; dsimp only at hb; rw [h] at hb; cases hb)
@[go_sem] def clipBC : Con := .gen fun args H => match args with
  | [.fr 1 n cs] => (Is cB n cs, fr 1 cB (de cB cs), H)
  | _ => (False, .any, H)
theorem clipBC_ok : ConOk Try.prog 222 clipBC := by
  refine ⟨Qp Try.func222 (by decide) rfl, fun args H h => ?_⟩
  revert h
  dsimp only
  split
  · rintro ⟨xs, rfl, rfl⟩
    rw [Qu]
    exact clipB_spec xs H
  · intro h
    exact h.elim
@[go_sem] def Γu1 : FuncId → Con := ext Γu0 222 clipBC
theorem Γu1_ok : ∀ g, ConOk Try.prog g (Γu1 g) := Qo Γu0_ok clipBC_ok

theorem CloneB_pure (xs : List Bool) (h0 : xs.length ≤ 1048576) : Pure Try.prog 223 [li cB xs] (fr 1 cB xs) := by
  refine Pure.of_walk Try.func223 rfl (by simp [Try.f223]) (by simp [-zd, go_sem]) fun B hK => ?_
  by_cases hn : xs = []
  all_goals (repeat' (first
 | refine Qs ?_
 | refine Qc (id := 0) Γu1_ok [] (by kernel_rfl) ?_; simp [-zg, -zd, ↓Qb, ↓Qa, go_sem, hn]
 | refine Qc (id := 1) Γu1_ok [] (by kernel_rfl) ?_; simp [-zg, -zd, ↓Qb, ↓Qa, go_sem, hn]
 | refine Qc (id := 2) Γu1_ok [] (by kernel_rfl) ?_; simp [-zg, -zd, ↓Qb, ↓Qa, go_sem, hn]; try (try (refine zaoe 2 1 rfl ?_))
 | refine Qc (id := 3) Γu1_ok [] (by kernel_rfl) ?_; simp [-zg, -zd, ↓Qb, ↓Qa, go_sem, (by omega : xs.length ≤ 9223372036854775807), (by omega : 2 * xs.length * 1 ≤ 281474976710656), (by omega : 2 * xs.length ≤ 281474976710656), hn]
 | refine Qd (c := .tmp 4) ?_; simp [-zg, -zd, ↓Qb, ↓Qa, go_sem, hn]; try first | (refine ⟨?_, ?_⟩ <;> refine zA ?_) | (refine ⟨fun c4 => ?_, fun c4 => ?_⟩ <;> (try simp [B_iff, B_not] at c4))
 | (refine Qe ?_)
 | (refine Qr ?_; simp [-zg, -zd, ↓Qb, ↓Qa, go_sem])
 | (refine Qq ?_; simp [-zg, -zd, ↓Qb, ↓Qa, go_sem])
 | (refine Qt ?_; simp [-zg, -zd, ↓Qb, ↓Qa, go_sem, Try.results223, hn])
 | (intro hx; refine zA ?_)
 | (refine ⟨?_, ?_⟩ <;> refine zA ?_)
 | (intro hx; constructor <;> intro hs)
 | (constructor <;> intro hs)
 | (refine ⟨?_, fun hs => ?_⟩; refine zA ?_)
 | (refine ⟨fun hs => ?_, ?_⟩; rotate_left; refine zA ?_; rotate_left)))
@[go_sem] def zahq : Con := .pure fun
  | [.list n_xs c_xs] => ((Is cB n_xs c_xs) ∧ ((de cB c_xs).length ≤ 1048576), fr 1 cB (de cB c_xs))
  | _ => (False, .any)
theorem zapc : ConOk Try.prog 223 zahq := by
  refine ⟨Qp Try.func223 (by decide) rfl, fun args h => ?_⟩
  revert h
  dsimp only
  split
  · intro h
    obtain ⟨⟨xs, rfl, rfl⟩, h0⟩ := h
    try simp only [Qu] at *
    exact ⟨CloneB_pure xs h0, by simp [go_sem]⟩
  · intro h
    exact h.elim
@[go_sem] def Γu2 : FuncId → Con := ext Γu1 223 zahq
theorem Γu2_ok : ∀ g, ConOk Try.prog g (Γu2 g) := Qo Γu1_ok zapc

theorem cloneB_pure (xs : List Bool) (h0 : xs.length ≤ 1048576) : Pure Try.prog 186 [li cB xs] (fr 1 cB xs) := by
  refine Pure.of_walk Try.func186 rfl (by simp [Try.f186]) (by simp [-zd, go_sem]) fun B hK => ?_
  (repeat' (first
 | refine Qs ?_
 | refine Qc (id := 0) Γu2_ok [] (by kernel_rfl) ?_; simp [-zg, -zd, ↓Qb, ↓Qa, go_sem]
 | refine Qc (id := 1) Γu2_ok [] (by kernel_rfl) ?_; simp [-zg, -zd, ↓Qb, ↓Qa, go_sem, h0]
 | (refine Qe ?_)
 | (refine Qr ?_; simp [-zg, -zd, ↓Qb, ↓Qa, go_sem])
 | (refine Qq ?_; simp [-zg, -zd, ↓Qb, ↓Qa, go_sem])
 | (refine Qt ?_; simp [-zg, -zd, ↓Qb, ↓Qa, go_sem, Try.results186])
 | (intro hx; refine zA ?_)
 | (refine ⟨?_, ?_⟩ <;> refine zA ?_)
 | (intro hx; constructor <;> intro hs)
 | (constructor <;> intro hs)
 | (refine ⟨?_, fun hs => ?_⟩; refine zA ?_)
 | (refine ⟨fun hs => ?_, ?_⟩; rotate_left; refine zA ?_; rotate_left)))
@[go_sem] def zahj : Con := .pure fun
  | [.list n_xs c_xs] => ((Is cB n_xs c_xs) ∧ ((de cB c_xs).length ≤ 1048576), fr 1 cB (de cB c_xs))
  | _ => (False, .any)
theorem zaow : ConOk Try.prog 186 zahj := by
  refine ⟨Qp Try.func186 (by decide) rfl, fun args h => ?_⟩
  revert h
  dsimp only
  split
  · intro h
    obtain ⟨⟨xs, rfl, rfl⟩, h0⟩ := h
    try simp only [Qu] at *
    exact ⟨cloneB_pure xs h0, by simp [go_sem]⟩
  · intro h
    exact h.elim
@[go_sem] def Γu3 : FuncId → Con := ext Γu2 186 zahj
theorem Γu3_ok : ∀ g, ConOk Try.prog g (Γu3 g) := Qo Γu2_ok zaow

theorem clipT_spec (xs : List Tr4) (H : Hp) : Spec Try.prog 224 [fr 4 cT xs] H (fr 4 cT xs) H := by
  refine Spec.of_walk Try.func224 rfl (by simp [Try.f224]) fun B => ?_
  refine Zd 0 rfl fun b cp j hb hcp hj => ?_
  (repeat' (first
 | refine Qs ?_
 | refine Qc (id := 0) Γu3_ok [] (by kernel_rfl) ?_; simp [-zg, -zd, ↓Qb, ↓Qa, go_sem]
 | refine Qc (id := 1) Γu3_ok [] (by kernel_rfl) ?_; simp [-zg, -zd, ↓Qb, ↓Qa, go_sem, hcp, Uo]; try (refine Vw 2 (b := b) (all := cat cT xs ++ zrP j .any) rfl (by simp [go_sem]) (by omega) (by simp [Qx]) (by simp [Qx]) ?_)
 | (refine Qe ?_)
 | (refine Qr ?_; simp [-zg, -zd, ↓Qb, ↓Qa, go_sem])
 | (refine Qq ?_; simp [-zg, -zd, ↓Qb, ↓Qa, go_sem])
 | (refine Qt ?_; simp [-zg, -zd, ↓Qb, ↓Qa, go_sem, Try.results224])
 | (intro hx; refine zA ?_)
 | (refine ⟨?_, ?_⟩ <;> refine zA ?_)
 | (intro hx; constructor <;> intro hs)
 | (constructor <;> intro hs)
 | (refine ⟨?_, fun hs => ?_⟩; refine zA ?_)
 | (refine ⟨fun hs => ?_, ?_⟩; rotate_left; refine zA ?_; rotate_left)))
  all_goals (intro b' cs' h; refine ⟨?_, h⟩; rintro rfl; dsimp only at hb; rw [h] at hb; cases hb)
@[go_sem] def clipTC : Con := .gen fun args H => match args with
  | [.fr 4 n cs] => (Is cT n cs, fr 4 cT (de cT cs), H)
  | _ => (False, .any, H)
theorem clipTC_ok : ConOk Try.prog 224 clipTC := by
  refine ⟨Qp Try.func224 (by decide) rfl, fun args H h => ?_⟩
  revert h
  dsimp only
  split
  · rintro ⟨xs, rfl, rfl⟩
    rw [Qu]
    exact clipT_spec xs H
  · intro h
    exact h.elim
@[go_sem] def Γu4 : FuncId → Con := ext Γu3 224 clipTC
theorem Γu4_ok : ∀ g, ConOk Try.prog g (Γu4 g) := Qo Γu3_ok clipTC_ok

theorem CloneT_pure (xs : List Tr4) (h0 : xs.length ≤ 1048576) : Pure Try.prog 225 [li cT xs] (fr 4 cT xs) := by
  refine Pure.of_walk Try.func225 rfl (by simp [Try.f225]) (by simp [-zd, go_sem]) fun B hK => ?_
  by_cases hn : xs = []
  all_goals (repeat' (first
 | refine Qs ?_
 | refine Qc (id := 0) Γu4_ok [] (by kernel_rfl) ?_; simp [-zg, -zd, ↓Qb, ↓Qa, go_sem, hn]
 | refine Qc (id := 1) Γu4_ok [] (by kernel_rfl) ?_; simp [-zg, -zd, ↓Qb, ↓Qa, go_sem, hn]
 | refine Qc (id := 2) Γu4_ok [] (by kernel_rfl) ?_; simp [-zg, -zd, ↓Qb, ↓Qa, go_sem, hn]; try (try (refine zaoe 2 4 rfl ?_))
 | refine Qc (id := 3) Γu4_ok [] (by kernel_rfl) ?_; simp [-zg, -zd, ↓Qb, ↓Qa, go_sem, (by omega : xs.length ≤ 9223372036854775807), (by omega : 2 * xs.length * 32 ≤ 281474976710656), (by omega : 2 * xs.length ≤ 281474976710656), hn]
 | refine Qd (c := .tmp 4) ?_; simp [-zg, -zd, ↓Qb, ↓Qa, go_sem, hn]; try first | (refine ⟨?_, ?_⟩ <;> refine zA ?_) | (refine ⟨fun c4 => ?_, fun c4 => ?_⟩ <;> (try simp [B_iff, B_not] at c4))
 | (refine Qe ?_)
 | (refine Qr ?_; simp [-zg, -zd, ↓Qb, ↓Qa, go_sem])
 | (refine Qq ?_; simp [-zg, -zd, ↓Qb, ↓Qa, go_sem])
 | (refine Qt ?_; simp [-zg, -zd, ↓Qb, ↓Qa, go_sem, Try.results225, hn])
 | (intro hx; refine zA ?_)
 | (refine ⟨?_, ?_⟩ <;> refine zA ?_)
 | (intro hx; constructor <;> intro hs)
 | (constructor <;> intro hs)
 | (refine ⟨?_, fun hs => ?_⟩; refine zA ?_)
 | (refine ⟨fun hs => ?_, ?_⟩; rotate_left; refine zA ?_; rotate_left)))
@[go_sem] def zahp : Con := .pure fun
  | [.list n_xs c_xs] => ((Is cT n_xs c_xs) ∧ ((de cT c_xs).length ≤ 1048576), fr 4 cT (de cT c_xs))
  | _ => (False, .any)
theorem zapb : ConOk Try.prog 225 zahp := by
  refine ⟨Qp Try.func225 (by decide) rfl, fun args h => ?_⟩
  revert h
  dsimp only
  split
  · intro h
    obtain ⟨⟨xs, rfl, rfl⟩, h0⟩ := h
    try simp only [Qu] at *
    exact ⟨CloneT_pure xs h0, by simp [go_sem]⟩
  · intro h
    exact h.elim
@[go_sem] def Γu5 : FuncId → Con := ext Γu4 225 zahp
theorem Γu5_ok : ∀ g, ConOk Try.prog g (Γu5 g) := Qo Γu4_ok zapb

theorem cloneT_pure (xs : List Tr4) (h0 : xs.length ≤ 1048576) : Pure Try.prog 187 [li cT xs] (fr 4 cT xs) := by
  refine Pure.of_walk Try.func187 rfl (by simp [Try.f187]) (by simp [-zd, go_sem]) fun B hK => ?_
  (repeat' (first
 | refine Qs ?_
 | refine Qc (id := 0) Γu5_ok [] (by kernel_rfl) ?_; simp [-zg, -zd, ↓Qb, ↓Qa, go_sem]
 | refine Qc (id := 1) Γu5_ok [] (by kernel_rfl) ?_; simp [-zg, -zd, ↓Qb, ↓Qa, go_sem, h0]
 | (refine Qe ?_)
 | (refine Qr ?_; simp [-zg, -zd, ↓Qb, ↓Qa, go_sem])
 | (refine Qq ?_; simp [-zg, -zd, ↓Qb, ↓Qa, go_sem])
 | (refine Qt ?_; simp [-zg, -zd, ↓Qb, ↓Qa, go_sem, Try.results187])
 | (intro hx; refine zA ?_)
 | (refine ⟨?_, ?_⟩ <;> refine zA ?_)
 | (intro hx; constructor <;> intro hs)
 | (constructor <;> intro hs)
 | (refine ⟨?_, fun hs => ?_⟩; refine zA ?_)
 | (refine ⟨fun hs => ?_, ?_⟩; rotate_left; refine zA ?_; rotate_left)))
@[go_sem] def zahi : Con := .pure fun
  | [.list n_xs c_xs] => ((Is cT n_xs c_xs) ∧ ((de cT c_xs).length ≤ 1048576), fr 4 cT (de cT c_xs))
  | _ => (False, .any)
theorem zaov : ConOk Try.prog 187 zahi := by
  refine ⟨Qp Try.func187 (by decide) rfl, fun args h => ?_⟩
  revert h
  dsimp only
  split
  · intro h
    obtain ⟨⟨xs, rfl, rfl⟩, h0⟩ := h
    try simp only [Qu] at *
    exact ⟨cloneT_pure xs h0, by simp [go_sem]⟩
  · intro h
    exact h.elim
@[go_sem] def Γu6 : FuncId → Con := ext Γu5 187 zahi
theorem Γu6_ok : ∀ g, ConOk Try.prog g (Γu6 g) := Qo Γu5_ok zaov

theorem copyOf_pure (a : List Int) (b : List Bool) (c : List Tr4) (h0 : a.length ≤ 1048576) (h1 : b.length ≤ 1048576) (h2 : c.length ≤ 1048576) : Pure Try.prog 134 [.st [li cI a, li cB b, li cT c]] (.st [fr 1 cI a, fr 1 cB b, fr 4 cT c]) := by
  refine Pure.of_walk Try.func134 rfl (by simp [Try.f134]) (by simp [-zd, go_sem]) fun B hK => ?_
  (repeat' (first
 | refine Qs ?_
 | refine Qc (id := 0) Γu6_ok [] (by kernel_rfl) ?_; simp [-zg, -zd, ↓Qb, ↓Qa, go_sem, h0, h1, h2]; try (refine Xb hK 1 ?_; simp [go_sem])
 | refine Xp (id := 1) Γu6_ok mixed [] [1] (by kernel_rfl) (by kernel_rfl) (by simp [-zg, -zd, ↓Qb, ↓Qa, go_sem, h0, h1, h2]) ?_; simp [-zg, -zd, ↓Qb, ↓Qa, go_sem, h0, h1, h2]
 | (refine Qe ?_)
 | (refine Qr ?_; simp [-zg, -zd, ↓Qb, ↓Qa, go_sem])
 | (refine Qq ?_; simp [-zg, -zd, ↓Qb, ↓Qa, go_sem])
 | (refine Qt ?_; simp [-zg, -zd, ↓Qb, ↓Qa, go_sem, Try.results134, h0, h1, h2])
 | (intro hx; refine zA ?_)
 | (refine ⟨?_, ?_⟩ <;> refine zA ?_)
 | (intro hx; constructor <;> intro hs)
 | (constructor <;> intro hs)
 | (refine ⟨?_, fun hs => ?_⟩; refine zA ?_)
 | (refine ⟨fun hs => ?_, ?_⟩; rotate_left; refine zA ?_; rotate_left)))
@[go_sem] def zahf : Con := .pure fun
  | [.st [.list n_a c_a, .list n_b c_b, .list n_c c_c]] => ((Is cI n_a c_a) ∧ (Is cB n_b c_b) ∧ (Is cT n_c c_c) ∧ ((de cI c_a).length ≤ 1048576) ∧ ((de cB c_b).length ≤ 1048576) ∧ ((de cT c_c).length ≤ 1048576), .st [fr 1 cI (de cI c_a), fr 1 cB (de cB c_b), fr 4 cT (de cT c_c)])
  | _ => (False, .any)
theorem zaot : ConOk Try.prog 134 zahf := by
  refine ⟨Qp Try.func134 (by decide) rfl, fun args h => ?_⟩
  revert h
  dsimp only
  split
  · intro h
    obtain ⟨⟨a, rfl, rfl⟩, ⟨b, rfl, rfl⟩, ⟨c, rfl, rfl⟩, h0, h1, h2⟩ := h
    try simp only [Qu] at *
    exact ⟨copyOf_pure a b c h0 h1 h2, by simp [go_sem]⟩
  · intro h
    exact h.elim
@[go_sem] def Γu7 : FuncId → Con := ext Γu6 134 zahf
theorem Ju : ∀ g, ConOk Try.prog g (Γu7 g) := Qo Γu6_ok zaot


def tm (k : Int) (i : Nat) : Tr4 := (k + 4 * i, k + 4 * i + 1, k + 4 * i + 1 + 1, k + 4 * i + 1 + 1 + 1)
def Jo (k : Int) (n : Nat) : List Tr4 := (List.range n).map fun (i : Nat) => tm k i
@[go_sem] theorem zami (k : Int) (n : Nat) : (Jo k n).length = n := by simp [Jo]
def mkT (k : Int) (xs : List Tr4) (i : Nat) : List Tr4 := Jo k i ++ xs.drop i
theorem mkT_zero (k : Int) (xs : List Tr4) : mkT k xs 0 = xs := by simp [mkT, Jo]
theorem mkT_all (k : Int) (xs : List Tr4) : mkT k xs xs.length = Jo k xs.length := by simp [mkT]
theorem mkT_len {k : Int} {xs : List Tr4} {i : Nat} (h : i ≤ xs.length) : (mkT k xs i).length = xs.length := by simp [mkT, zami]; omega
theorem mkT_set {k : Int} {xs : List Tr4} {i : Nat} (h : i < xs.length) : (mkT k xs i).set i (tm k i) = mkT k xs (i + 1) := by
  have m : Jo k (i + 1) = Jo k i ++ [tm k i] := by simp [Jo, List.range_succ]
  unfold mkT
  rw [List.drop_eq_getElem_cons h, zapi (by rw [zami]), m]
  simp
theorem cat_set4 : ∀ {xs : List Tr4} {i : Nat} {ys : List D} {x : Tr4}, i < xs.length → ((((cat cT xs ++ ys).set (i * 4) (.int .i64 x.1)).set (i * 4 + 1) (.int .i64 x.2.1)).set (i * 4 + 2) (.int .i64 x.2.2.1)).set (i * 4 + 3) (.int .i64 x.2.2.2) = cat cT (xs.set i x) ++ ys
  | [], i, ys, x, h => by simp at h
  | z :: xs, 0, ys, x, h => by
    rw [Xi, List.set_cons_zero, Xi]; rfl
  | z :: xs, i + 1, ys, x, h => by
    rw [Xi, List.set_cons_succ, Xi, List.append_assoc, List.append_assoc]
    have := cat_set4 (xs := xs) (i := i) (ys := ys) (x := x) (by simpa using h)
    have e : (i + 1) * 4 = i * 4 + 1 + 1 + 1 + 1 := by omega
    rw [e]
    simp only [cT, List.cons_append, List.nil_append, List.set_cons_succ]
    rw [this]
structure ME (b : Nat) (cs : List D) (H H1 : Hp) : Prop where
  here : H1 b = some cs
  rest : ∀ z, ¬ z = b → H1 z = H z
theorem ME.set {b : Nat} {cs cs' : List D} {H H1 H2 : Hp} (h : ME b cs H H1) (h2 : H2 b = some cs') (h3 : ∀ z, ¬ z = b → H2 z = H1 z) : ME b cs' H H2 := ⟨h2, fun z hz => by rw [h3 z hz]; exact h.rest z hz⟩
set_option maxHeartbeats 1000000 in
theorem markTx_spec (xs : List Tr4) (k : Int) (b cp : Nat) (junk : List D) (H : Hp) (hH : H b = some (cat cT xs ++ junk)) (h0 : 0 ≤ k) (h1 : k + 4 * xs.length ≤ 1099511627776) :
    Spec Try.prog 83 [.sl b 4 0 xs.length cp, .int .i64 k] H (.int .i64 (k + 4 * xs.length)) (upd H b (some (cat cT (Jo k xs.length) ++ junk))) := by
  refine Spec.of_walk Try.func83 rfl (by simp [Try.f83]) fun B => ?_
  (repeat' (first
 | refine Qs ?_
 | refine Qc (id := 0) Ju [] (by kernel_rfl) ?_; simp [-zg, -zd, ↓Qb, ↓Qa, go_sem]
 | refine Qc (id := 1) Ju [] (by kernel_rfl) ?_; simp [-zg, -zd, ↓Qb, ↓Qa, go_sem]
 | refine Qc (id := 2) Ju [] (by kernel_rfl) ?_; simp [-zg, -zd, ↓Qb, ↓Qa, go_sem]
 | ((have w1 := g2.here); (have hml := mkT_len (k := k) (xs := xs) (i := q.1) (by omega)); (have hst := cat_set4 (xs := mkT k xs q.1) (i := q.1) (ys := junk) (x := tm k q.1) (by omega)); (rw [mkT_set (by omega)] at hst); (simp only [tm] at hst); (have hcl : (cat cT (mkT k xs q.1) ++ junk).length = xs.length * 4 + junk.length := (by rw [List.length_append, Qx, hml])); (obtain ⟨c0, hc0⟩ : ∃ c0, cat cT (mkT k xs q.1) ++ junk = c0 := ⟨_, rfl⟩); (rw [hc0] at w1 hst hcl g2)); refine Qc (id := 4) Ju [] (by kernel_rfl) ?_; simp [-zg, -zd, ↓Qb, ↓Qa, go_sem, w1, hcl, c9, (show q.1 * 4 + 4 ≤ xs.length * 4 + junk.length by omega), (show q.1 * 4 < xs.length * 4 + junk.length by omega), (show q.1 * 4 + 1 ≤ xs.length * 4 + junk.length by omega)]; try ((obtain ⟨c1, hc1⟩ : ∃ c1, c0.set (q.1 * 4) (.int .i64 (k + 4 * (q.1 : Int))) = c1 := ⟨_, rfl⟩); (have hl1 : c1.length = xs.length * 4 + junk.length := (by rw [← hc1, List.length_set]; exact hcl)); (rw [hc1] at hst); (refine Qw (fun H1 => ME b c1 H H1) (ME.set g2 (by simp [upd, Xo, hc1]) (by intro z hz; simp [upd, hz])) fun H1 t1 => ?_); (have w2 := t1.here))
 | refine Qc (id := 5) Ju [] (by kernel_rfl) ?_; simp [-zg, -zd, ↓Qb, ↓Qa, go_sem, Qj (x := k + 4 * (q.1 : Int) + 1) (by omega) (by omega)]
 | refine Qc (id := 6) Ju [] (by kernel_rfl) ?_; simp [-zg, -zd, ↓Qb, ↓Qa, go_sem, w2, hl1, c9, (show q.1 * 4 + 4 ≤ xs.length * 4 + junk.length by omega), (show q.1 * 4 + 1 < xs.length * 4 + junk.length by omega), (show q.1 * 4 + 1 + 1 ≤ xs.length * 4 + junk.length by omega)]; try ((obtain ⟨c2, hc2⟩ : ∃ c2, c1.set (q.1 * 4 + 1) (.int .i64 (k + 4 * (q.1 : Int) + 1)) = c2 := ⟨_, rfl⟩); (have hl2 : c2.length = xs.length * 4 + junk.length := (by rw [← hc2, List.length_set]; exact hl1)); (rw [hc2] at hst); (refine Qw (fun H1 => ME b c2 H H1) (ME.set t1 (by simp [upd, Xo, hc2]) (by intro z hz; simp [upd, hz])) fun H2 t2 => ?_); (have w3 := t2.here))
 | refine Qc (id := 7) Ju [] (by kernel_rfl) ?_; simp [-zg, -zd, ↓Qb, ↓Qa, go_sem, Qj (x := k + 4 * (q.1 : Int) + 1 + 1) (by omega) (by omega)]
 | refine Qc (id := 8) Ju [] (by kernel_rfl) ?_; simp [-zg, -zd, ↓Qb, ↓Qa, go_sem, w3, hl2, c9, (show q.1 * 4 + 4 ≤ xs.length * 4 + junk.length by omega), (show q.1 * 4 + 2 < xs.length * 4 + junk.length by omega), (show q.1 * 4 + 2 + 1 ≤ xs.length * 4 + junk.length by omega)]; try ((obtain ⟨c3, hc3⟩ : ∃ c3, c2.set (q.1 * 4 + 2) (.int .i64 (k + 4 * (q.1 : Int) + 1 + 1)) = c3 := ⟨_, rfl⟩); (have hl3 : c3.length = xs.length * 4 + junk.length := (by rw [← hc3, List.length_set]; exact hl2)); (rw [hc3] at hst); (refine Qw (fun H1 => ME b c3 H H1) (ME.set t2 (by simp [upd, Xo, hc3]) (by intro z hz; simp [upd, hz])) fun H3 t3 => ?_); (have w4 := t3.here))
 | refine Qc (id := 9) Ju [] (by kernel_rfl) ?_; simp [-zg, -zd, ↓Qb, ↓Qa, go_sem, Qj (x := k + 4 * (q.1 : Int) + 1 + 1 + 1) (by omega) (by omega)]
 | refine Qc (id := 10) Ju [] (by kernel_rfl) ?_; simp [-zg, -zd, ↓Qb, ↓Qa, go_sem, w4, hl3, c9, (show q.1 * 4 + 4 ≤ xs.length * 4 + junk.length by omega), (show q.1 * 4 + 3 < xs.length * 4 + junk.length by omega), (show q.1 * 4 + 3 + 1 ≤ xs.length * 4 + junk.length by omega)]; try ((refine Qw (fun H1 => ME b (cat cT (mkT k xs (q.1 + 1)) ++ junk) H H1) (ME.set t3 (by simp [upd, Xo, hst]) (by intro z hz; simp [upd, hz])) fun H9 t5 => ?_))
 | refine Qc (id := 11) Ju [] (by kernel_rfl) ?_; simp [-zg, -zd, ↓Qb, ↓Qa, go_sem, Qj (x := k + 4 * (q.1 : Int) + 1 + 1 + 1 + 1) (by omega) (by omega)]
 | refine Qc (id := 3) Ju [] (by kernel_rfl) ?_; simp [-zg, -zd, ↓Qb, ↓Qa, go_sem, wrapS (k := q.1) (by omega)]
 | refine Qc (id := 12) Ju [] (by kernel_rfl) ?_; simp [-zg, -zd, ↓Qb, ↓Qa, go_sem]
 | refine Qd (c := .tmp 9) ?_; simp [-zg, -zd, ↓Qb, ↓Qa, go_sem]; try first | (refine ⟨?_, ?_⟩ <;> refine zA ?_) | (refine ⟨fun c9 => ?_, fun c9 => ?_⟩ <;> (try simp [B_iff, B_not] at c9))
 | (refine Qe (id := 0) (Qz (ι := Nat × Hp) (fun q : Nat × Hp => ⟨(upd (upd (upd (fun _ => .any) 0 (.sl b 4 0 xs.length cp)) 1 (.int .i64 (k + 4 * q.1))) 5 (.int .i64 q.1)), q.2⟩) (fun q => q.1 ≤ xs.length ∧ ME b (cat cT (mkT k xs q.1) ++ junk) H q.2) (fun q => xs.length - q.1) ((0, H)) ?_ ?_ ?_); exact ⟨Nat.zero_le _, ⟨by rw [mkT_zero]; exact hH, fun z hz => rfl⟩⟩; ((repeat' (first | exact Qg (by assumption) | exact Qi | refine Qf ?_ ?_ | refine Qh ?_)) <;> simp [-zg, -zd, ↓Qb, ↓Qa, go_sem]); rintro q ⟨g1, g2⟩)
 | (refine ⟨(q.1 + 1, H9), ⟨by dsimp only; omega, t5⟩, by first | omega | (simp; done) | (simp; omega), ?_⟩; ((repeat' (first | exact Qg (by assumption) | exact Qi | refine Qf ?_ ?_ | refine Qh ?_)) <;> simp [-zg, -zd, ↓Qb, ↓Qa, go_sem, (show k + 4 * ((q.1 : Int) + 1) = k + 4 * (q.1 : Int) + 1 + 1 + 1 + 1 by omega), (show k + 4 * ((q.1 + 1 : Nat) : Int) = k + 4 * (q.1 : Int) + 1 + 1 + 1 + 1 by omega)]))
 | (refine Qe ?_)
 | (refine Qr ?_; simp [-zg, -zd, ↓Qb, ↓Qa, go_sem])
 | (refine Qq ?_; simp [-zg, -zd, ↓Qb, ↓Qa, go_sem])
 | (refine Qt ?_; simp [-zg, -zd, ↓Qb, ↓Qa, go_sem, Try.results83])
 | (intro hx; refine zA ?_)
 | (refine ⟨?_, ?_⟩ <;> refine zA ?_)
 | (intro hx; constructor <;> intro hs)
 | (constructor <;> intro hs)
 | (refine ⟨?_, fun hs => ?_⟩; refine zA ?_)
 | (refine ⟨fun hs => ?_, ?_⟩; rotate_left; refine zA ?_; rotate_left)))
  all_goals (first
 | (have e : q.1 = xs.length := (by omega); (have h8 := g2.here); (rw [e, mkT_all] at h8); refine ⟨by omega, fun z cs h => ?_⟩; by_cases ez : z = b; (subst ez; simp [upd] at h; rw [h8, h]); (simp [upd, ez] at h; rw [g2.rest z ez]; exact h))
 | (have e : q.1 = xs.length := (by omega); (have h8 := g2.here); (rw [e, mkT_all] at h8); refine ⟨by rw [e], fun z cs h => ?_⟩; by_cases ez : z = b; (subst ez; simp [upd] at h; rw [h8, h]); (simp [upd, ez] at h; rw [g2.rest z ez]; exact h))
 | skip)
@[go_sem] def markTxC : Con := .gen fun args H => match args with
  | [.sl b 4 0 n _, .int .i64 k] => match H b with
    | some all => (n * 4 ≤ all.length ∧ Is cT n (all.take (n * 4)) ∧ 0 ≤ k ∧ k + 4 * n ≤ 1099511627776, .int .i64 (k + 4 * n), upd H b (some (cat cT (Jo k n) ++ all.drop (n * 4))))
    | none => (False, .any, H)
  | _ => (False, .any, H)
theorem markTxC_ok : ConOk Try.prog 83 markTxC := by
  refine ⟨Qp Try.func83 (by decide) rfl, fun args H h => ?_⟩
  revert h
  dsimp only
  split
  · rename_i b n cp k
    split
    · rename_i all hH
      rintro ⟨g1, ⟨xs, hn, he⟩, g2, g3⟩
      subst hn
      have : all = cat cT xs ++ all.drop (xs.length * 4) := by rw [← he, List.take_append_drop]
      rw [this] at hH
      exact markTx_spec xs k b cp _ H hH g2 g3
    · intro h; exact h.elim
  · intro h
    exact h.elim
@[go_sem] def Γu8 : FuncId → Con := ext Γu7 83 markTxC
theorem zapd : ∀ g, ConOk Try.prog g (Γu8 g) := Qo Ju markTxC_ok
@[go_sem] theorem cat_drop_app_cT (xs : List Tr4) (ys : List D) : (cat cT xs ++ ys).drop (xs.length * 4) = ys := zant xs ys
@[go_sem] theorem zaox (xs : List Tr4) (ys : List D) : (cat cT xs ++ ys).take (xs.length * 4) = cat cT xs := Uo xs ys

set_option maxHeartbeats 2000000 in
theorem markAx_spec (a : List Int) (b : List Bool) (c : List Tr4) (k : Int) (b1 b2 b3 c1 c2 c3 : Nat) (j1 j2 j3 : List D) (H : Hp) (h1 : H b1 = some (cat cI a ++ j1)) (h2 : H b2 = some (cat cB b ++ j2)) (h3 : H b3 = some (cat cT c ++ j3)) (n12 : ¬ b1 = b2) (n13 : ¬ b1 = b3) (n23 : ¬ b2 = b3) (h0 : 0 ≤ k) (hk : k + a.length + b.length + 4 * c.length ≤ 1099511627776) :
    Spec Try.prog 21 [.st [.sl b1 1 0 a.length c1, .sl b2 1 0 b.length c2, .sl b3 4 0 c.length c3], .int .i64 k] H (.int .i64 (k + a.length + b.length + 4 * c.length))
      (upd (upd (upd H b1 (some (cat cI (marks k a.length) ++ j1))) b2 (some (cat cB (Jp (k + a.length) b.length) ++ j2))) b3 (some (cat cT (Jo (k + a.length + b.length) c.length) ++ j3))) := by
  refine Spec.of_walk Try.func21 rfl (by simp [Try.f21]) fun B => ?_
  (repeat' (first
 | refine Qs ?_
 | refine Qc (id := 0) zapd [] (by kernel_rfl) ?_; simp [-zg, -zd, ↓Qb, ↓Qa, go_sem]; try (refine Zh 2 rfl fun b0 hb0 => ?_; have m1 : ¬ b1 = b0 := (by rintro rfl; dsimp only at hb0; rw [h1] at hb0; cases hb0); have m2 : ¬ b2 = b0 := (by rintro rfl; dsimp only at hb0; rw [h2] at hb0; cases hb0); have m3 : ¬ b3 = b0 := (by rintro rfl; dsimp only at hb0; rw [h3] at hb0; cases hb0))
 | refine Qc (id := 1) zapd [] (by kernel_rfl) ?_; simp [-zg, -zd, ↓Qb, ↓Qa, go_sem, m1, h1, h0, (show k + (a.length : Int) ≤ 1099511627776 by omega), (show a.length ≤ a.length + j1.length by omega)]
 | refine Qc (id := 2) zapd [] (by kernel_rfl) ?_; simp [-zg, -zd, ↓Qb, ↓Qa, go_sem, m1, m2, zS m1, zS m2, n12, zS n12, h2, (show 0 ≤ k + (a.length : Int) by omega), (show k + (a.length : Int) + (b.length : Int) ≤ 1099511627776 by omega), (show b.length ≤ b.length + j2.length by omega)]
 | refine Qc (id := 3) zapd [] (by kernel_rfl) ?_; simp [-zg, -zd, ↓Qb, ↓Qa, go_sem, m1, m2, m3, zS m1, zS m2, zS m3, n12, zS n12, n13, zS n13, n23, zS n23, h3, (show 0 ≤ k + (a.length : Int) + (b.length : Int) by omega), hk, (show c.length * 4 ≤ c.length * 4 + j3.length by omega)]
 | refine Qc (id := 4) zapd [] (by kernel_rfl) ?_; simp [-zg, -zd, ↓Qb, ↓Qa, go_sem]
 | (refine Qe ?_)
 | (refine Qr ?_; simp [-zg, -zd, ↓Qb, ↓Qa, go_sem])
 | (refine Qq ?_; simp [-zg, -zd, ↓Qb, ↓Qa, go_sem])
 | (refine Qt ?_; simp [-zg, -zd, ↓Qb, ↓Qa, go_sem, Try.results21])
 | (intro hx; refine zA ?_)
 | (refine ⟨?_, ?_⟩ <;> refine zA ?_)
 | (intro hx; constructor <;> intro hs)
 | (constructor <;> intro hs)
 | (refine ⟨?_, fun hs => ?_⟩; refine zA ?_)
 | (refine ⟨fun hs => ?_, ?_⟩; rotate_left; refine zA ?_; rotate_left)))
  all_goals (first
 | (intro b' cs' h; dsimp only at hb0; by_cases e3 : b' = b3 <;> by_cases e2 : b' = b2 <;> by_cases e1 : b' = b1 <;> by_cases e0 : b' = b0 <;> simp_all)
 | skip)
@[go_sem] def markAxC : Con := .gen fun args H => match args with
  | [.st [.sl b1 1 0 n _, .sl b2 1 0 m _, .sl b3 4 0 o _], .int .i64 k] => match H b1, H b2, H b3 with
    | some a1, some a2, some a3 => (¬ b1 = b2 ∧ ¬ b1 = b3 ∧ ¬ b2 = b3 ∧ n ≤ a1.length ∧ m ≤ a2.length ∧ o * 4 ≤ a3.length ∧ Is cI n (a1.take n) ∧ Is cB m (a2.take m) ∧ Is cT o (a3.take (o * 4)) ∧ 0 ≤ k ∧ k + n + m + 4 * o ≤ 1099511627776,
        .int .i64 (k + n + m + 4 * o), upd (upd (upd H b1 (some (cat cI (marks k n) ++ a1.drop n))) b2 (some (cat cB (Jp (k + n) m) ++ a2.drop m))) b3 (some (cat cT (Jo (k + n + m) o) ++ a3.drop (o * 4))))
    | _, _, _ => (False, .any, H)
  | _ => (False, .any, H)
theorem markAxC_ok : ConOk Try.prog 21 markAxC := by
  refine ⟨Qp Try.func21 (by decide) rfl, fun args H h => ?_⟩
  revert h
  dsimp only
  split
  · rename_i b1 n c1 b2 m c2 b3 o c3 k
    split
    · rename_i a1 a2 a3 hH1 hH2 hH3
      rintro ⟨g1, g2, g3, g4, g5, g6, ⟨xs, hn, he⟩, ⟨ys, hm, hf⟩, ⟨zs, ho, hg⟩, g8, g9⟩
      subst hn hm ho
      have e1 : a1 = cat cI xs ++ a1.drop xs.length := by rw [← he, List.take_append_drop]
      have e2 : a2 = cat cB ys ++ a2.drop ys.length := by rw [← hf, List.take_append_drop]
      have e3 : a3 = cat cT zs ++ a3.drop (zs.length * 4) := by rw [← hg, List.take_append_drop]
      rw [e1] at hH1
      rw [e2] at hH2
      rw [e3] at hH3
      exact markAx_spec xs ys zs k b1 b2 b3 c1 c2 c3 _ _ _ H hH1 hH2 hH3 g1 g2 g3 g8 g9
    · intro h; exact h.elim
  · intro h
    exact h.elim
@[go_sem] def Γu9 : FuncId → Con := ext Γu8 21 markAxC
theorem Γu9_ok : ∀ g, ConOk Try.prog g (Γu9 g) := Qo zapd markAxC_ok

def heldTr (k : Int) (xs : List Tr4) : Int := if xs = Jo k xs.length then k + 4 * xs.length else -1
@[go_sem] theorem heldTr_marks (k : Int) (n : Nat) : heldTr k (Jo k n) = k + 4 * n := by simp [heldTr, zami]
@[go_sem] theorem heldTr_nil (k : Int) : heldTr k [] = k := by simp [heldTr, Jo]
@[go_sem] def Γu10 : FuncId → Con := Γu9
theorem Γu10_ok : ∀ g, ConOk Try.prog g (Γu10 g) := Γu9_ok
@[go_sem] def Γu11 : FuncId → Con := Γu10
theorem Zn : ∀ g, ConOk Try.prog g (Γu11 g) := Γu10_ok

def uIk (a a' : List Int) (n k : Nat) : List Int := a ++ (a'.take k).map (fun x => x + (n : Int))
def uI (a a' : List Int) (n : Nat) : List Int := uIk a a' n a'.length
def uE (n : Nat) (e : Tr4) : Tr4 := (e.1 + n, e.2.1, e.2.2.1, e.2.2.2 + n)
def uTk (c c' : List Tr4) (n k : Nat) : List Tr4 := c ++ (c'.take k).map (uE n)
def uT (c c' : List Tr4) (n : Nat) : List Tr4 := uTk c c' n c'.length
theorem Vo (a a' : List Int) (n : Nat) : (uI a a' n).length = a.length + a'.length := by simp [uI, uIk]
theorem Vn (c c' : List Tr4) (n : Nat) : (uT c c' n).length = c.length + c'.length := by simp [uT, uTk]
theorem uB_len (b b' : List Bool) : (b ++ b').length = b.length + b'.length := by simp
theorem uIk_zero (a a' : List Int) (n : Nat) : uIk a a' n 0 = a := by simp [uIk]
theorem uTk_zero (c c' : List Tr4) (n : Nat) : uTk c c' n 0 = c := by simp [uTk]
theorem uIk_cat {a a' : List Int} {n k : Nat} (h : k < a'.length) : cat cI (uIk a a' n k) ++ [D.int .i64 (nth a' k + (n : Int))] = cat cI (uIk a a' n (k + 1)) := by
  rw [Zx, uIk, uIk, List.take_succ_eq_append_getElem h, Qy h]; simp only [List.map_append, List.map_cons, List.map_nil, List.append_assoc]
theorem uTk_cat {c c' : List Tr4} {n k : Nat} (h : k < c'.length) : cat cT (uTk c c' n k) ++ [D.int .i64 ((nth c' k).1 + (n : Int)), D.int .i64 (nth c' k).2.1, D.int .i64 (nth c' k).2.2.1, D.int .i64 ((nth c' k).2.2.2 + (n : Int))] = cat cT (uTk c c' n (k + 1)) := by
  have : [D.int .i64 ((nth c' k).1 + (n : Int)), D.int .i64 (nth c' k).2.1, D.int .i64 (nth c' k).2.2.1, D.int .i64 ((nth c' k).2.2.2 + (n : Int))] = cat cT [uE n (nth c' k)] := rfl
  rw [this, ← Zq, uTk, uTk, List.take_succ_eq_append_getElem h, Qy h]; simp only [List.map_append, List.map_cons, List.map_nil, List.append_assoc]
theorem memT {xs : List Tr4} {e : Tr4} (h : e ∈ xs) : ∃ i, i < xs.length ∧ nth xs i = e := by
  obtain ⟨i, hi, e2⟩ := List.getElem_of_mem h
  exact ⟨i, hi, by rw [Qy hi, e2]⟩
theorem uT_small {c c' : List Tr4} (h : Xr c) (h' : Xr c') (n : Nat) : Xr (uT c c' n) := by
  have hm : ∀ e, e ∈ uT c c' n → e.2.2.1 ≤ 9223372036854775807 := by
    intro e he
    unfold uT uTk at he
    rw [List.take_length, List.mem_append, List.mem_map] at he
    rcases he with q | ⟨d, q, rfl⟩
    · obtain ⟨i, hi, rfl⟩ := memT q
      exact h i hi
    · obtain ⟨i, hi, rfl⟩ := memT q
      exact h' i hi
  exact fun i hi => hm _ (Xf hi)
theorem zadj (xs : List Tr4) (ys : List D) {n : Nat} (h : n = xs.length) : (cat cT xs ++ ys).take (n * 4) = cat cT xs := by subst h; exact zaox xs ys
theorem mk44u (x y z u : D) : makeD [x, y, z, u] 4 = [x, y, z, u] := rfl
theorem ss44u (x y z u x' y' z' u' : D) : stSeg [x, y, z, u] 0 [x', y', z', u'] = [x', y', z', u'] := rfl
def UnOk (a : List Int) (b : List Bool) (c : List Tr4) (a' : List Int) (b' : List Bool) (c' : List Tr4) : Prop := AutOk a b.length c ∧ AutOk a' b'.length c' ∧ AutOk (uI a a' b.length) (b.length + b'.length) (uT c c' b.length)
theorem Vi {a : List Int} {b : List Bool} {c : List Tr4} {a' : List Int} {b' : List Bool} {c' : List Tr4} (h : B (AutOk a b.length c) = false ∨ B (AutOk a' b'.length c') = false ∨ B (AutOk (uI a a' b.length) (b.length + b'.length) (uT c c' b.length)) = false) : B (UnOk a b c a' b' c') = false := by
  apply B_no
  rintro ⟨h1, h2, h3⟩
  rw [B_yes h1, B_yes h2, B_yes h3] at h
  simp at h
theorem unOk_yes {a : List Int} {b : List Bool} {c : List Tr4} {a' : List Int} {b' : List Bool} {c' : List Tr4} (h1 : B (AutOk a b.length c) = true) (h2 : B (AutOk a' b'.length c') = true) (h3 : B (AutOk (uI a a' b.length) (b.length + b'.length) (uT c c' b.length)) = true) : B (UnOk a b c a' b' c') = true := by
  rw [B_iff] at h1 h2 h3 ⊢
  exact ⟨h1, h2, h3⟩
set_option maxHeartbeats 4000000 in

theorem implUn_pure (a : List Int) (b : List Bool) (c : List Tr4) (a' : List Int) (b' : List Bool) (c' : List Tr4) (hS : Xr c) (hS' : Xr c') : Pure Try.prog 47 [.st [li cI a, li cB b, li cT c], .st [li cI a', li cB b', li cT c']] (.tup [if B (UnOk a b c a' b' c') = true then .st [fr 1 cI (uI a a' b.length), fr 1 cB (b ++ b'), fr 4 cT (uT c c' b.length)] else .st [.nil, .nil, .nil], .bool (B (UnOk a b c a' b' c'))]) := by
  refine Pure.of_walk Try.func47 rfl (by simp [Try.f47]) (by simp [-zd, go_sem]) fun B hK => ?_
  cases hg : Vm.B (AutOk a b.length c) <;> cases hg2 : Vm.B (AutOk a' b'.length c') <;> cases hU : Vm.B (AutOk (uI a a' b.length) (b.length + b'.length) (uT c c' b.length))
  all_goals (repeat' (first
 | refine Qs ?_
 | refine Qc (id := 0) Zn [] (by kernel_rfl) ?_; simp [-zg, -zd, ↓Qb, ↓Qa, go_sem]; try ((refine Xb hK 2 ?_); (refine Xb hK 3 ?_); simp [go_sem])
 | refine Qc (id := 1) Zn [15] (by kernel_rfl) ?_; simp [-zg, -zd, ↓Qb, ↓Qa, go_sem, hg, hg2, hS, hS']; try (refine ⟨fun s1a => ?_, fun s1a => ?_⟩ <;> (try simp [B_iff, B_not] at s1a) <;> try (refine ⟨fun s1b => ?_, fun s1b => ?_⟩ <;> (try simp [B_iff, B_not] at s1b)))
 | refine Qc (id := 2) Zn [] (by kernel_rfl) ?_; simp [-zg, -zd, ↓Qb, ↓Qa, go_sem]
 | ((have hA : AutOk a b.length c := (by rw [B_iff] at hg; exact hg)); (have hA' : AutOk a' b'.length c' := (by rw [B_iff] at hg2; exact hg2)); (obtain ⟨n1, n2, n3, n4⟩ := hA.sizes); (obtain ⟨m1, m2, m3, m4⟩ := hA'.sizes); (have hr := hA.rng); (have hr' := hA'.rng); (have hSu := uT_small hS hS' b.length); (have hst' := hA'.starts (N := 64) m2)); refine Qc (id := 3) Zn [] (by kernel_rfl) ?_; simp [-zg, -zd, ↓Qb, ↓Qa, go_sem]
 | refine Qc (id := 4) Zn [] (by kernel_rfl) ?_; simp [-zg, -zd, ↓Qb, ↓Qa, go_sem, (show a.length ≤ 1048576 by omega), (show b.length ≤ 1048576 by omega), (show c.length ≤ 1048576 by omega)]; try ((refine Zh 7 rfl fun pb h_pb => ?_); (clear h_pb); (refine Qw (fun H1 => H1 pb = some [.fr 1 a.length (cat cI (uIk a a' b.length 0)), .fr 1 b.length (cat cB b), .fr 4 c.length (cat cT c)]) (by simp [upd, fr, uIk_zero]) fun H1 w1 => ?_))
 | refine Qc (id := 5) Zn [] (by kernel_rfl) ?_; simp [-zg, -zd, ↓Qb, ↓Qa, go_sem]
 | refine Qc (id := 6) Zn [] (by kernel_rfl) ?_; simp [-zg, -zd, ↓Qb, ↓Qa, go_sem]
 | refine Qc (id := 7) Zn [] (by kernel_rfl) ?_; simp [-zg, -zd, ↓Qb, ↓Qa, go_sem, c30, Ql c30, Nat.sub_pos_of_lt c30]
 | ((obtain ⟨v0, v1⟩ := hst'.1 (nth a' q.1) (Xf c30)); (have hcat := uIk_cat (a := a) (n := b.length) c30)); refine Qc (id := 8) Zn [] (by kernel_rfl) ?_; simp [-zg, -zd, ↓Qb, ↓Qa, go_sem, g2, c30, Ql c30, Nat.sub_pos_of_lt c30, hcat, Qj (x := nth a' q.1 + (b.length : Int)) (by omega) (by omega), (show a.length + q.1 ≤ 9223372036854775806 by omega), (show 2 * (a.length + q.1 + 1) * 8 ≤ 281474976710656 by omega), (show a.length + q.1 + 1 ≤ 9223372036854775807 by omega)]; try ((refine Qw (fun H1 => H1 pb = some [.fr 1 (a.length + (q.1 + 1)) (cat cI (uIk a a' b.length (q.1 + 1))), .fr 1 b.length (cat cB b), .fr 4 c.length (cat cT c)]) (by simp [upd, Nat.add_assoc]) fun H9 t5 => ?_))
 | refine Qc (id := 9) Zn [] (by kernel_rfl) ?_; simp [-zg, -zd, ↓Qb, ↓Qa, go_sem, wrapS (k := q.1) (by omega)]
 | ((obtain ⟨kx, H2⟩ := q); (dsimp only at *); (obtain rfl : kx = a'.length := by omega)); refine Qc (id := 10) Zn [] (by kernel_rfl) ?_; simp [-zg, -zd, ↓Qb, ↓Qa, go_sem, g2, (show b.length + b'.length ≤ 9223372036854775807 by omega), (show 2 * (b.length + b'.length) * 1 ≤ 281474976710656 by omega), (show 2 * (b.length + b'.length) ≤ 281474976710656 by omega), (Zq (f := cB) b b').symm]; try ((refine Qw (fun H1 => H1 pb = some [.fr 1 (a.length + a'.length) (cat cI (uI a a' b.length)), .fr 1 (b.length + b'.length) (cat cB (b ++ b')), .fr 4 (c.length + 0) (cat cT (uTk c c' b.length 0))]) (by simp [upd, uTk_zero, uI]) fun H3 w3 => ?_))
 | refine Qc (id := 11) Zn [] (by kernel_rfl) ?_; simp [-zg, -zd, ↓Qb, ↓Qa, go_sem]
 | refine Qc (id := 12) Zn [] (by kernel_rfl) ?_; simp [-zg, -zd, ↓Qb, ↓Qa, go_sem]
 | refine Qc (id := 13) Zn [] (by kernel_rfl) ?_; simp [-zg, -zd, ↓Qb, ↓Qa, go_sem, c52, Ql c52, Nat.sub_pos_of_lt c52]; try ((refine Xb hK 11 ?_); (simp [go_sem]))
 | ((obtain ⟨⟨v0, v1⟩, v2, v3⟩ := hr' q.1 c52); (have hcat := uTk_cat (c := c) (n := b.length) c52)); refine Qc (id := 14) Zn [] (by kernel_rfl) ?_; simp [-zg, -zd, ↓Qb, ↓Qa, go_sem, g2', hcat, mk44u, ss44u, Qj (x := (nth c' q.1).1 + (b.length : Int)) (by omega) (by omega), Qj (x := (nth c' q.1).2.2.2 + (b.length : Int)) (by omega) (by omega), (show c.length + q.1 ≤ 9223372036854775806 by omega), (show 2 * (c.length + q.1 + 1) * 32 ≤ 281474976710656 by omega), (show c.length + q.1 + 1 ≤ 9223372036854775807 by omega)]; try ((refine Qw (fun H1 => H1 pb = some [.fr 1 (a.length + a'.length) (cat cI (uI a a' b.length)), .fr 1 (b.length + b'.length) (cat cB (b ++ b')), .fr 4 (c.length + (q.1 + 1)) (cat cT (uTk c c' b.length (q.1 + 1)))]) (by simp [upd, Nat.add_assoc]) fun H9 t5 => ?_))
 | refine Qc (id := 15) Zn [] (by kernel_rfl) ?_; simp [-zg, -zd, ↓Qb, ↓Qa, go_sem, wrapS (k := q.1) (by omega)]
 | ((obtain ⟨kx, H4⟩ := q); (dsimp only at *); (obtain rfl : kx = c'.length := by omega); (have w4 : H4 pb = some [.fr 1 (a.length + a'.length) (cat cI (uI a a' b.length)), .fr 1 (b.length + b'.length) (cat cB (b ++ b')), .fr 4 (c.length + c'.length) (cat cT (uT c c' b.length))] := g2'); (refine Xq pb 0 (all := [.fr 1 (a.length + a'.length) (cat cI (uI a a' b.length)), .fr 1 (b.length + b'.length) (cat cB (b ++ b')), .fr 4 (c.length + c'.length) (cat cT (uT c c' b.length))]) (by simp [upd, w4]) rfl fun x cx jx h_x d_x e_x => ?_); (dsimp only at h_x); (have n_x_pb : ¬ x = pb := (by rintro rfl; simp [upd, w4] at h_x)); (refine Xq pb 1 (all := [.sl x 1 0 (a.length + a'.length) cx, .fr 1 (b.length + b'.length) (cat cB (b ++ b')), .fr 4 (c.length + c'.length) (cat cT (uT c c' b.length))]) (by simp [upd, w4, n_x_pb, zS n_x_pb]) rfl fun y cy jy h_y d_y e_y => ?_); (dsimp only at h_y); (have n_y_pb : ¬ y = pb := (by rintro rfl; simp [upd, w4, n_x_pb, zS n_x_pb] at h_y)); (have n_y_x : ¬ y = x := (by rintro rfl; simp [upd, w4, n_x_pb, zS n_x_pb] at h_y)); (refine Xq pb 2 (all := [.sl x 1 0 (a.length + a'.length) cx, .sl y 1 0 (b.length + b'.length) cy, .fr 4 (c.length + c'.length) (cat cT (uT c c' b.length))]) (by simp [upd, w4, n_x_pb, zS n_x_pb, n_y_pb, zS n_y_pb, n_y_x, zS n_y_x]) rfl fun z cz jz h_z d_z e_z => ?_); (dsimp only at h_z); (have n_z_pb : ¬ z = pb := (by rintro rfl; simp [upd, w4, n_x_pb, zS n_x_pb, n_y_pb, zS n_y_pb, n_y_x, zS n_y_x] at h_z)); (have n_z_x : ¬ z = x := (by rintro rfl; simp [upd, w4, n_x_pb, zS n_x_pb, n_y_pb, zS n_y_pb, n_y_x, zS n_y_x] at h_z)); (have n_z_y : ¬ z = y := (by rintro rfl; simp [upd, w4, n_x_pb, zS n_x_pb, n_y_pb, zS n_y_pb, n_y_x, zS n_y_x] at h_z)); (clear h_x h_y h_z); (refine Qw (fun H5 => H5 pb = some [.sl x 1 0 (a.length + a'.length) cx, .sl y 1 0 (b.length + b'.length) cy, .sl z 4 0 (c.length + c'.length) cz] ∧ H5 x = some (cat cI (uI a a' b.length) ++ zrP jx D.any) ∧ H5 y = some (cat cB (b ++ b') ++ zrP jy D.any) ∧ H5 z = some (cat cT (uT c c' b.length) ++ zrP jz D.any)) ⟨by simp [upd, n_x_pb, zS n_x_pb, n_y_pb, zS n_y_pb, n_z_pb, zS n_z_pb, n_y_x, zS n_y_x, n_z_x, zS n_z_x, n_z_y, zS n_z_y], by simp [upd, n_x_pb, zS n_x_pb, n_y_pb, zS n_y_pb, n_z_pb, zS n_z_pb, n_y_x, zS n_y_x, n_z_x, zS n_z_x, n_z_y, zS n_z_y], by simp [upd, n_x_pb, zS n_x_pb, n_y_pb, zS n_y_pb, n_z_pb, zS n_z_pb, n_y_x, zS n_y_x, n_z_x, zS n_z_x, n_z_y, zS n_z_y], by simp [upd, n_x_pb, zS n_x_pb, n_y_pb, zS n_y_pb, n_z_pb, zS n_z_pb, n_y_x, zS n_y_x, n_z_x, zS n_z_x, n_z_y, zS n_z_y]⟩ fun H5 ⟨w0, wx, wy, wz⟩ => ?_)); refine Qc (id := 16) Zn [] (by kernel_rfl) ?_; simp [-zg, -zd, ↓Qb, ↓Qa, go_sem, w0, wx, wy, wz, n_x_pb, zS n_x_pb, n_y_pb, zS n_y_pb, n_z_pb, zS n_z_pb, n_y_x, zS n_y_x, n_z_x, zS n_z_x, n_z_y, zS n_z_y, Vo, Vn, uB_len, Ze (f := cI) (uI a a' b.length) (zrP jx D.any) (n := a.length + a'.length) (Vo ..).symm, Ze (f := cB) (b ++ b') (zrP jy D.any) (n := b.length + b'.length) (by simp), zadj (uT c c' b.length) (zrP jz D.any) (n := c.length + c'.length) (Vn ..).symm, hU, hSu, (show a.length + a'.length ≤ a.length + a'.length + jx by omega)]
 | refine Qc (id := 17) Zn [] (by kernel_rfl) ?_; simp [-zg, -zd, ↓Qb, ↓Qa, go_sem]
 | refine Qc (id := 18) Zn [] (by kernel_rfl) ?_; simp [-zg, -zd, ↓Qb, ↓Qa, go_sem, w0, wx, wy, wz, n_x_pb, zS n_x_pb, n_y_pb, zS n_y_pb, n_z_pb, zS n_z_pb, n_y_x, zS n_y_x, n_z_x, zS n_z_x, n_z_y, zS n_z_y, Vo, Vn, uB_len, Ze (f := cI) (uI a a' b.length) (zrP jx D.any) (n := a.length + a'.length) (Vo ..).symm, Ze (f := cB) (b ++ b') (zrP jy D.any) (n := b.length + b'.length) (by simp), zadj (uT c c' b.length) (zrP jz D.any) (n := c.length + c'.length) (Vn ..).symm, hU, hSu, (show a.length + a'.length ≤ a.length + a'.length + jx by omega), (show a.length + a'.length ≤ 1048576 by omega), (show b.length + b'.length ≤ 1048576 by omega), (show c.length + c'.length ≤ 1048576 by omega)]
 | refine Qd (c := .tmp 19) ?_; simp [-zg, -zd, ↓Qb, ↓Qa, go_sem]; try first | (refine ⟨?_, ?_⟩ <;> refine zA ?_) | (refine ⟨fun c19 => ?_, fun c19 => ?_⟩ <;> (try simp [B_iff, B_not] at c19))
 | refine Qd (c := .tmp 30) ?_; simp [-zg, -zd, ↓Qb, ↓Qa, go_sem]; try first | (refine ⟨?_, ?_⟩ <;> refine zA ?_) | (refine ⟨fun c30 => ?_, fun c30 => ?_⟩ <;> (try simp [B_iff, B_not] at c30))
 | refine Qd (c := .tmp 52) ?_; simp [-zg, -zd, ↓Qb, ↓Qa, go_sem]; try first | (refine ⟨?_, ?_⟩ <;> refine zA ?_) | (refine ⟨fun c52 => ?_, fun c52 => ?_⟩ <;> (try simp [B_iff, B_not] at c52))
 | refine Qd (c := .tmp 76) ?_; simp [-zg, -zd, ↓Qb, ↓Qa, go_sem]; try first | (refine ⟨?_, ?_⟩ <;> refine zA ?_) | (refine ⟨fun c76 => ?_, fun c76 => ?_⟩ <;> (try simp [B_iff, B_not] at c76))
 | (refine Qe (id := 0) (Qz (ι := Nat × Hp) (fun q : Nat × Hp => ⟨(upd (upd (upd (upd (upd (upd (upd (upd (fun _ => .any) 2 (.pd [li cI a, li cB b, li cT c])) 3 (.pd [li cI a', li cB b', li cT c'])) 4 (.box [.nil, .nil, .nil])) 6 (.int .i64 b.length)) 7 (.ptr pb 0)) 27 (li cI a')) 28 (.int .i64 a'.length)) 29 (.int .i64 q.1)), q.2⟩) (fun q => q.1 ≤ a'.length ∧ q.2 pb = some [.fr 1 (a.length + q.1) (cat cI (uIk a a' b.length q.1)), .fr 1 b.length (cat cB b), .fr 4 c.length (cat cT c)]) (fun q => a'.length - q.1) ((0, H1)) ?_ ?_ ?_); exact ⟨Nat.zero_le _, w1⟩; ((repeat' (first | exact Qg (by assumption) | exact Qi | refine Qf ?_ ?_ | refine Qh ?_)) <;> simp [-zg, -zd, ↓Qb, ↓Qa, go_sem]); rintro q ⟨g1, g2⟩)
 | (refine ⟨(q.1 + 1, H9), ⟨by dsimp only; omega, t5⟩, by first | omega | (simp; done) | (simp; omega), ?_⟩; ((repeat' (first | exact Qg (by assumption) | exact Qi | refine Qf ?_ ?_ | refine Qh ?_)) <;> simp [-zg, -zd, ↓Qb, ↓Qa, go_sem]))
 | (refine Qe (id := 2) (Qz (ι := Nat × Hp) (fun q : Nat × Hp => ⟨(upd (upd (upd (upd (upd (upd (upd (upd (fun _ => .any) 2 (.pd [li cI a, li cB b, li cT c])) 3 (.pd [li cI a', li cB b', li cT c'])) 4 (.box [.nil, .nil, .nil])) 6 (.int .i64 b.length)) 7 (.ptr pb 0)) 49 (li cT c')) 50 (.int .i64 c'.length)) 51 (.int .i64 q.1)), q.2⟩) (fun q => q.1 ≤ c'.length ∧ q.2 pb = some [.fr 1 (a.length + a'.length) (cat cI (uI a a' b.length)), .fr 1 (b.length + b'.length) (cat cB (b ++ b')), .fr 4 (c.length + q.1) (cat cT (uTk c c' b.length q.1))]) (fun q => c'.length - q.1) ((0, H3)) ?_ ?_ ?_); exact ⟨Nat.zero_le _, w3⟩; ((repeat' (first | exact Qg (by assumption) | exact Qi | refine Qf ?_ ?_ | refine Qh ?_)) <;> simp [-zg, -zd, ↓Qb, ↓Qa, go_sem]); rintro q ⟨g1', g2'⟩)
 | (refine ⟨(q.1 + 1, H9), ⟨by dsimp only; omega, t5⟩, by first | omega | (simp; done) | (simp; omega), ?_⟩; ((repeat' (first | exact Qg (by assumption) | exact Qi | refine Qf ?_ ?_ | refine Qh ?_)) <;> simp [-zg, -zd, ↓Qb, ↓Qa, go_sem]))
 | (refine Qe ?_)
 | (refine Qr ?_; simp [-zg, -zd, ↓Qb, ↓Qa, go_sem])
 | (refine Qq ?_; simp [-zg, -zd, ↓Qb, ↓Qa, go_sem])
 | (refine Qt ?_; simp [-zg, -zd, ↓Qb, ↓Qa, go_sem, Try.results47])
 | (intro hx; refine zA ?_)
 | (refine ⟨?_, ?_⟩ <;> refine zA ?_)
 | (intro hx; constructor <;> intro hs)
 | (constructor <;> intro hs)
 | (refine ⟨?_, fun hs => ?_⟩; refine zA ?_)
 | (refine ⟨fun hs => ?_, ?_⟩; rotate_left; refine zA ?_; rotate_left)))
  all_goals (first
 | (rw [← B_not]; exact Vi (Or.inl hg))
 | (rw [← B_not]; exact Vi (Or.inr (Or.inl hg2)))
 | (rw [← B_not]; exact Vi (Or.inr (Or.inr hU)))
 | (have hz := unOk_yes hg hg2 hU; rw [B_iff] at hz; exact hz)
 | (rw [Vi (Or.inl hg)]; simp; done)
 | (rw [Vi (Or.inr (Or.inl hg2))]; simp; done)
 | (rw [Vi (Or.inr (Or.inr hU))]; simp; done)
 | (rw [unOk_yes hg hg2 hU]; simp [fr, Vo, Vn]; done)
 | skip)
@[go_sem] def zahb : Con := .pure fun
  | [.st [.list n_a c_a, .list n_b c_b, .list n_c c_c], .st [.list n_a' c_a', .list n_b' c_b', .list n_c' c_c']] => ((Is cI n_a c_a) ∧ (Is cB n_b c_b) ∧ (Is cT n_c c_c) ∧ (Is cI n_a' c_a') ∧ (Is cB n_b' c_b') ∧ (Is cT n_c' c_c') ∧ (Xr (de cT c_c)) ∧ (Xr (de cT c_c')), .tup [if B (UnOk (de cI c_a) (de cB c_b) (de cT c_c) (de cI c_a') (de cB c_b') (de cT c_c')) = true then .st [fr 1 cI (uI (de cI c_a) (de cI c_a') (de cB c_b).length), fr 1 cB ((de cB c_b) ++ (de cB c_b')), fr 4 cT (uT (de cT c_c) (de cT c_c') (de cB c_b).length)] else .st [.nil, .nil, .nil], .bool (B (UnOk (de cI c_a) (de cB c_b) (de cT c_c) (de cI c_a') (de cB c_b') (de cT c_c')))])
  | _ => (False, .any)
theorem zaor : ConOk Try.prog 47 zahb := by
  refine ⟨Qp Try.func47 (by decide) rfl, fun args h => ?_⟩
  revert h
  dsimp only
  split
  · intro h
    obtain ⟨⟨a, rfl, rfl⟩, ⟨b, rfl, rfl⟩, ⟨c, rfl, rfl⟩, ⟨a', rfl, rfl⟩, ⟨b', rfl, rfl⟩, ⟨c', rfl, rfl⟩, hS, hS'⟩ := h
    try simp only [Qu] at *
    exact ⟨implUn_pure a b c a' b' c' hS hS', by simp [go_sem]⟩
  · intro h
    exact h.elim
@[go_sem] def Γu12 : FuncId → Con := ext Γu11 47 zahb
theorem Zs : ∀ g, ConOk Try.prog g (Γu12 g) := Qo Zn zaor

end
end Go.Proofs.Ytkjimmkemnmajaa.Vm

