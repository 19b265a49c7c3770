/-
  Letters and suffixes, the program's way; small helpers of the laws. No conditions.
-/
import Derived.Test.YtkjimmkemnmajaaSM5
namespace Go.Proofs.Ytkjimmkemnmajaa.Vm
open Go
open List renaming getD_eq_getElem?_getD → zg, drop_one → zd
noncomputable section
set_option linter.unusedVariables false
set_option linter.unusedSimpArgs false
set_option maxRecDepth 200000

set_option maxHeartbeats 4000000 in
theorem zani (a : List Int) (b : List Int) (i : Int) (hL : LasOk a b) (h0 : i = 0) : Pure Try.prog 52 [.st [li cI a, li cI b], .int .i64 i] (.tup [.int .i64 (nth (a ++ b) 0), .bool true]) := by
  refine Pure.of_walk Try.func52 rfl (by simp [Try.f52]) (by simp [-zd, go_sem]) fun B hK => ?_
  subst h0; obtain ⟨l1, l2, l3, l4, l5⟩ := id hL; by_cases hi : (0 : Int) < (a.length : Int)
  all_goals (repeat' (first
 | refine Qs ?_
 | refine Qc (id := 0) zagn [] (by kernel_rfl) ?_; simp [-zg, -zd, ↓Qb, ↓Qa, go_sem]; try (refine Xb hK 2 ?_; simp [go_sem])
 | refine Qc (id := 1) zagn [10] (by kernel_rfl) ?_; simp [-zg, -zd, ↓Qb, ↓Qa, go_sem, B_yes hL]; try (refine ⟨fun s1a => ?_, fun s1a => ?_⟩ <;> (try simp [B_iff, B_not] at s1a) <;> try (refine ⟨fun s1b => ?_, fun s1b => ?_⟩ <;> (try simp [B_iff, B_not] at s1b)))
 | refine Qc (id := 2) zagn [] (by kernel_rfl) ?_; simp [-zg, -zd, ↓Qb, ↓Qa, go_sem]
 | refine Qc (id := 3) zagn [] (by kernel_rfl) ?_; simp [-zg, -zd, ↓Qb, ↓Qa, go_sem, hi]
 | ((have h9 := Xn (xs := a) (ys := b) (i := 0) (by omega))); refine Qc (id := 4) zagn [] (by kernel_rfl) ?_; simp [-zg, -zd, ↓Qb, ↓Qa, go_sem, hi, h9, (show 0 < a.length by omega), (show ¬ a = [] by rintro rfl; simp at c14)]
 | ((have h9 := zaix (xs := a) (ys := b) (i := 0) (by omega)); (have e0 : a.length = 0 := (by omega)); (rw [e0] at h9)); refine Xp (id := 5) zagn mixed [] [2] (by kernel_rfl) (by kernel_rfl) (by simp [-zg, -zd, ↓Qb, ↓Qa, go_sem, h9, e0, (show ¬ b = [] by rintro rfl; simp at l4), (show ¬ b.length = 0 by omega), (show 0 < b.length by omega), (by decide : IntKind.i64.wrap 0 = 0), (show (0 : Int).tmod (b.length : Int) = 0 by simp), (show (0 : Int) < (b.length : Int) by omega)]) ?_; simp [-zg, -zd, ↓Qb, ↓Qa, go_sem, h9, e0, (show ¬ b = [] by rintro rfl; simp at l4), (show ¬ b.length = 0 by omega), (show 0 < b.length by omega), (by decide : IntKind.i64.wrap 0 = 0), (show (0 : Int).tmod (b.length : Int) = 0 by simp), (show (0 : Int) < (b.length : Int) by omega)]
 | refine Qd (c := .tmp 6) ?_; simp [-zg, -zd, ↓Qb, ↓Qa, go_sem]; try first | (refine ⟨?_, ?_⟩ <;> refine zA ?_) | (refine ⟨fun c6 => ?_, fun c6 => ?_⟩ <;> (try simp [B_iff, B_not] at c6))
 | refine Qd (c := .tmp 14) ?_; simp [-zg, -zd, ↓Qb, ↓Qa, go_sem]; try first | (refine ⟨?_, ?_⟩ <;> refine zA ?_) | (refine ⟨fun c14 => ?_, fun c14 => ?_⟩ <;> (try simp [B_iff, B_not] at c14))
 | (refine Qe ?_)
 | (refine Qr ?_; simp [-zg, -zd, ↓Qb, ↓Qa, go_sem])
 | (refine Qq ?_; simp [-zg, -zd, ↓Qb, ↓Qa, go_sem])
 | (refine Qt ?_; simp [-zg, -zd, ↓Qb, ↓Qa, go_sem, Try.results52])
 | (intro hx; refine zA ?_)
 | (refine ⟨?_, ?_⟩ <;> refine zA ?_)
 | (intro hx; constructor <;> intro hs)
 | (constructor <;> intro hs)
 | (refine ⟨?_, fun hs => ?_⟩; refine zA ?_)
 | (refine ⟨fun hs => ?_, ?_⟩; rotate_left; refine zA ?_; rotate_left)
 | (exfalso; simp_all; done)
 | (exfalso; omega)))
@[go_sem] def zacg : Con := .pure fun
  | [.st [.list n_a c_a, .list n_b c_b], .int .i64 i] => ((Is cI n_a c_a) ∧ (Is cI n_b c_b) ∧ (LasOk (de cI c_a) (de cI c_b)) ∧ (i = 0), .tup [.int .i64 (nth ((de cI c_a) ++ (de cI c_b)) 0), .bool true])
  | _ => (False, .any)
theorem zahd : ConOk Try.prog 52 zacg := by
  refine ⟨Qp Try.func52 (by decide) rfl, fun args h => ?_⟩
  revert h
  dsimp only
  split
  · intro h
    obtain ⟨⟨a, rfl, rfl⟩, ⟨b, rfl, rfl⟩, hL, h0⟩ := h
    try simp only [Qu] at *
    exact ⟨zani a b _ hL h0, by simp [go_sem]⟩
  · intro h
    exact h.elim
@[go_sem] def Γx1 : FuncId → Con := ext Γk20 52 zacg
theorem Ya : ∀ g, ConOk Try.prog g (Γx1 g) := Qo zagn zahd

set_option maxHeartbeats 4000000 in

theorem zanh (a : List Int) (b : List Int) (i : Int) (hL : LasOk a b) (h0 : i = 1) : Pure Try.prog 53 [.st [li cI a, li cI b], .int .i64 i] (.tup [.st [if (1 : Int) < a.length then fr 1 cI (a.drop 1) else .nil, fr 1 cI (if (1 : Int) < a.length then b else b.drop (turn a b 1) ++ b.take (turn a b 1))], .bool true]) := by
  refine Pure.of_walk Try.func53 rfl (by simp [Try.f53]) (by simp [-zd, go_sem]) fun B hK => ?_
  subst h0; obtain ⟨g1, g2, g3, g4, g5⟩ := id hL; by_cases hi : (1 : Int) < (a.length : Int)
  all_goals (repeat' (first
 | refine Qs ?_
 | refine Qc (id := 0) Ya [] (by kernel_rfl) ?_; simp [-zg, -zd, ↓Qb, ↓Qa, go_sem]; try (refine Xb hK 2 ?_; simp [go_sem])
 | refine Qc (id := 1) Ya [11] (by kernel_rfl) ?_; simp [-zg, -zd, ↓Qb, ↓Qa, go_sem, B_yes hL]; try (refine ⟨fun s1a => ?_, fun s1a => ?_⟩ <;> (try simp [B_iff, B_not] at s1a) <;> try (refine ⟨fun s1b => ?_, fun s1b => ?_⟩ <;> (try simp [B_iff, B_not] at s1b)))
 | refine Qc (id := 2) Ya [] (by kernel_rfl) ?_; simp [-zg, -zd, ↓Qb, ↓Qa, go_sem]
 | refine Qc (id := 3) Ya [] (by kernel_rfl) ?_; simp [-zg, -zd, ↓Qb, ↓Qa, go_sem, hi]
 | refine Xp (id := 4) Ya mixed [] [2] (by kernel_rfl) (by kernel_rfl) (by simp [-zg, -zd, ↓Qb, ↓Qa, go_sem, hi, (show ((a.length : Int) - 1).toNat = a.length - 1 by omega), (show (1 : Int) ≤ a.length by omega), (show a.length - 1 ≤ 1048576 by omega), (show b.length ≤ 1048576 by omega)]) ?_; simp [-zg, -zd, ↓Qb, ↓Qa, go_sem, hi, (show ((a.length : Int) - 1).toNat = a.length - 1 by omega), (show (1 : Int) ≤ a.length by omega), (show a.length - 1 ≤ 1048576 by omega), (show b.length ≤ 1048576 by omega)]
 | (obtain ⟨t1, t2⟩ := turn_lt (a := a) (b := b) (i := 1) (by omega) (by omega)); refine Qc (id := 5) Ya [] (by kernel_rfl) ?_; simp [-zg, -zd, ↓Qb, ↓Qa, go_sem, (show IntKind.i64.wrap (1 - a.length) = 1 - a.length by rw [Qj (by omega) (by omega)]), t1, (show ¬ b = [] by rintro rfl; simp at g4)]
 | refine Xp (id := 6) Ya mixed [] [2, 6] (by kernel_rfl) (by kernel_rfl) (by simp [-zg, -zd, ↓Qb, ↓Qa, go_sem, hi, (show (b.drop (turn a b 1)).take (b.length - turn a b 1) = b.drop (turn a b 1) from List.take_of_length_le (by simp)), (show (((b.length : Int) - turn a b 1).toNat) = b.length - turn a b 1 by omega), (show (turn a b 1 : Int) ≤ b.length by omega), (show turn a b 1 ≤ b.length by omega), (show min (turn a b 1) b.length = turn a b 1 by omega), (show b.length - turn a b 1 + turn a b 1 ≤ 1048576 by omega), (show b.length ≤ 1048576 by omega)]) ?_; simp [-zg, -zd, ↓Qb, ↓Qa, go_sem, hi, (show (b.drop (turn a b 1)).take (b.length - turn a b 1) = b.drop (turn a b 1) from List.take_of_length_le (by simp)), (show (((b.length : Int) - turn a b 1).toNat) = b.length - turn a b 1 by omega), (show (turn a b 1 : Int) ≤ b.length by omega), (show turn a b 1 ≤ b.length by omega), (show min (turn a b 1) b.length = turn a b 1 by omega), (show b.length - turn a b 1 + turn a b 1 ≤ 1048576 by omega), (show b.length ≤ 1048576 by omega)]
 | refine Qd (c := .tmp 7) ?_; simp [-zg, -zd, ↓Qb, ↓Qa, go_sem]; try first | (refine ⟨?_, ?_⟩ <;> refine zA ?_) | (refine ⟨fun c7 => ?_, fun c7 => ?_⟩ <;> (try simp [B_iff, B_not] at c7))
 | refine Qd (c := .tmp 16) ?_; simp [-zg, -zd, ↓Qb, ↓Qa, go_sem]; try first | (refine ⟨?_, ?_⟩ <;> refine zA ?_) | (refine ⟨fun c16 => ?_, fun c16 => ?_⟩ <;> (try simp [B_iff, B_not] at c16))
 | (refine Qe ?_)
 | (refine Qr ?_; simp [-zg, -zd, ↓Qb, ↓Qa, go_sem])
 | (refine Qq ?_; simp [-zg, -zd, ↓Qb, ↓Qa, go_sem])
 | (refine Qt ?_; simp [-zg, -zd, ↓Qb, ↓Qa, go_sem, Try.results53])
 | (intro hx; refine zA ?_)
 | (refine ⟨?_, ?_⟩ <;> refine zA ?_)
 | (intro hx; constructor <;> intro hs)
 | (constructor <;> intro hs)
 | (refine ⟨?_, fun hs => ?_⟩; refine zA ?_)
 | (refine ⟨fun hs => ?_, ?_⟩; rotate_left; refine zA ?_; rotate_left)
 | (exfalso; omega)
 | (exfalso; simp_all; done)))
  all_goals (first
 | (rw [List.take_of_length_le (by simp), List.drop_one])
 | skip)
@[go_sem] def zacf : Con := .pure fun
  | [.st [.list n_a c_a, .list n_b c_b], .int .i64 i] => ((Is cI n_a c_a) ∧ (Is cI n_b c_b) ∧ (LasOk (de cI c_a) (de cI c_b)) ∧ (i = 1), .tup [.st [if (1 : Int) < (de cI c_a).length then fr 1 cI ((de cI c_a).drop 1) else .nil, fr 1 cI (if (1 : Int) < (de cI c_a).length then (de cI c_b) else (de cI c_b).drop (turn (de cI c_a) (de cI c_b) 1) ++ (de cI c_b).take (turn (de cI c_a) (de cI c_b) 1))], .bool true])
  | _ => (False, .any)
theorem zahc : ConOk Try.prog 53 zacf := by
  refine ⟨Qp Try.func53 (by decide) rfl, fun args h => ?_⟩
  revert h
  dsimp only
  split
  · intro h
    obtain ⟨⟨a, rfl, rfl⟩, ⟨b, rfl, rfl⟩, hL, h0⟩ := h
    try simp only [Qu] at *
    exact ⟨zanh a b _ hL h0, by simp [go_sem]⟩
  · intro h
    exact h.elim
@[go_sem] def Γx2 : FuncId → Con := ext Γx1 53 zacf
theorem Wz : ∀ g, ConOk Try.prog g (Γx2 g) := Qo Ya zahc

theorem suL_turn {a b : List Int} (h : LasOk a b) : (if (1 : Int) < a.length then b else b.drop (turn a b 1) ++ b.take (turn a b 1)) = suL a b := by
  have hb : 0 < b.length := by have := h.2.2.2.1; omega
  unfold suL
  split
  · rfl
  · rename_i h1
    have ht : turn a b 1 = (1 - a.length) % b.length := by
      unfold turn
      have : (1 : Int) - a.length = ((1 - a.length : Nat) : Int) := by omega
      rw [this, tmod_nat, Int.toNat_natCast]
    by_cases e : (a.length : Int) = 1
    · rw [if_pos e, ht, show 1 - a.length = 0 by omega, Nat.zero_mod]; simp
    · rw [if_neg e, ht, show 1 - a.length = 1 by omega]; rfl

theorem wpHas_pure (xs : List Int) (x : Int)  : Pure Try.prog 54 [li cI xs, .int .i64 x] (.bool (Vm.B (x ∈ xs))) := by
  refine Pure.of_walk Try.func54 rfl (by simp [Try.f54]) (by simp [-zd, go_sem]) fun B hK => ?_
  (repeat' (first
 | refine Qs ?_
 | (refine Jq 0 rfl fun hm => ?_); refine Qc (id := 0) Wz [] (by kernel_rfl) ?_; simp [-zg, -zd, ↓Qb, ↓Qa, go_sem]
 | refine Qc (id := 1) Wz [] (by kernel_rfl) ?_; simp [-zg, -zd, ↓Qb, ↓Qa, go_sem]
 | refine Qc (id := 2) Wz [] (by kernel_rfl) ?_; simp [-zg, -zd, ↓Qb, ↓Qa, go_sem]
 | refine Qc (id := 4) Wz [] (by kernel_rfl) ?_; simp [-zg, -zd, ↓Qb, ↓Qa, go_sem, c9, Ql c9, Nat.sub_pos_of_lt c9]
 | refine Qc (id := 5) Wz [] (by kernel_rfl) ?_; simp [-zg, -zd, ↓Qb, ↓Qa, go_sem]
 | refine Qc (id := 3) Wz [] (by kernel_rfl) ?_; simp [-zg, -zd, ↓Qb, ↓Qa, go_sem, wrapS (k := i) (by omega)]
 | refine Qc (id := 6) Wz [] (by kernel_rfl) ?_; simp [-zg, -zd, ↓Qb, ↓Qa, go_sem]
 | refine Qd (c := .tmp 9) ?_; simp [-zg, -zd, ↓Qb, ↓Qa, go_sem]; try first | (refine ⟨?_, ?_⟩ <;> refine zA ?_) | (refine ⟨fun c9 => ?_, fun c9 => ?_⟩ <;> (try simp [B_iff, B_not] at c9))
 | refine Qd (c := .tmp 17) ?_; simp [-zg, -zd, ↓Qb, ↓Qa, go_sem]; try first | (refine ⟨?_, ?_⟩ <;> refine zA ?_) | (refine ⟨fun c17 => ?_, fun c17 => ?_⟩ <;> (try simp [B_iff, B_not] at c17))
 | (refine Qe (id := 0) (Qz (ι := Nat) (fun i : Nat => ⟨(upd (upd (upd (fun _ => .any) 0 (li cI xs)) 1 (.int .i64 x)) 5 (.int .i64 i)), fun _ => none⟩) (fun i => i ≤ xs.length ∧ AllTill (fun i => ¬ nth xs i = x) i) (fun i => xs.length - i) (0) ?_ ?_ ?_); exact ⟨Nat.zero_le _, .zero _⟩; ((repeat' (first | exact Qg (by assumption) | exact Qi | refine Qf ?_ ?_ | refine Qh ?_)) <;> simp [-zg, -zd, ↓Qb, ↓Qa, go_sem]); rintro i ⟨hi, ht⟩)
 | (refine ⟨i + 1, ⟨by omega, ht.succ c17⟩, by first | omega | (simp; done) | (simp; omega), ?_⟩; ((repeat' (first | exact Qg (by assumption) | exact Qi | refine Qf ?_ ?_ | refine Qh ?_)) <;> simp [-zg, -zd, ↓Qb, ↓Qa, go_sem]))
 | (refine Qe ?_)
 | (refine Qr ?_; simp [-zg, -zd, ↓Qb, ↓Qa, go_sem])
 | (refine Qq ?_; simp [-zg, -zd, ↓Qb, ↓Qa, go_sem])
 | (refine Qt ?_; simp [-zg, -zd, ↓Qb, ↓Qa, go_sem, Try.results54])
 | (intro hx; refine zA ?_)
 | (refine ⟨?_, ?_⟩ <;> refine zA ?_)
 | (intro hx; constructor <;> intro hs)
 | (constructor <;> intro hs)
 | (refine ⟨?_, fun hs => ?_⟩; refine zA ?_)
 | (refine ⟨fun hs => ?_, ?_⟩; rotate_left; refine zA ?_; rotate_left)))
  all_goals (first
 | (rw [← c17]; exact Xf c9)
 | (intro h; obtain ⟨j, j1, j2⟩ := memG h; exact ht j (by omega) j2)
 | skip)
@[go_sem] def zaiq : Con := .pure fun
  | [.list n_xs c_xs, .int .i64 x] => ((Is cI n_xs c_xs), .bool (Vm.B (x ∈ (de cI c_xs))))
  | _ => (False, .any)
theorem wpHas_pureC_ok : ConOk Try.prog 54 zaiq := by
  refine ⟨Qp Try.func54 (by decide) rfl, fun args h => ?_⟩
  revert h
  dsimp only
  split
  · intro h
    obtain ⟨xs, rfl, rfl⟩ := h
    try simp only [Qu] at *
    exact ⟨wpHas_pure xs _, by simp [go_sem]⟩
  · intro h
    exact h.elim
@[go_sem] def Γx3 : FuncId → Con := ext Γx2 54 zaiq
theorem Wb : ∀ g, ConOk Try.prog g (Γx3 g) := Qo Wz wpHas_pureC_ok

set_option maxHeartbeats 4000000 in
theorem wpAnd_pure (x : Int) (y : Int) (h0 : 0 ≤ x) (h1 : x ≤ 7) (h2 : 0 ≤ y) (h3 : y ≤ 7) : Pure Try.prog 55 [.int .i64 x, .int .i64 y] (.int .i64 (bitsD .and .i64 x y)) := by
  refine Pure.of_walk Try.func55 rfl (by simp [Try.f55]) (by simp [-zd, go_sem]) fun B hK => ?_
  have hpa := pA_and h0 h1 h2 h3; rw [← hpa]; clear hpa; have r1 : pA x y 1 = (if x.tmod 2 = 1 ∧ y.tmod 2 = 1 then 1 else 0) := (by have q : pA x y 1 = (if (x.tdiv 1).tmod 2 = 1 ∧ (y.tdiv 1).tmod 2 = 1 then 0 + 1 else 0) := rfl; rw [Int.tdiv_one, Int.tdiv_one] at q; exact q); have r2 : pA x y 2 = (if (x.tdiv 2).tmod 2 = 1 ∧ (y.tdiv 2).tmod 2 = 1 then pA x y 1 + 2 else pA x y 1) := rfl; have r3 : pA x y 3 = (if (x.tdiv 4).tmod 2 = 1 ∧ (y.tdiv 4).tmod 2 = 1 then pA x y 2 + 4 else pA x y 2) := rfl; have b1 : 0 ≤ pA x y 1 ∧ pA x y 1 ≤ 1 := (by rw [r1]; split <;> omega); have b2 : 0 ≤ pA x y 2 ∧ pA x y 2 ≤ 3 := (by rw [r2]; split <;> omega); have wd : ∀ z : Int, 0 ≤ z → z ≤ 7 → ∀ d : Int, d = 1 ∨ d = 2 ∨ d = 4 → IntKind.i64.wrap (z.tdiv d) = z.tdiv d := (fun z a b d hd => by (rcases hd with e | e | e <;> subst e <;> rw [Int.tdiv_eq_ediv_of_nonneg a, Qj (by omega) (by omega)])); generalize hp1 : pA x y 1 = p1 at *; generalize hp2 : pA x y 2 = p2 at *; generalize hp3 : pA x y 3 = p3 at *
  all_goals (repeat' (first
 | refine Qs ?_
 | refine Qc (id := 0) Wb [] (by kernel_rfl) ?_; simp [-zg, -zd, ↓Qb, ↓Qa, go_sem]
 | refine Qc (id := 1) Wb [] (by kernel_rfl) ?_; simp [-zg, -zd, ↓Qb, ↓Qa, go_sem]
 | refine Qc (id := 2) Wb [] (by kernel_rfl) ?_; simp [-zg, -zd, ↓Qb, ↓Qa, go_sem]
 | refine Qc (id := 3) Wb [] (by kernel_rfl) ?_; simp [-zg, -zd, ↓Qb, ↓Qa, go_sem]
 | refine Qc (id := 5) Wb [16] (by kernel_rfl) ?_; simp [-zg, -zd, ↓Qb, ↓Qa, go_sem, wd x h0 h1 2 (by omega), wd x h0 h1 4 (by omega), wd y h2 h3 2 (by omega), wd y h2 h3 4 (by omega), Qj (x := x) (by omega) (by omega), Qj (x := y) (by omega) (by omega)]; try (refine ⟨fun s5a => ?_, fun s5a => ?_⟩ <;> (try simp [B_iff, B_not] at s5a) <;> try (refine ⟨fun s5b => ?_, fun s5b => ?_⟩ <;> (try simp [B_iff, B_not] at s5b)))
 | refine Qc (id := 6) Wb [] (by kernel_rfl) ?_; simp [-zg, -zd, ↓Qb, ↓Qa, go_sem, (by decide : IntKind.i64.wrap 1 = 1), Qj (x := p1 + 2) (by omega) (by omega), Qj (x := p2 + 4) (by omega) (by omega)]
 | (first | (simp [s5a, c22] at r1 r2 r3) | (simp [s5a] at r1 r2 r3) | skip); refine Qc (id := 4) Wb [] (by kernel_rfl) ?_; simp [-zg, -zd, ↓Qb, ↓Qa, go_sem, (by decide : IntKind.i64.wrap 2 = 2), (by decide : IntKind.i64.wrap 4 = 4), (by decide : IntKind.i64.wrap 8 = 8)]
 | refine Qc (id := 7) Wb [] (by kernel_rfl) ?_; simp [-zg, -zd, ↓Qb, ↓Qa, go_sem]
 | refine Qd (c := .tmp 8) ?_; simp [-zg, -zd, ↓Qb, ↓Qa, go_sem]; try first | (refine ⟨?_, ?_⟩ <;> refine zA ?_) | (refine ⟨fun c8 => ?_, fun c8 => ?_⟩ <;> (try simp [B_iff, B_not] at c8))
 | refine Qd (c := .tmp 22) ?_; simp [-zg, -zd, ↓Qb, ↓Qa, go_sem]; try first | (refine ⟨?_, ?_⟩ <;> refine zA ?_) | (refine ⟨fun c22 => ?_, fun c22 => ?_⟩ <;> (try simp [B_iff, B_not] at c22))
 | (refine Qe (id := 0) (Qz (ι := Nat) (fun k : Nat => ⟨(upd (upd (upd (upd (fun _ => .any) 0 (.int .i64 x)) 1 (.int .i64 y)) 5 (.int .i64 (if k = 0 then 0 else if k = 1 then p1 else if k = 2 then p2 else p3))) 6 (.int .i64 (if k = 0 then 1 else if k = 1 then 2 else if k = 2 then 4 else 8))), fun _ => none⟩) (fun k => k ≤ 3) (fun k => 3 - k) (0) ?_ ?_ ?_); exact Nat.zero_le _; ((repeat' (first | exact Qg (by assumption) | exact Qi | refine Qf ?_ ?_ | refine Qh ?_)) <;> simp [-zg, -zd, ↓Qb, ↓Qa, go_sem]); rintro k hk; rcases (show k = 0 ∨ k = 1 ∨ k = 2 ∨ k = 3 by omega) with e | e | e | e <;> subst e)
 | (refine ⟨k + 1, by omega, by first | omega | (simp; done) | (simp; omega), ?_⟩; ((repeat' (first | exact Qg (by assumption) | exact Qi | refine Qf ?_ ?_ | refine Qh ?_)) <;> simp [-zg, -zd, ↓Qb, ↓Qa, go_sem, r1, r2, r3]))
 | (refine Qe ?_)
 | (refine Qr ?_; simp [-zg, -zd, ↓Qb, ↓Qa, go_sem])
 | (refine Qq ?_; simp [-zg, -zd, ↓Qb, ↓Qa, go_sem])
 | (refine Qt ?_; simp [-zg, -zd, ↓Qb, ↓Qa, go_sem, Try.results55])
 | (intro hx; refine zA ?_)
 | (refine ⟨?_, ?_⟩ <;> refine zA ?_)
 | (intro hx; constructor <;> intro hs)
 | (constructor <;> intro hs)
 | (refine ⟨?_, fun hs => ?_⟩; refine zA ?_)
 | (refine ⟨fun hs => ?_, ?_⟩; rotate_left; refine zA ?_; rotate_left)
 | (refine ⟨(1 : Nat), by first | omega | (simp; done) | (simp; omega), by first | omega | (simp; done) | (simp; omega), ?_⟩; ((repeat' (first | exact Qg (by assumption) | exact Qi | refine Qf ?_ ?_ | refine Qh ?_)) <;> simp [-zg, -zd, go_sem, r1, r2, r3]); done)
 | (refine ⟨(2 : Nat), by first | omega | (simp; done) | (simp; omega), by first | omega | (simp; done) | (simp; omega), ?_⟩; ((repeat' (first | exact Qg (by assumption) | exact Qi | refine Qf ?_ ?_ | refine Qh ?_)) <;> simp [-zg, -zd, go_sem, r1, r2, r3]); done)
 | (refine ⟨(3 : Nat), by first | omega | (simp; done) | (simp; omega), by first | omega | (simp; done) | (simp; omega), ?_⟩; ((repeat' (first | exact Qg (by assumption) | exact Qi | refine Qf ?_ ?_ | refine Qh ?_)) <;> simp [-zg, -zd, go_sem, r1, r2, r3]); done)))
@[go_sem] def zair : Con := .pure fun
  | [.int .i64 x, .int .i64 y] => ((0 ≤ x) ∧ (x ≤ 7) ∧ (0 ≤ y) ∧ (y ≤ 7), .int .i64 (bitsD .and .i64 x y))
  | _ => (False, .any)
theorem wpAnd_pureC_ok : ConOk Try.prog 55 zair := by
  refine ⟨Qp Try.func55 (by decide) rfl, fun args h => ?_⟩
  revert h
  dsimp only
  split
  · intro h
    obtain ⟨h0, h1, h2, h3⟩ := h
    skip
    exact ⟨wpAnd_pure _ _ h0 h1 h2 h3, by simp [go_sem]⟩
  · intro h
    exact h.elim
@[go_sem] def Γx4 : FuncId → Con := ext Γx3 55 zair
theorem Γx4_ok : ∀ g, ConOk Try.prog g (Γx4 g) := Qo Wb wpAnd_pureC_ok

end
end Go.Proofs.Ytkjimmkemnmajaa.Vm

