/-
  The same word, the program's way. No conditions.
-/
import Derived.Test.YtkjimmkemnmajaaSM5
namespace Go.Proofs.Ytkjimmkemnmajaa.Vm
open Go
open Nat renaming sub_pos_of_lt → zsP
open List renaming getD_eq_getElem?_getD → zg, drop_one → zd
noncomputable section
set_option linter.unusedVariables false
set_option linter.unusedSimpArgs false
set_option maxRecDepth 200000

@[go_sem] def Γq23 : FuncId → Con := Γk20
theorem Jx : ∀ g, ConOk Try.prog g (Γq23 g) := Γk20_ok
def Per (xs : List Int) (n : Nat) : Prop := xs.length % n = 0 ∧ ∀ i, n ≤ i → i < xs.length → nth xs i = nth xs (i - n)
def Zi (xs : List Int) : Nat := ((List.range' 1 (xs.length - 1)).find? fun n => B (Per xs n)).getD xs.length
theorem period_at {xs : List Int} {n : Nat} (h0 : 1 ≤ n) (h1 : n < xs.length) (h2 : Per xs n) (h3 : ∀ m, 1 ≤ m → m < n → ¬ Per xs m) : Zi xs = n := by
  unfold Zi
  have : (List.range' 1 (xs.length - 1)).find? (fun n => B (Per xs n)) = some n := by
    rw [List.find?_range'_eq_some]
    exact ⟨B_yes h2, by rw [List.mem_range'_1]; omega, fun m m1 m2 => by have := B_no (h3 m m1 m2); simp [this]⟩
  rw [this]; rfl
theorem zaoy {xs : List Int} (h3 : ∀ m, 1 ≤ m → m < xs.length → ¬ Per xs m) : Zi xs = xs.length := by
  unfold Zi
  have : (List.range' 1 (xs.length - 1)).find? (fun n => B (Per xs n)) = none := by
    rw [List.find?_eq_none]
    intro m hm
    rw [List.mem_range'_1] at hm
    rw [B_no (h3 m (by omega) (by omega))]
    simp
  rw [this]; rfl
theorem mod_natX (a b : Nat) : ((a : Int) % (b : Int) = 0) ↔ a % b = 0 := by norm_cast

def rep (ys : List Int) (m : Nat) : List Int := (List.replicate m ys).flatten
theorem rep_len (ys : List Int) (m : Nat) : (rep ys m).length = m * ys.length := by simp [rep]
theorem rep_succ (ys : List Int) (m : Nat) : rep ys (m + 1) = ys ++ rep ys m := by simp [rep, List.replicate_succ]
theorem nth_apX {xs ys : List Int} {i : Nat} : nth (xs ++ ys) i = if i < xs.length then nth xs i else nth ys (i - xs.length) := by
  unfold nth
  rw [List.getD_eq_getElem?_getD, List.getElem?_append]
  split <;> rw [List.getD_eq_getElem?_getD]
theorem nth_repX {ys : List Int} : ∀ {m i : Nat}, i < m * ys.length → nth (rep ys m) i = nth ys (i % ys.length)
  | 0, i, h => by simp at h
  | m + 1, i, h => by
    rw [rep_succ, nth_apX]
    split
    · rename_i h1; rw [Nat.mod_eq_of_lt h1]
    · rename_i h1
      rw [Nat.succ_mul] at h
      rw [nth_repX (m := m) (by omega)]
      congr 1
      rw [← Nat.mod_eq_sub_mod (by omega)]
theorem nth_mod {xs : List Int} {n : Nat} (h0 : 0 < n) (h : ∀ i, n ≤ i → i < xs.length → nth xs i = nth xs (i - n)) : ∀ i, i < xs.length → nth xs i = nth xs (i % n) := by
  intro i
  induction i using Nat.strongRecOn with
  | _ i ih =>
    intro hi
    rcases Nat.lt_or_ge i n with h1 | h1
    · rw [Nat.mod_eq_of_lt h1]
    · rw [h i h1 hi, ih (i - n) (by omega) (by omega), ← Nat.mod_eq_sub_mod h1]
theorem rep_per {xs : List Int} {n : Nat} (h0 : 0 < n) (hn : n ≤ xs.length) (hd : xs.length % n = 0) :
    (rep (xs.take n) (xs.length / n) = xs) ↔ ∀ i, n ≤ i → i < xs.length → nth xs i = nth xs (i - n) := by
  have hl : (xs.take n).length = n := by simp; omega
  have hm : xs.length / n * n = xs.length := Nat.div_mul_cancel (Nat.dvd_of_mod_eq_zero hd)
  have hr : ∀ i, i < xs.length → nth (rep (xs.take n) (xs.length / n)) i = nth xs (i % n) := fun i hi => by
    rw [nth_repX (by rw [hl, hm]; exact hi), hl, Zx (Nat.mod_lt _ h0)]
  constructor
  · intro h i h1 h2
    have e1 := hr i h2
    have e2 := hr (i - n) (by omega)
    rw [h] at e1 e2
    rw [e1, e2, Nat.mod_eq_sub_mod h1]
  · intro h
    apply List.ext_getElem (by rw [rep_len, hl, hm])
    intro i h1 h2
    rw [← Qw h1, ← Qw h2, hr i h2]
    exact (nth_mod h0 h i h2).symm

theorem Jk {x : Int} (h1 : 0 ≤ x) (h2 : x ≤ 18446744073709551615) : IntKind.u64.wrap x = x := by
  rw [IntKind.wrap_u64]; omega
theorem Xs {x : Int} (h1 : 0 ≤ x) (h2 : x ≤ 4294967295) : bitsD .and .u64 x 4294967295 = x := by
  have k1 : (BitVec.ofInt 64 x).toNat = x.toNat := by
    rw [BitVec.toNat_ofInt]
    have : x % ((2 ^ 64 : Nat) : Int) = x := Int.emod_eq_of_lt h1 (by omega)
    rw [this]
  have k2 : BitVec.ofInt 64 4294967295 = BitVec.ofNat 64 4294967295 := by decide
  have k3 : (BitVec.ofInt 64 x &&& BitVec.ofInt 64 4294967295).toNat = x.toNat := by
    rw [BitVec.toNat_and, k1, k2]
    have : (BitVec.ofNat 64 4294967295).toNat = 2 ^ 32 - 1 := by decide
    rw [this, Nat.and_two_pow_sub_one_eq_mod, Nat.mod_eq_of_lt (by omega)]
  show IntKind.u64.wrap ((BitVec.ofInt 64 x &&& BitVec.ofInt 64 4294967295).toNat : Int) = x
  rw [k3, Jk (by omega) (by omega)]; omega
theorem Xf {x : Int} (h1 : 0 ≤ x) (h2 : x ≤ 4294967295) : x.fdiv 4294967296 = 0 := by
  rw [Int.fdiv_eq_ediv_of_nonneg _ (by omega)]; omega
theorem mul_leX {x y : Int} (h1 : 0 ≤ x) (h2 : x ≤ 65535) (h3 : 0 ≤ y) (h4 : y ≤ 65535) : 0 ≤ x * y ∧ x * y ≤ 4294836225 :=
  ⟨Int.mul_nonneg h1 h3, by have := Int.mul_le_mul h2 h4 h3 (by omega); omega⟩

theorem mul64_pure (x : Int) (y : Int) (h1 : 0 ≤ x) (h2 : x ≤ 65535) (h3 : 0 ≤ y) (h4 : y ≤ 65535) : Pure Try.prog 251 [.int .u64 x, .int .u64 y] (.tup [.int .u64 0, .int .u64 (x * y)]) := by
  refine Pure.of_walk Try.func251 rfl (by simp [Try.f251]) (by simp [-zd, go_sem]) fun B hK => ?_
  obtain ⟨m1, m2⟩ := mul_leX h1 h2 h3 h4
  all_goals (repeat' (first
 | refine Qu ?_
 | refine Qc (id := 0) Jx [] (by kernel_rfl) ?_; simp [-zg, -zd, ↓Qb, ↓Qa, go_sem, Xs h1 (show x ≤ 4294967295 by omega), Xs h3 (show y ≤ 4294967295 by omega), Xf h1 (show x ≤ 4294967295 by omega), Xf h3 (show y ≤ 4294967295 by omega), Xf m1 (show x * y ≤ 4294967295 by omega), Jk m1 (show x * y ≤ 18446744073709551615 by omega), IntKind.bits, (show IntKind.u64.wrap 0 = 0 from rfl), (show bitsD .and .u64 0 4294967295 = 0 by decide)]
 | refine Qc (id := 1) Jx [] (by kernel_rfl) ?_; simp [-zg, -zd, ↓Qb, ↓Qa, go_sem, Xs h1 (show x ≤ 4294967295 by omega), Xs h3 (show y ≤ 4294967295 by omega), Xf h1 (show x ≤ 4294967295 by omega), Xf h3 (show y ≤ 4294967295 by omega), Xf m1 (show x * y ≤ 4294967295 by omega), Jk m1 (show x * y ≤ 18446744073709551615 by omega), IntKind.bits, (show IntKind.u64.wrap 0 = 0 from rfl), (show bitsD .and .u64 0 4294967295 = 0 by decide)]
 | refine Qc (id := 2) Jx [] (by kernel_rfl) ?_; simp [-zg, -zd, ↓Qb, ↓Qa, go_sem, Xs h1 (show x ≤ 4294967295 by omega), Xs h3 (show y ≤ 4294967295 by omega), Xf h1 (show x ≤ 4294967295 by omega), Xf h3 (show y ≤ 4294967295 by omega), Xf m1 (show x * y ≤ 4294967295 by omega), Jk m1 (show x * y ≤ 18446744073709551615 by omega), IntKind.bits, (show IntKind.u64.wrap 0 = 0 from rfl), (show bitsD .and .u64 0 4294967295 = 0 by decide)]
 | refine Qc (id := 3) Jx [] (by kernel_rfl) ?_; simp [-zg, -zd, ↓Qb, ↓Qa, go_sem, Xs h1 (show x ≤ 4294967295 by omega), Xs h3 (show y ≤ 4294967295 by omega), Xf h1 (show x ≤ 4294967295 by omega), Xf h3 (show y ≤ 4294967295 by omega), Xf m1 (show x * y ≤ 4294967295 by omega), Jk m1 (show x * y ≤ 18446744073709551615 by omega), IntKind.bits, (show IntKind.u64.wrap 0 = 0 from rfl), (show bitsD .and .u64 0 4294967295 = 0 by decide)]
 | refine Qc (id := 4) Jx [] (by kernel_rfl) ?_; simp [-zg, -zd, ↓Qb, ↓Qa, go_sem, Xs h1 (show x ≤ 4294967295 by omega), Xs h3 (show y ≤ 4294967295 by omega), Xf h1 (show x ≤ 4294967295 by omega), Xf h3 (show y ≤ 4294967295 by omega), Xf m1 (show x * y ≤ 4294967295 by omega), Jk m1 (show x * y ≤ 18446744073709551615 by omega), IntKind.bits, (show IntKind.u64.wrap 0 = 0 from rfl), (show bitsD .and .u64 0 4294967295 = 0 by decide)]
 | refine Qc (id := 5) Jx [] (by kernel_rfl) ?_; simp [-zg, -zd, ↓Qb, ↓Qa, go_sem, Xs h1 (show x ≤ 4294967295 by omega), Xs h3 (show y ≤ 4294967295 by omega), Xf h1 (show x ≤ 4294967295 by omega), Xf h3 (show y ≤ 4294967295 by omega), Xf m1 (show x * y ≤ 4294967295 by omega), Jk m1 (show x * y ≤ 18446744073709551615 by omega), IntKind.bits, (show IntKind.u64.wrap 0 = 0 from rfl), (show bitsD .and .u64 0 4294967295 = 0 by decide)]
 | refine Qc (id := 6) Jx [] (by kernel_rfl) ?_; simp [-zg, -zd, ↓Qb, ↓Qa, go_sem, Xs h1 (show x ≤ 4294967295 by omega), Xs h3 (show y ≤ 4294967295 by omega), Xf h1 (show x ≤ 4294967295 by omega), Xf h3 (show y ≤ 4294967295 by omega), Xf m1 (show x * y ≤ 4294967295 by omega), Jk m1 (show x * y ≤ 18446744073709551615 by omega), IntKind.bits, (show IntKind.u64.wrap 0 = 0 from rfl), (show bitsD .and .u64 0 4294967295 = 0 by decide)]
 | refine Qc (id := 7) Jx [] (by kernel_rfl) ?_; simp [-zg, -zd, ↓Qb, ↓Qa, go_sem, Xs h1 (show x ≤ 4294967295 by omega), Xs h3 (show y ≤ 4294967295 by omega), Xf h1 (show x ≤ 4294967295 by omega), Xf h3 (show y ≤ 4294967295 by omega), Xf m1 (show x * y ≤ 4294967295 by omega), Jk m1 (show x * y ≤ 18446744073709551615 by omega), IntKind.bits, (show IntKind.u64.wrap 0 = 0 from rfl), (show bitsD .and .u64 0 4294967295 = 0 by decide)]
 | refine Qc (id := 8) Jx [] (by kernel_rfl) ?_; simp [-zg, -zd, ↓Qb, ↓Qa, go_sem, Xs h1 (show x ≤ 4294967295 by omega), Xs h3 (show y ≤ 4294967295 by omega), Xf h1 (show x ≤ 4294967295 by omega), Xf h3 (show y ≤ 4294967295 by omega), Xf m1 (show x * y ≤ 4294967295 by omega), Jk m1 (show x * y ≤ 18446744073709551615 by omega), IntKind.bits, (show IntKind.u64.wrap 0 = 0 from rfl), (show bitsD .and .u64 0 4294967295 = 0 by decide)]
 | refine Qc (id := 9) Jx [] (by kernel_rfl) ?_; simp [-zg, -zd, ↓Qb, ↓Qa, go_sem, Xs h1 (show x ≤ 4294967295 by omega), Xs h3 (show y ≤ 4294967295 by omega), Xf h1 (show x ≤ 4294967295 by omega), Xf h3 (show y ≤ 4294967295 by omega), Xf m1 (show x * y ≤ 4294967295 by omega), Jk m1 (show x * y ≤ 18446744073709551615 by omega), IntKind.bits, (show IntKind.u64.wrap 0 = 0 from rfl), (show bitsD .and .u64 0 4294967295 = 0 by decide)]
 | refine Qc (id := 10) Jx [] (by kernel_rfl) ?_; simp [-zg, -zd, ↓Qb, ↓Qa, go_sem, Xs h1 (show x ≤ 4294967295 by omega), Xs h3 (show y ≤ 4294967295 by omega), Xf h1 (show x ≤ 4294967295 by omega), Xf h3 (show y ≤ 4294967295 by omega), Xf m1 (show x * y ≤ 4294967295 by omega), Jk m1 (show x * y ≤ 18446744073709551615 by omega), IntKind.bits, (show IntKind.u64.wrap 0 = 0 from rfl), (show bitsD .and .u64 0 4294967295 = 0 by decide)]
 | refine Qc (id := 11) Jx [] (by kernel_rfl) ?_; simp [-zg, -zd, ↓Qb, ↓Qa, go_sem, Xs h1 (show x ≤ 4294967295 by omega), Xs h3 (show y ≤ 4294967295 by omega), Xf h1 (show x ≤ 4294967295 by omega), Xf h3 (show y ≤ 4294967295 by omega), Xf m1 (show x * y ≤ 4294967295 by omega), Jk m1 (show x * y ≤ 18446744073709551615 by omega), IntKind.bits, (show IntKind.u64.wrap 0 = 0 from rfl), (show bitsD .and .u64 0 4294967295 = 0 by decide)]
 | (refine Qe ?_)
 | (refine Qs ?_; simp [-zg, -zd, ↓Qb, ↓Qa, go_sem])
 | (refine Qr ?_; simp [-zg, -zd, ↓Qb, ↓Qa, go_sem])
 | (refine Qv ?_; simp [-zg, -zd, ↓Qb, ↓Qa, go_sem, Try.results251, Xs h1 (show x ≤ 4294967295 by omega), Xs h3 (show y ≤ 4294967295 by omega), Xf h1 (show x ≤ 4294967295 by omega), Xf h3 (show y ≤ 4294967295 by omega), Xf m1 (show x * y ≤ 4294967295 by omega), Jk m1 (show x * y ≤ 18446744073709551615 by omega), IntKind.bits, (show IntKind.u64.wrap 0 = 0 from rfl), (show bitsD .and .u64 0 4294967295 = 0 by decide)])
 | (intro hx; refine zA ?_)
 | (refine ⟨?_, ?_⟩ <;> refine zA ?_)
 | (intro hx; constructor <;> intro hs)
 | (constructor <;> intro hs)
 | (refine ⟨?_, fun hs => ?_⟩; refine zA ?_)
 | (refine ⟨fun hs => ?_, ?_⟩; rotate_left; refine zA ?_; rotate_left)))
@[go_sem] def zais : Con := .pure fun
  | [.int .u64 x, .int .u64 y] => ((0 ≤ x) ∧ (x ≤ 65535) ∧ (0 ≤ y) ∧ (y ≤ 65535), .tup [.int .u64 0, .int .u64 (x * y)])
  | _ => (False, .any)
theorem mul64_pureC_ok : ConOk Try.prog 251 zais := by
  refine ⟨Qp Try.func251 (by decide) rfl, fun args h => ?_⟩
  revert h
  dsimp only
  split
  · intro h
    obtain ⟨h1, h2, h3, h4⟩ := h
    skip
    exact ⟨mul64_pure _ _ h1 h2 h3 h4, by simp [go_sem]⟩
  · intro h
    exact h.elim
@[go_sem] def Γq24 : FuncId → Con := ext Γq23 251 zais
theorem zaim : ∀ g, ConOk Try.prog g (Γq24 g) := Qo Jx mul64_pureC_ok

theorem mul_pure (x : Int) (y : Int) (h1 : 0 ≤ x) (h2 : x ≤ 65535) (h3 : 0 ≤ y) (h4 : y ≤ 65535) : Pure Try.prog 227 [.int .u64 x, .int .u64 y] (.tup [.int .u64 0, .int .u64 (x * y)]) := by
  refine Pure.of_walk Try.func227 rfl (by simp [Try.f227]) (by simp [-zd, go_sem]) fun B hK => ?_
  (repeat' (first
 | refine Qu ?_
 | refine Qc (id := 0) zaim [] (by kernel_rfl) ?_; simp [-zg, -zd, ↓Qb, ↓Qa, go_sem, h1, h2, h3, h4]
 | refine Qc (id := 1) zaim [] (by kernel_rfl) ?_; simp [-zg, -zd, ↓Qb, ↓Qa, go_sem, h1, h2, h3, h4]
 | refine Qc (id := 2) zaim [] (by kernel_rfl) ?_; simp [-zg, -zd, ↓Qb, ↓Qa, go_sem, h1, h2, h3, h4]
 | refine Qc (id := 3) zaim [] (by kernel_rfl) ?_; simp [-zg, -zd, ↓Qb, ↓Qa, go_sem, h1, h2, h3, h4]
 | refine Qc (id := 4) zaim [] (by kernel_rfl) ?_; simp [-zg, -zd, ↓Qb, ↓Qa, go_sem, h1, h2, h3, h4]
 | (refine Qe ?_)
 | (refine Qs ?_; simp [-zg, -zd, ↓Qb, ↓Qa, go_sem])
 | (refine Qr ?_; simp [-zg, -zd, ↓Qb, ↓Qa, go_sem])
 | (refine Qv ?_; simp [-zg, -zd, ↓Qb, ↓Qa, go_sem, Try.results227, h1, h2, h3, h4])
 | (intro hx; refine zA ?_)
 | (refine ⟨?_, ?_⟩ <;> refine zA ?_)
 | (intro hx; constructor <;> intro hs)
 | (constructor <;> intro hs)
 | (refine ⟨?_, fun hs => ?_⟩; refine zA ?_)
 | (refine ⟨fun hs => ?_, ?_⟩; rotate_left; refine zA ?_; rotate_left)
 | (refine Qd (c := .const (.bool false)) ?_; simp [go_sem])
 | (exfalso; exact Bool.noConfusion hs)))
@[go_sem] def mul_pureC : Con := .pure fun
  | [.int .u64 x, .int .u64 y] => ((0 ≤ x) ∧ (x ≤ 65535) ∧ (0 ≤ y) ∧ (y ≤ 65535), .tup [.int .u64 0, .int .u64 (x * y)])
  | _ => (False, .any)
theorem mul_pureC_ok : ConOk Try.prog 227 mul_pureC := by
  refine ⟨Qp Try.func227 (by decide) rfl, fun args h => ?_⟩
  revert h
  dsimp only
  split
  · intro h
    obtain ⟨h1, h2, h3, h4⟩ := h
    skip
    exact ⟨mul_pure _ _ h1 h2 h3 h4, by simp [go_sem]⟩
  · intro h
    exact h.elim
@[go_sem] def Γq25 : FuncId → Con := ext Γq24 227 mul_pureC
theorem Vi : ∀ g, ConOk Try.prog g (Γq25 g) := Qo zaim mul_pureC_ok

theorem rep_take (xs : List Int) {m : Nat} (h : 1 ≤ m) : (rep xs m).take xs.length = xs := by
  obtain ⟨k, rfl⟩ : ∃ k, m = k + 1 := ⟨m - 1, by omega⟩
  rw [rep_succ, List.take_left']; rfl
theorem rep_shift {xs : List Int} {m k n : Nat} (hk : k % xs.length = 0) (h : k + n ≤ (rep xs m).length) : ((rep xs m).drop k).take n = (rep xs m).take n := by
  rw [rep_len] at h
  apply List.ext_getElem
  · simp [rep_len]; omega
  · intro i h1 h2
    have h3 := h2
    simp only [List.length_take, rep_len] at h3
    rw [← Qw h1, ← Qw h2, Zx (by omega), Zx (by omega), nth_drop, nth_repX (by omega), nth_repX (by omega)]
    rw [Nat.add_mod, hk, Nat.zero_add, Nat.mod_mod]
theorem fill_copy {R : List Int} {k n : Nat} (h : k + n ≤ R.length) (junk : List D) : stSeg (fillC cI [.int .i64 0] 1 R k junk) k (cat cI ((R.drop k).take n)) = fillC cI [.int .i64 0] 1 R (k + n) junk := by
  unfold fillC stSeg
  have e : (cat cI (R.take k)).length = k := by rw [Qy]; simp; omega
  have l : (cat cI ((R.drop k).take n)).length = n := by rw [Qy]; simp; omega
  have q := zahq (cat cI (R.take k)) (cat cI ((R.drop k).take n)) (makeD [.int .i64 0] ((R.length - k) * 1) ++ junk) (by rw [l, List.length_append, Ua]; omega)
  rw [e, l] at q
  rw [q, ← Zt, ← List.take_add, Jb, Jb]
  congr 1
  rw [List.drop_append_of_le_length (by simp; omega), List.drop_replicate]
  congr 2
  omega
theorem fill_take {R : List Int} {k : Nat} (h : k ≤ R.length) (junk : List D) : (fillC cI [.int .i64 0] 1 R k junk).take k = cat cI (R.take k) := by
  unfold fillC
  rw [List.take_append_of_le_length (by rw [Qy]; simp; omega), List.take_of_length_le (by rw [Qy]; simp; omega)]
theorem fill_none (R : List Int) (junk : List D) : makeD [.int .i64 0] R.length ++ junk = fillC cI [.int .i64 0] 1 R 0 junk := by simp [fillC, cat]
theorem fill_first {xs : List Int} {m : Nat} (h : 1 ≤ m) (hl : xs.length ≤ (rep xs m).length) (junk : List D) : stSeg (fillC cI [.int .i64 0] 1 (rep xs m) 0 junk) 0 (cat cI xs) = fillC cI [.int .i64 0] 1 (rep xs m) xs.length junk := by
  have := fill_copy (R := rep xs m) (k := 0) (n := xs.length) (by omega) junk
  rwa [List.drop_zero, rep_take xs h, Nat.zero_add] at this
theorem fill_next {xs : List Int} {m k n : Nat} (hk : k % xs.length = 0) (h : k + n ≤ (rep xs m).length) (junk : List D) : stSeg (fillC cI [.int .i64 0] 1 (rep xs m) k junk) k (cat cI ((rep xs m).take n)) = fillC cI [.int .i64 0] 1 (rep xs m) (k + n) junk := by
  rw [← rep_shift hk h]
  exact fill_copy h junk

theorem Repeat_pure (xs : List Int) (n : Int) (h0 : 0 < xs.length) (h1 : 1 ≤ n) (h2 : xs.length ≤ 80) (h3 : n ≤ 80) : Pure Try.prog 195 [li cI xs, .int .i64 n] (fr 1 cI (rep xs n.toNat)) := by
  refine Pure.of_walk Try.func195 rfl (by simp [Try.f195]) (by simp [-zd, go_sem]) fun B hK => ?_
  (obtain ⟨m, rfl⟩ : ∃ m : Nat, n = m := ⟨n.toNat, by omega⟩); (simp only [Int.toNat_natCast] at *); have hL := rep_len xs m; have hM := mul_leX (x := (xs.length : Int)) (y := (m : Int)) (by omega) (by omega) (by omega) (by omega); have hl0 : xs.length ≤ m * xs.length := Nat.le_mul_of_pos_left _ (by omega); have hc : (xs.length : Int) * (m : Int) = ((rep xs m).length : Nat) := (by rw [hL, Nat.mul_comm]; simp); have hLm : (rep xs m).length ≤ 4294836225 := (by omega); have hlL : xs.length ≤ (rep xs m).length := (by omega)
  all_goals (repeat' (first
 | refine Qu ?_
 | refine Qc (id := 0) Vi [] (by kernel_rfl) ?_; simp [-zg, -zd, ↓Qb, ↓Qa, go_sem]
 | refine Qc (id := 1) Vi [] (by kernel_rfl) ?_; simp [-zg, -zd, ↓Qb, ↓Qa, go_sem, h1]
 | refine Qc (id := 2) Vi [] (by kernel_rfl) ?_; simp [-zg, -zd, ↓Qb, ↓Qa, go_sem]
 | refine Qc (id := 3) Vi [] (by kernel_rfl) ?_; simp [-zg, -zd, ↓Qb, ↓Qa, go_sem, Jk (x := (xs.length : Int)) (by omega) (by omega), Jk (x := (m : Int)) (by omega) (by omega), (show (xs.length : Int) ≤ 65535 by omega), (show (m : Int) ≤ 65535 by omega), hc, (show xs.length ≤ 65535 by omega), (show m ≤ 65535 by omega)]
 | refine Qc (id := 4) Vi [23] (by kernel_rfl) ?_; simp [-zg, -zd, ↓Qb, ↓Qa, go_sem, hc, (show ((rep xs m).length : Int) ≤ 9223372036854775807 by omega), (show (rep xs m).length ≤ 9223372036854775807 by omega)]; try (refine ⟨fun s4a => ?_, fun s4a => ?_⟩ <;> (try simp [B_iff, B_not] at s4a) <;> try (refine ⟨fun s4b => ?_, fun s4b => ?_⟩ <;> (try simp [B_iff, B_not] at s4b)))
 | refine Qc (id := 5) Vi [] (by kernel_rfl) ?_; simp [-zg, -zd, ↓Qb, ↓Qa, go_sem]
 | refine Qc (id := 6) Vi [] (by kernel_rfl) ?_; simp [-zg, -zd, ↓Qb, ↓Qa, go_sem, Qk (x := ((rep xs m).length : Int)) (by omega) (by omega), (show ((rep xs m).length : Int) ≤ 9223372036854775807 by omega), (show (rep xs m).length * 8 ≤ 281474976710656 by omega), (show 8 * ((rep xs m).length : Int) ≤ 281474976710656 by omega)]; try ((refine Zk 7 rfl fun b cp j _ hcp hj => ?_))
 | refine Qc (id := 7) Vi [] (by kernel_rfl) ?_; simp [-zg, -zd, ↓Qb, ↓Qa, go_sem, fill_none, fill_first (xs := xs) (m := m) (by omega) hlL, Ua, Nat.min_eq_left hlL, fill_len (f := cI) (sz := 1) [.int .i64 0] (xs := rep xs m) (k := 0) (Nat.zero_le _), (show xs.length ≤ (rep xs m).length + j by omega), (show 0 ≤ (rep xs m).length by omega)]
 | refine Qc (id := 8) Vi [] (by kernel_rfl) ?_; simp [-zg, -zd, ↓Qb, ↓Qa, go_sem]
 | (have hz : k % xs.length = 0 := hk2.resolve_left (by omega)); refine Xo (id := 9) Vi mixed [] [8, 7] (by kernel_rfl) (by kernel_rfl) (by simp [-zg, -zd, ↓Qb, ↓Qa, go_sem, fill_take hk1, (show ((rep xs m).take k).take (min k ((rep xs m).length - k)) = (rep xs m).take (min k ((rep xs m).length - k)) by rw [List.take_take]; congr 1; omega), fill_next hz (show k + min k ((rep xs m).length - k) ≤ (rep xs m).length by omega), fill_len (f := cI) (sz := 1) [.int .i64 0] (xs := rep xs m) (k := k) hk1, (show k + min k ((rep xs m).length - k) ≤ (rep xs m).length + j by omega), (show (((rep xs m).length : Int) - k).toNat = (rep xs m).length - k by omega), hk1, (show k ≤ cp by omega), (show (k : Int) ≤ (rep xs m).length by omega), (show (k : Int) ≤ cp by omega), Qk (x := (k : Int) + (min k ((rep xs m).length - k) : Nat)) (by omega) (by omega), hcp]) ?_; simp [-zg, -zd, ↓Qb, ↓Qa, go_sem, fill_take hk1, (show ((rep xs m).take k).take (min k ((rep xs m).length - k)) = (rep xs m).take (min k ((rep xs m).length - k)) by rw [List.take_take]; congr 1; omega), fill_next hz (show k + min k ((rep xs m).length - k) ≤ (rep xs m).length by omega), fill_len (f := cI) (sz := 1) [.int .i64 0] (xs := rep xs m) (k := k) hk1, (show k + min k ((rep xs m).length - k) ≤ (rep xs m).length + j by omega), (show (((rep xs m).length : Int) - k).toNat = (rep xs m).length - k by omega), hk1, (show k ≤ cp by omega), (show (k : Int) ≤ (rep xs m).length by omega), (show (k : Int) ≤ cp by omega), Qk (x := (k : Int) + (min k ((rep xs m).length - k) : Nat)) (by omega) (by omega), hcp]
 | ((obtain rfl : k = (rep xs m).length := by omega); refine Uf 7 (b := b) (all := cat cI (rep xs m) ++ List.replicate j .any) rfl (by simp [go_sem, fill_all]) (by omega) (by simp [Qy]) (by simp [Qy]; omega) ?_); refine Qc (id := 10) Vi [] (by kernel_rfl) ?_; simp [-zg, -zd, ↓Qb, ↓Qa, go_sem]
 | refine Qd (c := .tmp 10) ?_; simp [-zg, -zd, ↓Qb, ↓Qa, go_sem]; try first | (refine ⟨?_, ?_⟩ <;> refine zA ?_) | (refine ⟨fun c10 => ?_, fun c10 => ?_⟩ <;> (try simp [B_iff, B_not] at c10))
 | refine Qd (c := .tmp 26) ?_; simp [-zg, -zd, ↓Qb, ↓Qa, go_sem]; try first | (refine ⟨?_, ?_⟩ <;> refine zA ?_) | (refine ⟨fun c26 => ?_, fun c26 => ?_⟩ <;> (try simp [B_iff, B_not] at c26))
 | refine Qd (c := .tmp 37) ?_; simp [-zg, -zd, ↓Qb, ↓Qa, go_sem]; try first | (refine ⟨?_, ?_⟩ <;> refine zA ?_) | (refine ⟨fun c37 => ?_, fun c37 => ?_⟩ <;> (try simp [B_iff, B_not] at c37))
 | (refine Qe (id := 0) (Xa (ι := Nat) (fun k : Nat => ⟨(upd (upd (fun _ => .any) 7 (.sl b 1 0 (rep xs m).length cp)) 8 (.int .i64 k)), upd (fun _ => none) b (some (fillC cI [.int .i64 0] 1 (rep xs m) k (List.replicate j .any)))⟩) (fun k => 0 < k ∧ k ≤ (rep xs m).length ∧ (k = (rep xs m).length ∨ k % xs.length = 0)) (fun k => (rep xs m).length - k) (xs.length) ?_ ?_ ?_); exact ⟨h0, hlL, .inr (Nat.mod_self _)⟩; ((repeat' (first | exact Qh (by assumption) | exact Qj | refine Qg ?_ ?_ | refine Qi ?_)) <;> simp [-zg, -zd, ↓Qb, ↓Qa, go_sem]); rintro k ⟨hk0, hk1, hk2⟩)
 | (refine ⟨k + min k ((rep xs m).length - k), ⟨by omega, by omega, by rcases Nat.lt_or_ge k ((rep xs m).length - k) with h | h; right; rw [Nat.min_eq_left (by omega), Nat.add_mod, hk2.resolve_left (by omega)]; simp; left; omega⟩, by first | omega | (simp; done) | (simp; omega), ?_⟩; ((repeat' (first | exact Qh (by assumption) | exact Qj | refine Qg ?_ ?_ | refine Qi ?_)) <;> simp [-zg, -zd, ↓Qb, ↓Qa, go_sem]))
 | (refine Qe ?_)
 | (refine Qs ?_; simp [-zg, -zd, ↓Qb, ↓Qa, go_sem])
 | (refine Qr ?_; simp [-zg, -zd, ↓Qb, ↓Qa, go_sem])
 | (refine Qv ?_; simp [-zg, -zd, ↓Qb, ↓Qa, go_sem, Try.results195])
 | (intro hx; refine zA ?_)
 | (refine ⟨?_, ?_⟩ <;> refine zA ?_)
 | (intro hx; constructor <;> intro hs)
 | (constructor <;> intro hs)
 | (refine ⟨?_, fun hs => ?_⟩; refine zA ?_)
 | (refine ⟨fun hs => ?_, ?_⟩; rotate_left; refine zA ?_; rotate_left)
 | (exfalso; omega)))
@[go_sem] def zahi : Con := .pure fun
  | [.list n_xs c_xs, .int .i64 n] => ((Is cI n_xs c_xs) ∧ (0 < (de cI c_xs).length) ∧ (1 ≤ n) ∧ ((de cI c_xs).length ≤ 80) ∧ (n ≤ 80), fr 1 cI (rep (de cI c_xs) n.toNat))
  | _ => (False, .any)
theorem zaoq : ConOk Try.prog 195 zahi := by
  refine ⟨Qp Try.func195 (by decide) rfl, fun args h => ?_⟩
  revert h
  dsimp only
  split
  · intro h
    obtain ⟨⟨xs, rfl, rfl⟩, h0, h1, h2, h3⟩ := h
    try simp only [Qt] at *
    exact ⟨Repeat_pure xs _ h0 h1 h2 h3, by simp [go_sem]⟩
  · intro h
    exact h.elim
@[go_sem] def Γq26 : FuncId → Con := ext Γq25 195 zahi
theorem Jr : ∀ g, ConOk Try.prog g (Γq26 g) := Qo Vi zaoq

theorem period_le {xs : List Int} (h : 1 ≤ xs.length) : 1 ≤ Zi xs ∧ Zi xs ≤ xs.length ∧ Per xs (Zi xs) ∧ ∀ m, 1 ≤ m → m < Zi xs → ¬ Per xs m := by
  have h0 : ∃ n, 1 ≤ n ∧ Per xs n := ⟨xs.length, h, Nat.mod_self _, fun i h1 h2 => by omega⟩
  have key : ∀ k, (∀ m, 1 ≤ m → m < k → ¬ Per xs m) ∨ ∃ n, 1 ≤ n ∧ n < k ∧ Per xs n ∧ ∀ m, 1 ≤ m → m < n → ¬ Per xs m := by
    intro k
    induction k with
    | zero => left; intro m _ h; omega
    | succ k ih =>
      rcases ih with h1 | ⟨n, n1, n2, n3, n4⟩
      · by_cases hk : 1 ≤ k ∧ Per xs k
        · exact .inr ⟨k, hk.1, by omega, hk.2, h1⟩
        · left; intro m m1 m2 m3
          rcases Nat.lt_or_ge m k with h2 | h2
          · exact h1 m m1 h2 m3
          · obtain rfl : m = k := by omega
            exact hk ⟨m1, m3⟩
      · exact .inr ⟨n, n1, by omega, n3, n4⟩
  rcases key xs.length with h1 | ⟨n, n1, n2, n3, n4⟩
  · rw [zaoy h1]; exact ⟨h, Nat.le_refl _, ⟨Nat.mod_self _, fun i h1 h2 => by omega⟩, h1⟩
  · rw [period_at n1 n2 n3 n4]; exact ⟨n1, by omega, n3, n4⟩
def rotR (l : List Int) : List Int := nth l (l.length - 1) :: l.take (l.length - 1)
theorem rotR_len {l : List Int} (h : 0 < l.length) : (rotR l).length = l.length := by simp [rotR]; omega
theorem rotR_eq {l : List Int} (h : 0 < l.length) : l.drop (l.length - 1) ++ l.take (l.length - 1) = rotR l := by
  rw [rotR, List.drop_eq_getElem_cons (by omega), ← Qw (by omega), List.drop_eq_nil_of_le (by omega)]; rfl
def lp (l : List Int) : Nat → List Int
  | 0 => l
  | t + 1 => rotR (lp l t)
theorem Uj {l : List Int} (h : 0 < l.length) : ∀ t, (lp l t).length = l.length
  | 0 => rfl
  | t + 1 => by rw [lp, rotR_len (by rw [Uj h t]; exact h), Uj h t]
def More (s l : List Int) (t : Nat) : Prop := t < s.length ∧ nth s (s.length - t - 1) = nth (lp l t) (l.length - 1)
def back (s l : List Int) : Nat := ((List.range s.length).find? fun t => !B (More s l t)).getD s.length
theorem back_at {s l : List Int} {t : Nat} (h0 : t ≤ s.length) (h1 : ∀ u, u < t → More s l u) (h2 : ¬ More s l t) : back s l = t := by
  unfold back
  rcases Nat.lt_or_ge t s.length with h | h
  · have : (List.range s.length).find? (fun t => !B (More s l t)) = some t := by
      rw [List.find?_range_eq_some]
      exact ⟨by rw [B_no h2]; rfl, by simpa using h, fun j hj => by rw [B_yes (h1 j hj)]; rfl⟩
    rw [this]; rfl
  · obtain rfl : t = s.length := by omega
    have : (List.range s.length).find? (fun t => !B (More s l t)) = none := by
      rw [List.find?_eq_none]
      intro x hx
      rw [B_yes (h1 x (by simpa using hx))]; simp
    rw [this]; rfl
theorem back_le (s l : List Int) : back s l ≤ s.length ∧ (∀ u, u < back s l → More s l u) ∧ ¬ More s l (back s l) := by
  have h0 : ¬ More s l s.length := fun h => by have := h.1; omega
  have key : ∀ k, (∀ u, u < k → More s l u) ∨ ∃ n, n < k ∧ ¬ More s l n ∧ ∀ u, u < n → More s l u := by
    intro k
    induction k with
    | zero => left; intro m h; omega
    | succ k ih =>
      rcases ih with h1 | ⟨n, n2, n3, n4⟩
      · by_cases hk : More s l k
        · left; intro m m2
          rcases Nat.lt_or_ge m k with h2 | h2
          · exact h1 m h2
          · obtain rfl : m = k := by omega
            exact hk
        · exact .inr ⟨k, by omega, hk, h1⟩
      · exact .inr ⟨n, by omega, n3, n4⟩
  rcases key s.length with h1 | ⟨n, n2, n3, n4⟩
  · rw [back_at (Nat.le_refl _) h1 h0]; exact ⟨Nat.le_refl _, h1, h0⟩
  · rw [back_at (by omega) n4 n3]; exact ⟨by omega, n4, n3⟩
def redS (a b : List Int) : List Int := a.take (a.length - back a (b.take (Zi b)))
def redL (a b : List Int) : List Int := lp (b.take (Zi b)) (back a (b.take (Zi b)))
@[go_sem] theorem makeD_1q (x : D) : makeD [x] 1 = [x] := by rw [Jb]; rfl

theorem tdiv_natX (a b : Nat) : (a : Int).tdiv b = ((a / b : Nat) : Int) := by rw [Int.ofNat_tdiv]
theorem per_last {b : List Int} {n : Nat} (h1 : 1 ≤ b.length) (h2 : b.length < n) (h : ∀ m, 1 ≤ m → m < n → ¬ Per b m) : False :=
  h b.length h1 h2 ⟨Nat.mod_self _, fun i h1 h2 => by omega⟩
theorem per_is {b : List Int} {n : Nat} (h1 : 1 ≤ n) (h2 : n ≤ b.length) (h3 : Per b n) (h4 : ∀ m, 1 ≤ m → m < n → ¬ Per b m) : Zi b = n := by
  rcases Nat.lt_or_ge n b.length with h | h
  · exact period_at h1 h h3 h4
  · obtain rfl : n = b.length := by omega
    exact zaoy h4

set_option maxHeartbeats 2000000 in

theorem reduced_pure (a : List Int) (b : List Int) (hL : LasOk a b) : Pure Try.prog 146 [.st [li cI a, li cI b]] (.st [fr 1 cI (redS a b), fr 1 cI (redL a b)]) := by
  refine Pure.of_walk Try.func146 rfl (by simp [Try.f146]) (by simp [-zd, go_sem]) fun B hK => ?_
  obtain ⟨hL1, hL2, g3, g4, g5⟩ := hL
  all_goals (repeat' (first
 | refine Qu ?_
 | refine Qc (id := 0) Jr [] (by kernel_rfl) ?_; simp [-zg, -zd, ↓Qb, ↓Qa, go_sem]; try (refine Xd hK 1 ?_; simp [go_sem])
 | refine Xo (id := 1) Jr mixed [] [1] (by kernel_rfl) (by kernel_rfl) (by simp [-zg, -zd, ↓Qb, ↓Qa, go_sem, (show a.length ≤ 1048576 by omega), (show b.length ≤ 1048576 by omega)]) ?_; simp [-zg, -zd, ↓Qb, ↓Qa, go_sem, (show a.length ≤ 1048576 by omega), (show b.length ≤ 1048576 by omega)]; try (refine Xd hK 3 ?_; simp [go_sem]; refine Xd hK 4 ?_; simp [go_sem])
 | refine Qc (id := 2) Jr [] (by kernel_rfl) ?_; simp [-zg, -zd, ↓Qb, ↓Qa, go_sem]
 | refine Qc (id := 3) Jr [] (by kernel_rfl) ?_; simp [-zg, -zd, ↓Qb, ↓Qa, go_sem]
 | (have hd : 1 ≤ b.length / n := (Nat.div_pos (by omega) (by omega)); have hd2 : b.length / n ≤ 80 := (Nat.le_trans (Nat.div_le_self _ _) (by omega)); have hmn : min n b.length = n := (by omega)); refine Xo (id := 5) Jr mixed [24] [4, 5] (by kernel_rfl) (by kernel_rfl) (by simp [-zg, -zd, ↓Qb, ↓Qa, go_sem, tmod_nat, tdiv_natX, (show ¬ n = 0 by omega), mod_natX, hd, hd2, hmn, (show IntKind.i64.wrap ((b.length : Int) / (n : Int)) = (b.length : Int) / (n : Int) by rw [← Int.natCast_ediv, Qk (by omega) (by omega)]), (show (1 : Int) ≤ (b.length : Int) / (n : Int) by rw [← Int.natCast_ediv]; omega), (show (b.length : Int) / (n : Int) ≤ 80 by rw [← Int.natCast_ediv]; omega), (show ((b.length : Int) / (n : Int)).toNat = b.length / n by rw [← Int.natCast_ediv]; rfl), (show 0 < n by omega), (show n ≤ 80 by omega), (show n ≤ b.length by omega), (show (n : Int) ≤ b.length by omega)]) ?_; simp [-zg, -zd, ↓Qb, ↓Qa, go_sem, tmod_nat, tdiv_natX, (show ¬ n = 0 by omega), mod_natX, hd, hd2, hmn, (show IntKind.i64.wrap ((b.length : Int) / (n : Int)) = (b.length : Int) / (n : Int) by rw [← Int.natCast_ediv, Qk (by omega) (by omega)]), (show (1 : Int) ≤ (b.length : Int) / (n : Int) by rw [← Int.natCast_ediv]; omega), (show (b.length : Int) / (n : Int) ≤ 80 by rw [← Int.natCast_ediv]; omega), (show ((b.length : Int) / (n : Int)).toNat = b.length / n by rw [← Int.natCast_ediv]; rfl), (show 0 < n by omega), (show n ≤ 80 by omega), (show n ≤ b.length by omega), (show (n : Int) ≤ b.length by omega)]; try (refine ⟨fun s5a => ?_, fun s5a => ?_⟩ <;> (try simp [B_iff, B_not] at s5a) <;> try (refine ⟨fun s5b => ?_, fun s5b => ?_⟩ <;> (try simp [B_iff, B_not] at s5b)))
 | refine Qc (id := 6) Jr [] (by kernel_rfl) ?_; simp [-zg, -zd, ↓Qb, ↓Qa, go_sem, (show n ≤ b.length by omega)]; try (have hper : Zi b = n := per_is hn (by omega) ⟨s5a, (rep_per (by omega) (by omega) s5a).1 c35⟩ hm; have hcl : (b.take n).length = n := (by simp; omega))
 | (have hnp : ¬ Per b n := (by first | exact fun hp => s5a hp.1 | exact fun hp => c35 ((rep_per (by omega) (by omega) s5a).2 hp.2))); refine Qc (id := 4) Jr [] (by kernel_rfl) ?_; simp [-zg, -zd, ↓Qb, ↓Qa, go_sem, wrapS (k := n) (by omega)]
 | (have hll := Uj (l := b.take n) (by omega) t; (rw [hcl] at hll); have i1 : a.length - t - 1 < (a.take (a.length - t)).length := (by simp; omega); have i2 : n - 1 < (lp (b.take n) t).length := (by omega)); refine Xo (id := 7) Jr mixed [42] [3, 4] (by kernel_rfl) (by kernel_rfl) (by simp [-zg, -zd, ↓Qb, ↓Qa, go_sem, i1, Qm i1, zsP i1, i2, Qm i2, zsP i2, hll, (show 0 < a.length - t - (a.length - t - 1) by omega), (show 0 < n - (n - 1) by omega), (show ¬ a.length - t = 0 by omega), (show 0 < a.length - t by omega), Qk (x := ((a.length - t : Nat) : Int) - 1) (by omega) (by omega), Qk (x := (n : Int) - 1) (by omega) (by omega), (show (((a.length - t : Nat) : Int) - 1).toNat = a.length - t - 1 by omega), (show ((n : Int) - 1).toNat = n - 1 by omega), (show n - 1 < n by omega), (show a.length - t - 1 < a.length - t by omega), (show (1 : Int) ≤ ((a.length - t : Nat) : Int) by omega), (show 1 ≤ n by omega), (show 1 ≤ a.length - t by omega), (show (0 : Int) ≤ ((a.length - t : Nat) : Int) - 1 by omega), (show (0 : Int) ≤ (n : Int) - 1 by omega), (show ((a.length - t : Nat) : Int) - 1 < ((a.length - t : Nat) : Int) by omega), (show (n : Int) - 1 < n by omega), (show (1 : Int) ≤ n by omega), Zx (xs := a) (k := a.length - t) (j := a.length - t - 1) (by omega)]) ?_; simp [-zg, -zd, ↓Qb, ↓Qa, go_sem, i1, Qm i1, zsP i1, i2, Qm i2, zsP i2, hll, (show 0 < a.length - t - (a.length - t - 1) by omega), (show 0 < n - (n - 1) by omega), (show ¬ a.length - t = 0 by omega), (show 0 < a.length - t by omega), Qk (x := ((a.length - t : Nat) : Int) - 1) (by omega) (by omega), Qk (x := (n : Int) - 1) (by omega) (by omega), (show (((a.length - t : Nat) : Int) - 1).toNat = a.length - t - 1 by omega), (show ((n : Int) - 1).toNat = n - 1 by omega), (show n - 1 < n by omega), (show a.length - t - 1 < a.length - t by omega), (show (1 : Int) ≤ ((a.length - t : Nat) : Int) by omega), (show 1 ≤ n by omega), (show 1 ≤ a.length - t by omega), (show (0 : Int) ≤ ((a.length - t : Nat) : Int) - 1 by omega), (show (0 : Int) ≤ (n : Int) - 1 by omega), (show ((a.length - t : Nat) : Int) - 1 < ((a.length - t : Nat) : Int) by omega), (show (n : Int) - 1 < n by omega), (show (1 : Int) ≤ n by omega), Zx (xs := a) (k := a.length - t) (j := a.length - t - 1) (by omega)]; try (refine ⟨fun s7a => ?_, fun s7a => ?_⟩ <;> (try simp [B_iff, B_not] at s7a) <;> try (refine ⟨fun s7b => ?_, fun s7b => ?_⟩ <;> (try simp [B_iff, B_not] at s7b)))
 | refine Xo (id := 7) Jr mixed [42] [3, 4] (by kernel_rfl) (by kernel_rfl) (by simp [-zg, -zd, ↓Qb, ↓Qa, go_sem, (show a.length - t = 0 by omega)]) ?_; simp [-zg, -zd, ↓Qb, ↓Qa, go_sem, (show a.length - t = 0 by omega)]; try (refine ⟨fun s7a => ?_, fun s7a => ?_⟩ <;> (try simp [B_iff, B_not] at s7a) <;> try (refine ⟨fun s7b => ?_, fun s7b => ?_⟩ <;> (try simp [B_iff, B_not] at s7b)))
 | refine Qc (id := 8) Jr [] (by kernel_rfl) ?_; simp [-zg, -zd, ↓Qb, ↓Qa, go_sem, Qk (x := (n : Int) - 1) (by omega) (by omega)]
 | (have hr := rotR_eq (l := lp (b.take n) t) (by omega); (rw [hll] at hr)); refine Xo (id := 9) Jr mixed [] [4, 6] (by kernel_rfl) (by kernel_rfl) (by simp [-zg, -zd, ↓Qb, ↓Qa, go_sem, hll, hr, (show ((n : Int) - ((n : Int) - 1)).toNat = n - (n - 1) by omega), (show ((n : Int) - 1).toNat = n - 1 by omega), (show ((lp (b.take n) t).drop (n - 1)).take (n - (n - 1)) = (lp (b.take n) t).drop (n - 1) from List.take_of_length_le (by simp; omega)), (show min (n - 1) n = n - 1 by omega), (show n - (n - 1) + (n - 1) = n by omega), (show n ≤ 1048576 by omega), (show (0 : Int) ≤ (n : Int) - 1 by omega), (show (n : Int) - 1 ≤ n by omega), (show (1 : Int) ≤ n by omega), (show 1 ≤ n by omega), (show n - 1 ≤ n by omega)]) ?_; simp [-zg, -zd, ↓Qb, ↓Qa, go_sem, hll, hr, (show ((n : Int) - ((n : Int) - 1)).toNat = n - (n - 1) by omega), (show ((n : Int) - 1).toNat = n - 1 by omega), (show ((lp (b.take n) t).drop (n - 1)).take (n - (n - 1)) = (lp (b.take n) t).drop (n - 1) from List.take_of_length_le (by simp; omega)), (show min (n - 1) n = n - 1 by omega), (show n - (n - 1) + (n - 1) = n by omega), (show n ≤ 1048576 by omega), (show (0 : Int) ≤ (n : Int) - 1 by omega), (show (n : Int) - 1 ≤ n by omega), (show (1 : Int) ≤ n by omega), (show 1 ≤ n by omega), (show n - 1 ≤ n by omega)]; try (refine Xd hK 4 ?_; simp [go_sem])
 | refine Qc (id := 10) Jr [] (by kernel_rfl) ?_; simp [-zg, -zd, ↓Qb, ↓Qa, go_sem, Qk (x := ((a.length - t : Nat) : Int) - 1) (by omega) (by omega), (show (((a.length - t : Nat) : Int) - 1).toNat = a.length - t - 1 by omega), (show (1 : Int) ≤ ((a.length - t : Nat) : Int) by omega), (show (0 : Int) ≤ ((a.length - t : Nat) : Int) - 1 by omega), (show ((a.length - t : Nat) : Int) - 1 ≤ ((a.length - t : Nat) : Int) by omega), (show a.length - t - 1 ≤ a.length - t by omega), List.take_take, (show min (a.length - t - 1) (a.length - t) = a.length - t - 1 by omega)]
 | (have hll := Uj (l := b.take n) (by omega) t; (rw [hcl] at hll)); refine Qc (id := 11) Jr [] (by kernel_rfl) ?_; simp [-zg, -zd, ↓Qb, ↓Qa, go_sem, hll, (show min (a.length - t) a.length = a.length - t by omega), (show a.length - t ≤ 1048576 by omega), (show n ≤ 1048576 by omega), hcl]
 | refine Qd (c := .tmp 16) ?_; simp [-zg, -zd, ↓Qb, ↓Qa, go_sem]; try first | (refine ⟨?_, ?_⟩ <;> refine zA ?_) | (refine ⟨fun c16 => ?_, fun c16 => ?_⟩ <;> (try simp [B_iff, B_not] at c16))
 | refine Qd (c := .tmp 35) ?_; simp [-zg, -zd, ↓Qb, ↓Qa, go_sem]; try first | (refine ⟨?_, ?_⟩ <;> refine zA ?_) | (refine ⟨fun c35 => ?_, fun c35 => ?_⟩ <;> (try simp [B_iff, B_not] at c35))
 | refine Qd (c := .tmp 56) ?_; simp [-zg, -zd, ↓Qb, ↓Qa, go_sem]; try first | (refine ⟨?_, ?_⟩ <;> refine zA ?_) | (refine ⟨fun c56 => ?_, fun c56 => ?_⟩ <;> (try simp [B_iff, B_not] at c56))
 | (refine Qe (id := 0) (Xa (ι := Nat) (fun n : Nat => ⟨(upd (upd (upd (upd (fun _ => .any) 2 (.box [.nil, .nil])) 3 (li cI a)) 4 (li cI b)) 5 (.int .i64 n)), fun _ => none⟩) (fun n => 1 ≤ n ∧ n ≤ b.length + 1 ∧ ∀ m, 1 ≤ m → m < n → ¬ Per b m) (fun n => b.length + 1 - n) (1) ?_ ?_ ?_); exact ⟨Nat.le_refl _, by omega, by omega⟩; ((repeat' (first | exact Qh (by assumption) | exact Qj | refine Qg ?_ ?_ | refine Qi ?_)) <;> simp [-zg, -zd, ↓Qb, ↓Qa, go_sem]); rintro n ⟨hn, hn1, hm⟩)
 | (refine ⟨n + 1, ⟨by omega, by omega, fun m m1 m2 => by rcases Nat.lt_or_ge m n with h | h; exact hm m m1 h; (obtain rfl : m = n := by omega); exact hnp⟩, by first | omega | (simp; done) | (simp; omega), ?_⟩; ((repeat' (first | exact Qh (by assumption) | exact Qj | refine Qg ?_ ?_ | refine Qi ?_)) <;> simp [-zg, -zd, ↓Qb, ↓Qa, go_sem]))
 | (refine Qe (id := 2) (Xa (ι := Nat) (fun t : Nat => ⟨(upd (upd (upd (fun _ => .any) 2 (.box [.nil, .nil])) 3 (.list (a.length - t) (cat cI (a.take (a.length - t))))) 4 (.list n (cat cI (lp (b.take n) t)))), fun _ => none⟩) (fun t => (t < a.length ∨ t = a.length) ∧ ∀ u, u < t → More a (b.take n) u) (fun t => a.length - t) (0) ?_ ?_ ?_); exact ⟨by omega, by omega⟩; ((repeat' (first | exact Qh (by assumption) | exact Qj | refine Qg ?_ ?_ | refine Qi ?_)) <;> simp [-zg, -zd, ↓Qb, ↓Qa, go_sem, lp]); rintro t ⟨hlt | hlt, hmo⟩)
 | (refine ⟨t + 1, ⟨by omega, fun u hu => by rcases Nat.lt_or_ge u t with h | h; exact hmo u h; (obtain rfl : u = t := by omega); exact ⟨hlt, by rw [hcl]; exact c56⟩⟩, by first | omega | (simp; done) | (simp; omega), ?_⟩; ((repeat' (first | exact Qh (by assumption) | exact Qj | refine Qg ?_ ?_ | refine Qi ?_)) <;> simp [-zg, -zd, ↓Qb, ↓Qa, go_sem, lp, (show a.length - (t + 1) = a.length - t - 1 by omega)]))
 | (refine Qe ?_)
 | (refine Qs ?_; simp [-zg, -zd, ↓Qb, ↓Qa, go_sem])
 | (refine Qr ?_; simp [-zg, -zd, ↓Qb, ↓Qa, go_sem])
 | (refine Qv ?_; simp [-zg, -zd, ↓Qb, ↓Qa, go_sem, Try.results146])
 | (intro hx; refine zA ?_)
 | (refine ⟨?_, ?_⟩ <;> refine zA ?_)
 | (intro hx; constructor <;> intro hs)
 | (constructor <;> intro hs)
 | (refine ⟨?_, fun hs => ?_⟩; refine zA ?_)
 | (refine ⟨fun hs => ?_, ?_⟩; rotate_left; refine zA ?_; rotate_left)
 | (exfalso; refine per_last g4 ?_ hm; omega)))
  all_goals (first
 | (have hbk : back a (b.take n) = t := (back_at (by omega) hmo (fun h => c56 (by have := h.2; rwa [hcl] at this))); have e1 : redS a b = a.take (a.length - t) := (by rw [redS, hper, hbk]); have e2 : redL a b = lp (b.take n) t := (by rw [redL, hper, hbk]); simp [e1, e2, hll]; done)
 | (have hbk : back a (b.take n) = t := (back_at (by omega) hmo (fun h => by have := h.1; omega)); have e1 : redS a b = a.take (a.length - t) := (by rw [redS, hper, hbk]); have e2 : redL a b = lp (b.take n) t := (by rw [redL, hper, hbk]); simp [e1, e2, hll, (show a.length - t = 0 by omega)]; done)
 | skip)
@[go_sem] def zaew : Con := .pure fun
  | [.st [.list n_a c_a, .list n_b c_b]] => ((Is cI n_a c_a) ∧ (Is cI n_b c_b) ∧ (LasOk (de cI c_a) (de cI c_b)), .st [fr 1 cI (redS (de cI c_a) (de cI c_b)), fr 1 cI (redL (de cI c_a) (de cI c_b))])
  | _ => (False, .any)
theorem zalu : ConOk Try.prog 146 zaew := by
  refine ⟨Qp Try.func146 (by decide) rfl, fun args h => ?_⟩
  revert h
  dsimp only
  split
  · intro h
    obtain ⟨⟨a, rfl, rfl⟩, ⟨b, rfl, rfl⟩, hL⟩ := h
    try simp only [Qt] at *
    exact ⟨reduced_pure a b hL, by simp [go_sem]⟩
  · intro h
    exact h.elim
@[go_sem] def Γq29 : FuncId → Con := ext Γq26 146 zaew
theorem Γq29_ok : ∀ g, ConOk Try.prog g (Γq29 g) := Qo Jr zalu

theorem zajj (a : List Int) (b : List Int) (c : List Int) (d : List Int)  : Pure Try.prog 59 [.st [li cI a, li cI b], .st [li cI c, li cI d]] (.bool (decide (a = c) && decide (b = d))) := by
  refine Pure.of_walk Try.func59 rfl (by simp [Try.f59]) (by simp [-zd, go_sem]) fun B hK => ?_
  (repeat' (first
 | refine Qu ?_
 | refine Qc (id := 0) Γq29_ok [] (by kernel_rfl) ?_; simp [-zg, -zd, ↓Qb, ↓Qa, go_sem]; try (refine Xd hK 2 ?_; simp [go_sem]; refine Xd hK 3 ?_; simp [go_sem])
 | refine Qc (id := 1) Γq29_ok [10] (by kernel_rfl) ?_; simp [-zg, -zd, ↓Qb, ↓Qa, go_sem]; try (refine ⟨fun s1a => ?_, fun s1a => ?_⟩ <;> (try simp [B_iff, B_not] at s1a) <;> try (refine ⟨fun s1b => ?_, fun s1b => ?_⟩ <;> (try simp [B_iff, B_not] at s1b)))
 | (refine Qe ?_)
 | (refine Qs ?_; simp [-zg, -zd, ↓Qb, ↓Qa, go_sem])
 | (refine Qr ?_; simp [-zg, -zd, ↓Qb, ↓Qa, go_sem])
 | (refine Qv ?_; simp [-zg, -zd, ↓Qb, ↓Qa, go_sem, Try.results59])
 | (intro hx; refine zA ?_)
 | (refine ⟨?_, ?_⟩ <;> refine zA ?_)
 | (intro hx; constructor <;> intro hs)
 | (constructor <;> intro hs)
 | (refine ⟨?_, fun hs => ?_⟩; refine zA ?_)
 | (refine ⟨fun hs => ?_, ?_⟩; rotate_left; refine zA ?_; rotate_left)))
  all_goals (first
 | (simp_all; done)
 | (intros; simp_all; done)
 | skip)
@[go_sem] def zabl : Con := .pure fun
  | [.st [.list n_a c_a, .list n_b c_b], .st [.list n_c c_c, .list n_d c_d]] => ((Is cI n_a c_a) ∧ (Is cI n_b c_b) ∧ (Is cI n_c c_c) ∧ (Is cI n_d c_d), .bool (decide ((de cI c_a) = (de cI c_c)) && decide ((de cI c_b) = (de cI c_d))))
  | _ => (False, .any)
theorem zafi : ConOk Try.prog 59 zabl := by
  refine ⟨Qp Try.func59 (by decide) rfl, fun args h => ?_⟩
  revert h
  dsimp only
  split
  · intro h
    obtain ⟨⟨a, rfl, rfl⟩, ⟨b, rfl, rfl⟩, ⟨c, rfl, rfl⟩, ⟨d, rfl, rfl⟩⟩ := h
    try simp only [Qt] at *
    exact ⟨zajj a b c d, by simp [go_sem]⟩
  · intro h
    exact h.elim
@[go_sem] def Γq33 : FuncId → Con := ext Γq29 59 zabl
theorem Γq33_ok : ∀ g, ConOk Try.prog g (Γq33 g) := Qo Γq29_ok zafi

def Same (a b c d : List Int) : Prop := LasOk a b ∧ LasOk c d ∧ redS a b = redS c d ∧ redL a b = redL c d

theorem implSame_pure (a : List Int) (b : List Int) (c : List Int) (d : List Int)  : Pure Try.prog 57 [.st [li cI a, li cI b], .st [li cI c, li cI d]] (.bool (B (Same a b c d))) := by
  refine Pure.of_walk Try.func57 rfl (by simp [Try.f57]) (by simp [-zd, go_sem]) fun B hK => ?_
  cases h1 : Vm.B (LasOk a b) <;> cases h2 : Vm.B (LasOk c d)
  all_goals (repeat' (first
 | refine Qu ?_
 | refine Qc (id := 0) Γq33_ok [] (by kernel_rfl) ?_; simp [-zg, -zd, ↓Qb, ↓Qa, go_sem]; try (refine Xd hK 2 ?_; simp [go_sem]; refine Xd hK 3 ?_; simp [go_sem])
 | refine Xo (id := 1) Γq33_ok mixed [7, 11] [] (by kernel_rfl) (by kernel_rfl) (by simp [-zg, -zd, ↓Qb, ↓Qa, go_sem, h1, h2, (show Vm.B True = true from B_yes trivial), (show LasOk a b by rw [B_iff] at h1; exact h1), (show LasOk c d by rw [B_iff] at h2; exact h2)]) ?_; simp [-zg, -zd, ↓Qb, ↓Qa, go_sem, h1, h2, (show Vm.B True = true from B_yes trivial), (show LasOk a b by rw [B_iff] at h1; exact h1), (show LasOk c d by rw [B_iff] at h2; exact h2)]; try (refine ⟨fun s1a => ?_, fun s1a => ?_⟩ <;> (try simp [B_iff, B_not] at s1a) <;> try (refine ⟨fun s1b => ?_, fun s1b => ?_⟩ <;> (try simp [B_iff, B_not] at s1b) <;> try (refine ⟨fun s1c => ?_, fun s1c => ?_⟩ <;> (try simp [B_iff, B_not] at s1c))))
 | refine Xo (id := 1) Γq33_ok mixed [7, 11] [] (by kernel_rfl) (by kernel_rfl) (by simp [-zg, -zd, ↓Qb, ↓Qa, go_sem, h1, h2]) ?_; simp [-zg, -zd, ↓Qb, ↓Qa, go_sem, h1, h2]; try (refine ⟨fun s1a => ?_, fun s1a => ?_⟩ <;> (try simp [B_iff, B_not] at s1a) <;> try (refine ⟨fun s1b => ?_, fun s1b => ?_⟩ <;> (try simp [B_iff, B_not] at s1b) <;> try (refine ⟨fun s1c => ?_, fun s1c => ?_⟩ <;> (try simp [B_iff, B_not] at s1c))))
 | (refine Qe ?_)
 | (refine Qs ?_; simp [-zg, -zd, ↓Qb, ↓Qa, go_sem])
 | (refine Qr ?_; simp [-zg, -zd, ↓Qb, ↓Qa, go_sem])
 | (refine Qv ?_; simp [-zg, -zd, ↓Qb, ↓Qa, go_sem, Try.results57])
 | (intro hx; refine zA ?_)
 | (refine ⟨?_, ?_⟩ <;> refine zA ?_)
 | (intro hx; constructor <;> intro hs)
 | (constructor <;> intro hs)
 | (refine ⟨?_, fun hs => ?_⟩; refine zA ?_)
 | (refine ⟨fun hs => ?_, ?_⟩; rotate_left; refine zA ?_; rotate_left)))
  all_goals (first
 | (intro h; have e1 := B_yes h.1; have e2 := B_yes h.2.1; simp_all; done)
 | (rw [B_iff] at h1 h2; rw [Bool.eq_iff_iff, B_iff]; simp [Same, h1, h2]; done)
 | skip)
@[go_sem] def zaei : Con := .pure fun
  | [.st [.list n_a c_a, .list n_b c_b], .st [.list n_c c_c, .list n_d c_d]] => ((Is cI n_a c_a) ∧ (Is cI n_b c_b) ∧ (Is cI n_c c_c) ∧ (Is cI n_d c_d), .bool (B (Same (de cI c_a) (de cI c_b) (de cI c_c) (de cI c_d))))
  | _ => (False, .any)
theorem zakk : ConOk Try.prog 57 zaei := by
  refine ⟨Qp Try.func57 (by decide) rfl, fun args h => ?_⟩
  revert h
  dsimp only
  split
  · intro h
    obtain ⟨⟨a, rfl, rfl⟩, ⟨b, rfl, rfl⟩, ⟨c, rfl, rfl⟩, ⟨d, rfl, rfl⟩⟩ := h
    try simp only [Qt] at *
    exact ⟨implSame_pure a b c d, by simp [go_sem]⟩
  · intro h
    exact h.elim
@[go_sem] def Γq35 : FuncId → Con := ext Γq33 57 zaei
theorem Γq35_ok : ∀ g, ConOk Try.prog g (Γq35 g) := Qo Γq33_ok zakk

theorem nth_rotR {l : List Int} (h : 0 < l.length) (k : Nat) : nth (rotR l) ((k + 1) % l.length) = nth l (k % l.length) := by
  have hk := Nat.mod_lt k h
  rw [rotR]
  by_cases e : k % l.length = l.length - 1
  · have : (k + 1) % l.length = 0 := by
      rw [Nat.add_mod, e]
      rcases Nat.lt_or_ge 1 l.length with h1 | h1
      · rw [Nat.mod_eq_of_lt h1, Nat.sub_add_cancel h, Nat.mod_self]
      · have : l.length = 1 := by omega
        rw [this]
    rw [this, e]; rfl
  · have : (k + 1) % l.length = k % l.length + 1 := by
      rw [Nat.add_mod, Nat.mod_eq_of_lt (a := 1) (by omega), Nat.mod_eq_of_lt (by omega)]
    rw [this]
    show nth (l.take (l.length - 1)) (k % l.length) = _
    rw [Zx (by omega)]
theorem nth_lp {c : List Int} (h : 0 < c.length) : ∀ (t m : Nat), nth (lp c t) ((m + t) % c.length) = nth c (m % c.length)
  | 0, m => rfl
  | t + 1, m => by
    have := nth_rotR (l := lp c t) (by rw [Uj h]; exact h) (m + t)
    rw [Uj h] at this
    rw [lp, ← Nat.add_assoc, this, nth_lp h t m]
theorem lp_add (c : List Int) (u : Nat) : ∀ k, lp c (u + k) = lp (lp c u) k
  | 0 => rfl
  | k + 1 => by rw [← Nat.add_assoc, lp, lp, lp_add c u k]
theorem nth_per {b : List Int} (h4 : 1 ≤ b.length) (j : Nat) : nth b (j % b.length) = nth (b.take (Zi b)) (j % Zi b) := by
  obtain ⟨p1, p2, ⟨d, p3⟩, _⟩ := period_le h4
  have hd : Zi b ∣ b.length := Nat.dvd_of_mod_eq_zero d
  rw [nth_mod (n := Zi b) p1 p3 _ (Nat.mod_lt _ h4), Nat.mod_mod_of_dvd _ hd, Zx (Nat.mod_lt _ p1)]
theorem red_letter {a b : List Int} (h : LasOk a b) (i : Nat) : ltr (redS a b) (redL a b) i = ltr a b i := by
  obtain ⟨h1, h2, h3, h4, h5⟩ := h
  obtain ⟨p1, p2, _⟩ := period_le h4
  have hc : (b.take (Zi b)).length = Zi b := by simp; omega
  obtain ⟨k1, k2, k3⟩ := back_le a (b.take (Zi b))
  have hrl : 0 < (redL a b).length := by unfold redL; rw [Uj (by omega)]; omega
  rw [ltr_eq hrl, ltr_eq (by omega), redS, redL]
  clear hrl
  generalize hcc : b.take (Zi b) = c at hc k1 k2 k3 ⊢
  generalize back a c = t at k1 k2 k3 ⊢
  have hS : (a.take (a.length - t)).length = a.length - t := by simp
  rw [hS, Uj (by omega)]
  by_cases c1 : i < a.length - t
  · rw [if_pos c1, if_pos (by omega), Zx c1]
  · rw [if_neg c1]
    by_cases c2 : i < a.length
    · rw [if_pos c2]
      -- the letter came out of the stem
      have hu : a.length - 1 - i < t := by omega
      have hm := (k2 _ hu).2
      have e1 : a.length - (a.length - 1 - i) - 1 = i := by omega
      rw [e1] at hm
      rw [hm]
      have e2 : t = (a.length - 1 - i) + (t - (a.length - 1 - i)) := by omega
      have hq := nth_lp (c := lp c (a.length - 1 - i)) (by rw [Uj (by omega)]; omega) (t - (a.length - 1 - i)) (c.length - 1)
      rw [← lp_add, ← e2, Uj (by omega), Nat.mod_eq_of_lt (a := c.length - 1) (by omega)] at hq
      rw [← hq]
      congr 1
      have e3 : c.length - 1 + (t - (a.length - 1 - i)) = (i - (a.length - t)) + c.length := by omega
      rw [e3, Nat.add_mod_right]
    · rw [if_neg c2, nth_per h4, hcc]
      have := nth_lp (c := c) (by omega) t (i - a.length)
      rw [← hc, ← this]
      congr 2
      omega

theorem same_ltr {a b c d : List Int} (h : Same a b c d) : ltr a b = ltr c d := by
  obtain ⟨h1, h2, h3, h4⟩ := h
  funext i
  rw [← red_letter h1, ← red_letter h2, h3, h4]
theorem same_acR {a : List Int} {b : List Bool} {c : List Tr4} {s l u v : List Int} (hA : AutOk a b.length c) (h : Same s l u v) : acR a b c s l = acR a b c u v := by
  rw [acR_sem hA h.1, acR_sem hA h.2.1, same_ltr h]
end
end Go.Proofs.Ytkjimmkemnmajaa.Vm

