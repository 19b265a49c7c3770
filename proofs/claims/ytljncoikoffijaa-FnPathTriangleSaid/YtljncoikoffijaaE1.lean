/-
  Numbers drawn out of bytes. No conditions.
-/
import Derived.Test.YtljncoikoffijaaE0
import Derived.Test.YtljncoikoffijaaVm15
namespace Go.Proofs.Ytljncoikoffijaa.Vm
open Go
set_option linter.unusedVariables false
set_option linter.unusedSimpArgs false
set_option maxRecDepth 200000

attribute [go_sem] VS stepS isLoad isApp snH AGL
/-- A byte's cell. -/
def cY (x : UInt8) : List D := [.int .u8 x.toNat]
instance : Wide cY 1 := ⟨fun _ => rfl, by omega, fun _ => rfl⟩
instance : Plain cY := ⟨fun _ => rfl, fun _ _ _ => rfl, fun _ _ => ⟨trivial, trivial⟩, fun a b h => by simp only [cY, List.cons.injEq, D.int.injEq, true_and, and_true] at h; exact UInt8.toNat.inj (by omega)⟩
attribute [go_sem] cY
theorem byte_lt (x : UInt8) : x.toNat < 256 := x.toNat_lt
/-- What the source mixes behind its bytes. -/
def mixx (ys : List UInt8) (p : Nat) : Int := ((nth ys (p % ys.length)).toNat : Int) * 131 + ((nth ys ((p * 7 + 3) % ys.length)).toNat : Int) * 1117 + (p : Int) * 29 + (p : Int) / (ys.length : Int) * 53
/-- The number drawn at p, below n. -/
noncomputable def pk (ys : List UInt8) (p : Nat) (n : Int) : Int :=
  if n < 1 ∨ ys.length = 0 then 0 else if p < ys.length then ((nth ys p).toNat : Int).tmod n else (bitsD .xor .i64 (mixx ys p) ((mixx ys p).tdiv 64)).tmod n
theorem mixx_range (ys : List UInt8) {p : Nat} (hp : p ≤ 1000000) : 0 ≤ mixx ys p ∧ mixx ys p ≤ 100000000 := by
  have h1 := byte_lt (nth ys (p % ys.length))
  have h2 := byte_lt (nth ys ((p * 7 + 3) % ys.length))
  have h3 : (p : Int) / (ys.length : Int) = ((p / ys.length : Nat) : Int) := by rw [Int.natCast_ediv]
  have h4 : p / ys.length ≤ p := Nat.div_le_self _ _
  have h5 : 0 ≤ (p : Int) / (ys.length : Int) := by rw [h3]; exact Int.natCast_nonneg _
  have h6 : (p : Int) / (ys.length : Int) ≤ p := by rw [h3]; exact_mod_cast h4
  unfold mixx
  omega
theorem xor_range {x y : Int} (h1 : 0 ≤ x) (h2 : x ≤ 100000000) (h3 : 0 ≤ y) (h4 : y ≤ 100000000) : 0 ≤ bitsD .xor .i64 x y := by
  have kx : ∀ x : Int, 0 ≤ x → x ≤ 100000000 → (BitVec.ofInt 64 x).toNat = x.toNat := fun x h1 h2 => by
    rw [BitVec.toNat_ofInt]
    have : x % ((2 ^ 64 : Nat) : Int) = x := Int.emod_eq_of_lt h1 (by omega)
    rw [this]
  show 0 ≤ IntKind.i64.wrap ((BitVec.ofInt 64 x ^^^ BitVec.ofInt 64 y).toNat : Int)
  rw [BitVec.toNat_xor, kx x h1 h2, kx y h3 h4]
  have : x.toNat ^^^ y.toNat < 2 ^ 27 := Nat.xor_lt_two_pow (by omega) (by omega)
  rw [wrap_in (by omega) (by omega)]
  omega
theorem pk_range (ys : List UInt8) {p : Nat} (hp : p ≤ 1000000) {n : Int} (hn : 1 ≤ n) : 0 ≤ pk ys p n ∧ pk ys p n < n := by
  obtain ⟨m1, m2⟩ := mixx_range ys hp
  have t : 0 ≤ (mixx ys p).tdiv 64 ∧ (mixx ys p).tdiv 64 ≤ 100000000 := by
    rw [Int.tdiv_eq_ediv_of_nonneg m1]; omega
  have x := xor_range m1 m2 t.1 t.2
  unfold pk
  split
  · omega
  · split
    · exact ⟨Int.tmod_nonneg _ (by omega), Int.tmod_lt_of_pos _ (by omega)⟩
    · exact ⟨Int.tmod_nonneg _ x, Int.tmod_lt_of_pos _ (by omega)⟩

set_option maxHeartbeats 1000000 in
theorem pick_spec (ys : List UInt8) (p : Nat) (n : Int) (b : Nat) (H : Hp) (hH : H b = some [li cY ys, .int .i64 p]) (hp : p ≤ 1000000) (hl : ys.length ≤ 2000) (hn : n ≤ 1000000) :
    Spec Try.prog 62 [.ptr b 0, .int .i64 n] H (.int .i64 (pk ys p n)) (upd H b (some [li cY ys, .int .i64 ((p + 1 : Nat) : Int)])) := by
  refine Spec.of_walk Try.func62 rfl (by simp [Try.f62]) fun B => ?_
  obtain ⟨m1, m2⟩ := mixx_range ys hp
  have t : 0 ≤ (mixx ys p).tdiv 64 ∧ (mixx ys p).tdiv 64 ≤ 100000000 := by
    rw [Int.tdiv_eq_ediv_of_nonneg m1]; omega
  by_cases h1 : n < 1 <;> by_cases h2 : ys.length = 0 <;> by_cases h3 : p < ys.length
  all_goals (repeat' (first
    | refine AW_seq ?_
    | refine AW_region (id := 0) Γe0_ok [] (by kernel_rfl) ?_; simp  [-List.getD_eq_getElem?_getD, -List.drop_one, ↓splitB_true, ↓splitB_false, go_sem]
    | refine AW_region (id := 1) Γe0_ok [] (by kernel_rfl) ?_; simp  [-List.getD_eq_getElem?_getD, -List.drop_one, ↓splitB_true, ↓splitB_false, go_sem, hH, wrap_in (x := (p : Int) + 1) (by omega) (by omega)]
    | refine AW_region (id := 2) Γe0_ok [17] (by kernel_rfl) ?_; simp  [-List.getD_eq_getElem?_getD, -List.drop_one, ↓splitB_true, ↓splitB_false, go_sem, h1, h2]; try (refine ⟨fun s2a => ?_, fun s2a => ?_⟩ <;> (try simp [B_iff, B_not] at s2a) <;> try (refine ⟨fun s2b => ?_, fun s2b => ?_⟩ <;> (try simp [B_iff, B_not] at s2b)))
    | refine AW_region (id := 3) Γe0_ok [] (by kernel_rfl) ?_; simp  [-List.getD_eq_getElem?_getD, -List.drop_one, ↓splitB_true, ↓splitB_false, go_sem]
    | refine AW_region (id := 4) Γe0_ok [] (by kernel_rfl) ?_; simp  [-List.getD_eq_getElem?_getD, -List.drop_one, ↓splitB_true, ↓splitB_false, go_sem, (show (p : Int) + 1 - 1 = p by omega), wrap_in (x := (p : Int)) (by omega) (by omega)]
    | refine AW_region (id := 5) Γe0_ok [] (by kernel_rfl) ?_; simp  [-List.getD_eq_getElem?_getD, -List.drop_one, ↓splitB_true, ↓splitB_false, go_sem, h3]
    | (have y1 := byte_lt (nth ys p)); refine AW_region (id := 6) Γe0_ok [] (by kernel_rfl) ?_; simp  [-List.getD_eq_getElem?_getD, -List.drop_one, ↓splitB_true, ↓splitB_false, go_sem, h3, ne_nil h3, Nat.sub_pos_of_lt h3, wrap_in (x := ((nth ys p).toNat : Int)) (by omega) (by omega), (show ¬ n = 0 by omega)]
    | (have q1 : p % ys.length < ys.length := (Nat.mod_lt _ (by omega)); have q2 : (p * 7 + 3) % ys.length < ys.length := (Nat.mod_lt _ (by omega)); have y1 := byte_lt (nth ys (p % ys.length)); have y2 := byte_lt (nth ys ((p * 7 + 3) % ys.length)); have e1 : (p : Int) % (ys.length : Int) = ((p % ys.length : Nat) : Int) := (by rw [Int.natCast_emod]); have e2 : ((p : Int) * 7 + 3) % (ys.length : Int) = (((p * 7 + 3) % ys.length : Nat) : Int) := (by rw [Int.natCast_emod]; push_cast; rfl); have e4 : 0 ≤ (p : Int) / (ys.length : Int) := (by rw [← Int.natCast_ediv]; exact Int.natCast_nonneg _); have e5 : (p : Int) / (ys.length : Int) ≤ p := (by rw [← Int.natCast_ediv]; exact_mod_cast Nat.div_le_self _ _)); refine AW_region_draw (id := 7) Γe0_ok mixed [] [0, 5] (by kernel_rfl) (by kernel_rfl) (by simp [-List.getD_eq_getElem?_getD, -List.drop_one, ↓splitB_true, ↓splitB_false, go_sem, q1, ne_nil q1, Nat.sub_pos_of_lt q1, q2, ne_nil q2, Nat.sub_pos_of_lt q2, h2, (show ¬ ys = [] by rintro rfl; simp at h2), wrap_in (x := (p : Int) * 7) (by omega) (by omega), wrap_in (x := (p : Int) * 7 + 3) (by omega) (by omega), (show (p : Int).tmod (ys.length : Int) = (p : Int) % (ys.length : Int) from Int.tmod_eq_emod_of_nonneg (by omega)), (show ((p : Int) * 7 + 3).tmod (ys.length : Int) = ((p : Int) * 7 + 3) % (ys.length : Int) from Int.tmod_eq_emod_of_nonneg (by omega)), (show ((p : Int) % (ys.length : Int)).toNat = p % ys.length by rw [e1]; rfl), (show (((p : Int) * 7 + 3) % (ys.length : Int)).toNat = (p * 7 + 3) % ys.length by rw [e2]; rfl), (show 0 ≤ (p : Int) % (ys.length : Int) by rw [e1]; exact Int.natCast_nonneg _), (show 0 ≤ ((p : Int) * 7 + 3) % (ys.length : Int) by rw [e2]; exact Int.natCast_nonneg _), (show (p : Int) % (ys.length : Int) < ys.length by rw [e1]; exact_mod_cast q1), (show ((p : Int) * 7 + 3) % (ys.length : Int) < ys.length by rw [e2]; exact_mod_cast q2), (show (p : Int).tdiv (ys.length : Int) = (p : Int) / (ys.length : Int) from Int.tdiv_eq_ediv_of_nonneg (by omega)), wrap_in (x := (p : Int) / (ys.length : Int)) (by omega) (by omega), wrap_in (x := ((nth ys (p % ys.length)).toNat : Int)) (by omega) (by omega), wrap_in (x := ((nth ys ((p * 7 + 3) % ys.length)).toNat : Int)) (by omega) (by omega), wrap_in (x := ((nth ys (p % ys.length)).toNat : Int) * 131) (by omega) (by omega), wrap_in (x := ((nth ys ((p * 7 + 3) % ys.length)).toNat : Int) * 1117) (by omega) (by omega), wrap_in (x := ((nth ys (p % ys.length)).toNat : Int) * 131 + ((nth ys ((p * 7 + 3) % ys.length)).toNat : Int) * 1117) (by omega) (by omega), wrap_in (x := (p : Int) * 29) (by omega) (by omega), wrap_in (x := ((nth ys (p % ys.length)).toNat : Int) * 131 + ((nth ys ((p * 7 + 3) % ys.length)).toNat : Int) * 1117 + (p : Int) * 29) (by omega) (by omega), wrap_in (x := (p : Int) / (ys.length : Int) * 53) (by omega) (by omega), (show IntKind.i64.wrap (((nth ys (p % ys.length)).toNat : Int) * 131 + ((nth ys ((p * 7 + 3) % ys.length)).toNat : Int) * 1117 + (p : Int) * 29 + (p : Int) / (ys.length : Int) * 53) = mixx ys p from wrap_in (x := mixx ys p) (by omega) (by omega))]) ?_; simp  [-List.getD_eq_getElem?_getD, -List.drop_one, ↓splitB_true, ↓splitB_false, go_sem, q1, ne_nil q1, Nat.sub_pos_of_lt q1, q2, ne_nil q2, Nat.sub_pos_of_lt q2, h2, (show ¬ ys = [] by rintro rfl; simp at h2), wrap_in (x := (p : Int) * 7) (by omega) (by omega), wrap_in (x := (p : Int) * 7 + 3) (by omega) (by omega), (show (p : Int).tmod (ys.length : Int) = (p : Int) % (ys.length : Int) from Int.tmod_eq_emod_of_nonneg (by omega)), (show ((p : Int) * 7 + 3).tmod (ys.length : Int) = ((p : Int) * 7 + 3) % (ys.length : Int) from Int.tmod_eq_emod_of_nonneg (by omega)), (show ((p : Int) % (ys.length : Int)).toNat = p % ys.length by rw [e1]; rfl), (show (((p : Int) * 7 + 3) % (ys.length : Int)).toNat = (p * 7 + 3) % ys.length by rw [e2]; rfl), (show 0 ≤ (p : Int) % (ys.length : Int) by rw [e1]; exact Int.natCast_nonneg _), (show 0 ≤ ((p : Int) * 7 + 3) % (ys.length : Int) by rw [e2]; exact Int.natCast_nonneg _), (show (p : Int) % (ys.length : Int) < ys.length by rw [e1]; exact_mod_cast q1), (show ((p : Int) * 7 + 3) % (ys.length : Int) < ys.length by rw [e2]; exact_mod_cast q2), (show (p : Int).tdiv (ys.length : Int) = (p : Int) / (ys.length : Int) from Int.tdiv_eq_ediv_of_nonneg (by omega)), wrap_in (x := (p : Int) / (ys.length : Int)) (by omega) (by omega), wrap_in (x := ((nth ys (p % ys.length)).toNat : Int)) (by omega) (by omega), wrap_in (x := ((nth ys ((p * 7 + 3) % ys.length)).toNat : Int)) (by omega) (by omega), wrap_in (x := ((nth ys (p % ys.length)).toNat : Int) * 131) (by omega) (by omega), wrap_in (x := ((nth ys ((p * 7 + 3) % ys.length)).toNat : Int) * 1117) (by omega) (by omega), wrap_in (x := ((nth ys (p % ys.length)).toNat : Int) * 131 + ((nth ys ((p * 7 + 3) % ys.length)).toNat : Int) * 1117) (by omega) (by omega), wrap_in (x := (p : Int) * 29) (by omega) (by omega), wrap_in (x := ((nth ys (p % ys.length)).toNat : Int) * 131 + ((nth ys ((p * 7 + 3) % ys.length)).toNat : Int) * 1117 + (p : Int) * 29) (by omega) (by omega), wrap_in (x := (p : Int) / (ys.length : Int) * 53) (by omega) (by omega), (show IntKind.i64.wrap (((nth ys (p % ys.length)).toNat : Int) * 131 + ((nth ys ((p * 7 + 3) % ys.length)).toNat : Int) * 1117 + (p : Int) * 29 + (p : Int) / (ys.length : Int) * 53) = mixx ys p from wrap_in (x := mixx ys p) (by omega) (by omega))]
    | refine AW_region (id := 8) Γe0_ok [] (by kernel_rfl) ?_; simp  [-List.getD_eq_getElem?_getD, -List.drop_one, ↓splitB_true, ↓splitB_false, go_sem, wrap_in (x := (mixx ys p).tdiv 64) (by omega) (by omega)]
    | refine AW_region (id := 9) Γe0_ok [] (by kernel_rfl) ?_; simp  [-List.getD_eq_getElem?_getD, -List.drop_one, ↓splitB_true, ↓splitB_false, go_sem, (show ¬ n = 0 by omega)]
    | refine AW_condA (c := .tmp 24) ?_; simp [-List.getD_eq_getElem?_getD, -List.drop_one, ↓splitB_true, ↓splitB_false, go_sem]; try first | (refine ⟨?_, ?_⟩ <;> change AW _ _ _ _ _ _) | (refine ⟨fun c24 => ?_, fun c24 => ?_⟩ <;> (try simp [B_iff, B_not] at c24))
    | refine AW_condA (c := .tmp 36) ?_; simp [-List.getD_eq_getElem?_getD, -List.drop_one, ↓splitB_true, ↓splitB_false, go_sem]; try first | (refine ⟨?_, ?_⟩ <;> change AW _ _ _ _ _ _) | (refine ⟨fun c36 => ?_, fun c36 => ?_⟩ <;> (try simp [B_iff, B_not] at c36))
    | (refine AW_block ?_)
    | (refine AW_exit ?_; simp [-List.getD_eq_getElem?_getD, -List.drop_one, ↓splitB_true, ↓splitB_false, go_sem])
    | (refine AW_skip ?_; simp [-List.getD_eq_getElem?_getD, -List.drop_one, ↓splitB_true, ↓splitB_false, go_sem])
    | (refine AW_ret ?_; simp [-List.getD_eq_getElem?_getD, -List.drop_one, ↓splitB_true, ↓splitB_false, go_sem, Try.results62])
    | (intro hx; change AW _ _ _ _ _ _)
    | (refine ⟨?_, ?_⟩ <;> change AW _ _ _ _ _ _)
    | (intro hx; refine ⟨fun hs => ?_, fun hs => ?_⟩)
    | (refine ⟨fun hs => ?_, fun hs => ?_⟩)
    | (refine ⟨?_, fun hs => ?_⟩; change AW _ _ _ _ _ _)
    | (refine ⟨fun hs => ?_, ?_⟩; rotate_left; change AW _ _ _ _ _ _; rotate_left)
    | (exfalso; omega)))
  all_goals (first
    | (simp [pk, h1, h2, h3]; done)
    | skip)
/-- The number drawn, the place as an integer. -/
noncomputable def pkI (ys : List UInt8) (p n : Int) : Int := pk ys p.toNat n
theorem pkI_range (ys : List UInt8) {p : Int} (hp : p ≤ 1000000) {n : Int} (hn : 1 ≤ n) : 0 ≤ pkI ys p n ∧ pkI ys p n < n := pk_range ys (by omega) hn
noncomputable def pickC : Con := .gen fun args H => match args with
  | [.ptr b 0, .int .i64 n] => match H b with
    | some [.list m cs, .int .i64 p] => (Is cY m cs ∧ 0 ≤ p ∧ p ≤ 1000000 ∧ m ≤ 2000 ∧ n ≤ 1000000, .int .i64 (pkI (de cY cs) p n), upd H b (some [.list m cs, .int .i64 (p + 1)]))
    | _ => (False, .any, H)
  | _ => (False, .any, H)
attribute [go_sem] pickC
theorem pickC_ok : ConOk Try.prog 62 pickC := by
  refine ⟨callable Try.func62 (by decide) rfl, fun args H h => ?_⟩
  revert h
  dsimp only
  split
  · rename_i b n
    split
    · rename_i m cs p hH
      rintro ⟨⟨ys, rfl, rfl⟩, h0, h1, h2, h3⟩
      obtain ⟨q, rfl⟩ : ∃ q : Nat, p = q := ⟨p.toNat, by omega⟩
      rw [de_cat]
      have := pick_spec ys q n b H hH (by omega) h2 h3
      simpa [pkI, li] using this
    · intro h; exact h.elim
  · intro h
    exact h.elim
noncomputable def Γe1 : FuncId → Con := ext Γe0 62 pickC
attribute [go_sem] Γe1
theorem Γe1_ok : ∀ g, ConOk Try.prog g (Γe1 g) := ext_ok Γe0_ok pickC_ok

/-- The number drawn out of a list. -/
noncomputable def numI (ys : List UInt8) (p : Int) (xs : List Int) : Int := nth xs (pkI ys p xs.length).toNat
theorem num_spec (ys : List UInt8) (p : Int) (xs : List Int) (b : Nat) (H : Hp) (hH : H b = some [li cY ys, .int .i64 p]) (h0 : 0 ≤ p) (hp : p ≤ 1000000) (hl : ys.length ≤ 2000) (hx : 1 ≤ xs.length) (hn : xs.length ≤ 1000000) :
    Spec Try.prog 70 [.ptr b 0, fr 1 cI xs] H (.int .i64 (numI ys p xs)) (upd H b (some [li cY ys, .int .i64 (p + 1)])) := by
  refine Spec.of_walk Try.func70 rfl (by simp [Try.f70]) fun B => ?_
  obtain ⟨k1, k2⟩ := pkI_range ys hp (n := (xs.length : Int)) (by omega)
  have k3 : (pkI ys p xs.length).toNat < xs.length := by omega
  (repeat' (first
    | refine AW_seq ?_
    | refine AW_region (id := 0) Γe1_ok [] (by kernel_rfl) ?_; simp  [-List.getD_eq_getElem?_getD, -List.drop_one, ↓splitB_true, ↓splitB_false, go_sem]; try (refine AW_mat 1 rfl fun c cp j hc hcp hj => ?_; have hbc : ¬ b = c := (by rintro rfl; dsimp only at hc; rw [hH] at hc; cases hc))
    | refine AW_region (id := 1) Γe1_ok [] (by kernel_rfl) ?_; simp  [-List.getD_eq_getElem?_getD, -List.drop_one, ↓splitB_true, ↓splitB_false, go_sem, hH, hbc, Ne.symm hbc, h0, hp, hl, k1, k2, k3, (show (xs.length : Int) ≤ 1000000 by omega), (show xs.length ≤ 1000000 by omega), (show (pkI ys p xs.length).toNat < xs.length + j by omega)]
    | (refine AW_block ?_)
    | (refine AW_exit ?_; simp [-List.getD_eq_getElem?_getD, -List.drop_one, ↓splitB_true, ↓splitB_false, go_sem])
    | (refine AW_skip ?_; simp [-List.getD_eq_getElem?_getD, -List.drop_one, ↓splitB_true, ↓splitB_false, go_sem])
    | (refine AW_ret ?_; simp [-List.getD_eq_getElem?_getD, -List.drop_one, ↓splitB_true, ↓splitB_false, go_sem, Try.results70])
    | (intro hx; change AW _ _ _ _ _ _)
    | (refine ⟨?_, ?_⟩ <;> change AW _ _ _ _ _ _)
    | (intro hx; refine ⟨fun hs => ?_, fun hs => ?_⟩)
    | (refine ⟨fun hs => ?_, fun hs => ?_⟩)
    | (refine ⟨?_, fun hs => ?_⟩; change AW _ _ _ _ _ _)
    | (refine ⟨fun hs => ?_, ?_⟩; rotate_left; change AW _ _ _ _ _ _; rotate_left)))
  all_goals (first
    | (refine ⟨rfl, fun b' cs' h => ?_⟩; dsimp only at hc; by_cases e1 : b' = b <;> by_cases e2 : b' = c <;> simp_all; done)
    | skip)
noncomputable def numC : Con := .gen fun args H => match args with
  | [.ptr b 0, .fr 1 n ds] => match H b with
    | some [.list m cs, .int .i64 p] => (Is cY m cs ∧ Is cI n ds ∧ 0 ≤ p ∧ p ≤ 1000000 ∧ m ≤ 2000 ∧ 1 ≤ n ∧ n ≤ 1000000, .int .i64 (numI (de cY cs) p (de cI ds)), upd H b (some [.list m cs, .int .i64 (p + 1)]))
    | _ => (False, .any, H)
  | _ => (False, .any, H)
attribute [go_sem] numC
theorem numC_ok : ConOk Try.prog 70 numC := by
  refine ⟨callable Try.func70 (by decide) rfl, fun args H h => ?_⟩
  revert h
  dsimp only
  split
  · rename_i b n ds
    split
    · rename_i m cs p hH
      rintro ⟨⟨ys, rfl, rfl⟩, ⟨xs, rfl, rfl⟩, h0, h1, h2, h3, h4⟩
      rw [de_cat, de_cat]
      have := num_spec ys p xs b H hH h0 h1 h2 h3 h4
      exact this
    · intro h; exact h.elim
  · intro h
    exact h.elim
noncomputable def Γe2 : FuncId → Con := ext Γe1 70 numC
attribute [go_sem] Γe2
theorem Γe2_ok : ∀ g, ConOk Try.prog g (Γe2 g) := ext_ok Γe1_ok numC_ok

/-- The code's first bytes. -/
def cut2000 (ys : List UInt8) : List UInt8 := ys.take 2000
theorem open_spec (ys : List UInt8) (H : Hp) : Spec Try.prog 59 [li cY ys] H (.box [li cY (cut2000 ys), .int .i64 0]) H := by
  refine Spec.of_walk Try.func59 rfl (by simp [Try.f59]) fun B => ?_
  by_cases hl : 2000 < ys.length
  all_goals (repeat' (first
    | refine AW_seq ?_
    | refine AW_region (id := 0) Γe2_ok [] (by kernel_rfl) ?_; simp  [-List.getD_eq_getElem?_getD, -List.drop_one, ↓splitB_true, ↓splitB_false, go_sem]
    | refine AW_region (id := 1) Γe2_ok [] (by kernel_rfl) ?_; simp  [-List.getD_eq_getElem?_getD, -List.drop_one, ↓splitB_true, ↓splitB_false, go_sem, hl]
    | refine AW_region (id := 2) Γe2_ok [] (by kernel_rfl) ?_; simp  [-List.getD_eq_getElem?_getD, -List.drop_one, ↓splitB_true, ↓splitB_false, go_sem, (show 2000 ≤ ys.length by omega), (show (2000 : Int) ≤ ys.length by omega)]
    | refine AW_region (id := 3) Γe2_ok [] (by kernel_rfl) ?_; simp  [-List.getD_eq_getElem?_getD, -List.drop_one, ↓splitB_true, ↓splitB_false, go_sem]
    | refine AW_condA (c := .tmp 5) ?_; simp [-List.getD_eq_getElem?_getD, -List.drop_one, ↓splitB_true, ↓splitB_false, go_sem]; try first | (refine ⟨?_, ?_⟩ <;> change AW _ _ _ _ _ _) | (refine ⟨fun c5 => ?_, fun c5 => ?_⟩ <;> (try simp [B_iff, B_not] at c5))
    | (refine AW_block ?_)
    | (refine AW_exit ?_; simp [-List.getD_eq_getElem?_getD, -List.drop_one, ↓splitB_true, ↓splitB_false, go_sem])
    | (refine AW_skip ?_; simp [-List.getD_eq_getElem?_getD, -List.drop_one, ↓splitB_true, ↓splitB_false, go_sem])
    | (refine AW_ret ?_; simp [-List.getD_eq_getElem?_getD, -List.drop_one, ↓splitB_true, ↓splitB_false, go_sem, Try.results59])
    | (intro hx; change AW _ _ _ _ _ _)
    | (refine ⟨?_, ?_⟩ <;> change AW _ _ _ _ _ _)
    | (intro hx; refine ⟨fun hs => ?_, fun hs => ?_⟩)
    | (refine ⟨fun hs => ?_, fun hs => ?_⟩)
    | (refine ⟨?_, fun hs => ?_⟩; change AW _ _ _ _ _ _)
    | (refine ⟨fun hs => ?_, ?_⟩; rotate_left; change AW _ _ _ _ _ _; rotate_left)))
  all_goals (first
    | (simp [cut2000, hl, (show min 2000 ys.length = 2000 by omega)]; done)
    | (simp [cut2000, List.take_of_length_le (show ys.length ≤ 2000 by omega)]; done)
    | skip)
noncomputable def openC : Con := .gen fun args H => match args with
  | [.list n cs] => (Is cY n cs, .box [li cY (cut2000 (de cY cs)), .int .i64 0], H)
  | _ => (False, .any, H)
attribute [go_sem] openC
theorem openC_ok : ConOk Try.prog 59 openC := by
  refine ⟨callable Try.func59 (by decide) rfl, fun args H h => ?_⟩
  revert h
  dsimp only
  split
  · rintro ⟨xs, rfl, rfl⟩
    rw [de_cat]
    exact open_spec xs H
  · intro h
    exact h.elim
noncomputable def Γe3 : FuncId → Con := ext Γe2 59 openC
attribute [go_sem] Γe3
theorem Γe3_ok : ∀ g, ConOk Try.prog g (Γe3 g) := ext_ok Γe2_ok openC_ok

@[go_sem] theorem makeD_3 (x : D) : makeD [x] 3 = [x, x, x] := by rw [makeD_one]; rfl
@[go_sem] theorem makeD_4 (x : D) : makeD [x] 4 = [x, x, x, x] := by rw [makeD_one]; rfl
@[go_sem] theorem makeD_5 (x : D) : makeD [x] 5 = [x, x, x, x, x] := by rw [makeD_one]; rfl
@[go_sem] theorem makeD_9 (x : D) : makeD [x] 9 = [x, x, x, x, x, x, x, x, x] := by rw [makeD_one]; rfl
theorem numI_range (ys : List UInt8) {p : Int} (hp : p ≤ 1000000) {xs : List Int} {lo hi : Int} (h : ∀ x ∈ xs, lo ≤ x ∧ x ≤ hi) (hx : 1 ≤ xs.length) : lo ≤ numI ys p xs ∧ numI ys p xs ≤ hi := by
  obtain ⟨k1, k2⟩ := pkI_range ys hp (n := (xs.length : Int)) (by omega)
  have k3 : (pkI ys p xs.length).toNat < xs.length := by omega
  unfold numI
  rw [nth_lt k3]
  exact h _ (List.getElem_mem k3)
end Go.Proofs.Ytljncoikoffijaa.Vm

