/-
  Plain lemmas on worlds and on slices that read as lists of integers. No conditions; nothing of the program is named here.
-/
import Derived.WalkKit
import Derived.WalkSpells
import Derived.WalkLawsBesides
import Derived.Deep.Draws
import Derived.BigQuiet
import Derived.Lib.Hide
import Derived.Deep.OwnRows
import Derived.KernelRfl
namespace Go.Proofs.YtnfldmfamnhpcaaDoor
open Go.RowKit Go.Deep

/-! ### Growth: every block that was there is as it was -/
def Gr (w w' : World) : Prop := Below w.heap.size w w'

theorem Gr.refl (w : World) : Gr w w := Below.refl _ _
theorem Gr.trans {a b c : World} (h : Gr a b) (k : Gr b c) : Gr a c := Below.trans h (Below.mono k h.size)
theorem Gr.drewN {a b : World} (h : Gr a b) (n : Nat) : Gr a (b.drewN n) := ⟨h.os, h.tape, h.output, h.size, h.block⟩
theorem Gr.drew {a b : World} (h : Gr a b) : Gr a b.drew := Below.drew h
theorem Gr.alloc {a b : World} (h : Gr a b) (o : Obj) : Gr a (b.alloc o) := Below.alloc h h.size o
theorem Gr.set {w W : World} (h : Gr w W) {g : Nat} (hp : w.heap.size ≤ g) {i : Nat} {u : Value} : Gr w (W.setCell ⟨g, i, none⟩ u) := Below.setCell h hp u
theorem lt_of_cell {w : World} {p : Addr} {v : Value} (h : w.cell? p = some v) : p.block < w.heap.size := World.block_lt_of_cell? w p h
theorem Gr.cell {w w' : World} (h : Gr w w') {p : Addr} {v : Value} (hc : w.cell? p = some v) : w'.cell? p = some v :=
  (Below.cell h (lt_of_cell hc)).trans hc
theorem sz_set (W : World) (p : Addr) (v : Value) : (W.setCell p v).heap.size = W.heap.size := by simp [World.setCell]

/-! ### A block that is known whole -/
def Box (w : World) (g : Nat) (t : TypeId) (cs : Array Value) : Prop := w.heap[g]? = some (.cells cs t (0, 0))
section
variable {w w' : World} {g : Nat} {t : TypeId} {cs : Array Value}
theorem Box.lt (h : Box w g t cs) : g < w.heap.size := by
  rcases Nat.lt_or_ge g w.heap.size with hlt | hge
  · exact hlt
  · unfold Box at h; rw [Array.getElem?_eq_none hge] at h; cases h
theorem Box.c (h : Box w g t cs) : ∀ i, w.cell? ⟨g, i, none⟩ = cs[i]? := fun i => by
  unfold Box at h; simp [World.cell?, h]
theorem Box.f (h : Box w g t cs) : ∀ i, w.frozen? ⟨g, i, none⟩ = false := fun i => by
  unfold Box at h; simp [World.frozen?, h]
theorem Box.gr (h : Box w g t cs) (k : Gr w w') : Box w' g t cs := (k.block g h.lt).trans h
theorem Box.drewN (h : Box w g t cs) (n : Nat) : Box (w.drewN n) g t cs := h
theorem Box.drew (h : Box w g t cs) : Box w.drew g t cs := h
theorem Box.alloc (h : Box w g t cs) (o : Obj) : Box (w.alloc o) g t cs := (Below.heap_alloc w o g h.lt).trans h
theorem Box.set_ (h : Box w g t cs) {i : Nat} {u : Value} : Box (w.setCell ⟨g, i, none⟩ u) g t (cs.setIfInBounds i u) := by
  unfold Box at h ⊢
  simp [World.setCell, Array.getElem?_modify, h]
theorem Box.off (h : Box w g t cs) {g' : Nat} (hp : g ≠ g') {i : Nat} {u : Value} : Box (w.setCell ⟨g', i, none⟩ u) g t cs := (Below.heap_setCell w ⟨g', i, none⟩ u g hp).trans h
theorem Box.new {k : Nat} (hk : w.heap.size = k) : Box (w.alloc (.cells cs t)) k t cs := by
  subst hk
  exact heap_alloc_new w _
theorem row_off {n : Nat} {f : Nat → Value} (h : w.rowIs g t n f) {g' : Nat} (hp : g ≠ g') {i : Nat} {u : Value} : (w.setCell ⟨g', i, none⟩ u).rowIs g t n f := h.setOther hp u
theorem row_gr {n : Nat} {f : Nat → Value} (h : w.rowIs g t n f) (k : Gr w w') : w'.rowIs g t n f := h.of_block (k.block g h.lt)
end

/-! ### Slices of integers -/
/-- The k-th number of a list (0 past its end). -/
def nth (xs : List Int) (k : Nat) : Int := xs.getD k 0
theorem nth_lt {xs : List Int} {k : Nat} (h : k < xs.length) : nth xs k = xs[k] := by simp [nth, List.getD_eq_getElem?_getD, List.getElem?_eq_getElem h]

/-- What a slice's length and capacity owe. -/
def Cap (A : Option Addr) (N c : Nat) : Prop := N ≤ c ∧ c ≤ maxLen ∧ (A = none → c = 0)
theorem Cap.row {p : Addr} {n : Nat} (h : n ≤ maxLen) : Cap (some p) n n := ⟨Nat.le_refl _, h, fun h => by cases h⟩
theorem Cap.len {A : Option Addr} {N c : Nat} (h : Cap A N c) : N ≤ maxLen := Nat.le_trans h.1 h.2.1
/-- From address A on lie the N integers of this list. -/
structure IR (w : World) (A : Option Addr) (N c : Nat) (xs : List Int) : Prop where
  len : N = xs.length
  cells : ∀ k, k < N → ∃ ad, A = some ad ∧ w.cell? (ad.add k) = some (.int .i64 (nth xs k))
  cap : Cap A N c
/-- The value is a slice that reads as this list of integers. -/
def IS (w : World) (v : Value) (xs : List Int) : Prop := ∃ A N c, v = .slice A N c ∧ IR w A N c xs
theorem IR.gr {w w' : World} {A : Option Addr} {N c : Nat} {xs : List Int} (h : IR w A N c xs) (g : Gr w w') : IR w' A N c xs :=
  ⟨h.1, fun k hlt => by obtain ⟨ad, ha, hc⟩ := h.2 k hlt; exact ⟨ad, ha, g.cell hc⟩, h.3⟩
theorem IS.gr {w w' : World} {v : Value} {xs : List Int} (h : IS w v xs) (g : Gr w w') : IS w' v xs := by
  obtain ⟨A, N, c, hv, hk⟩ := h
  exact ⟨A, N, c, hv, hk.gr g⟩
theorem IS.drew {w : World} {v : Value} {xs : List Int} (h : IS w v xs) : IS w.drew v xs := ⟨_, _, _, h.choose_spec.choose_spec.choose_spec.1, h.choose_spec.choose_spec.choose_spec.2.1, h.choose_spec.choose_spec.choose_spec.2.2, h.choose_spec.choose_spec.choose_spec.2.3⟩
theorem IS.len {w : World} {v : Value} {xs : List Int} (h : IS w v xs) : xs.length ≤ maxLen := by
  obtain ⟨A, N, c, _, hk⟩ := h
  rw [← hk.1]; exact hk.3.len
theorem add0 (b o k : Nat) : (⟨b, o, none⟩ : Addr).add k = ⟨b, o + k, none⟩ := by
  unfold Addr.add; split <;> simp_all
theorem IR.of_row {t : TypeId} {w : World} {b c : Nat} {xs : List Int} (h : w.rowIs b t xs.length (fun i => .int .i64 (nth xs i))) (hc : Cap (some ⟨b, 0, none⟩) xs.length c) : IR w (some ⟨b, 0, none⟩) xs.length c xs :=
  ⟨rfl, fun k hk => ⟨_, rfl, by rw [add0, Nat.zero_add]; exact h.cell hk⟩, hc⟩
theorem IS.of_row {t : TypeId} {w : World} {b c : Nat} {xs : List Int} (h : w.rowIs b t xs.length (fun i => .int .i64 (nth xs i))) (hc : Cap (some ⟨b, 0, none⟩) xs.length c) : IS w (.slice (some ⟨b, 0, none⟩) xs.length c) xs :=
  ⟨_, _, _, rfl, IR.of_row h hc⟩

/-- Equality as a Bool that no rewriting takes apart. -/
def eqB {α : Type} [DecidableEq α] (a b : α) : Bool := decide (a = b)
theorem eqB_self {α : Type} [DecidableEq α] (a : α) : eqB a a = true := by simp [eqB]
theorem eqB_ne {α : Type} [DecidableEq α] {a b : α} (h : a ≠ b) : eqB a b = false := by simp [eqB, h]

/-- The two lists agree in their first k places. -/
def Agree (k : Nat) (xs ys : List Int) : Prop := ∀ i, i < k → nth xs i = nth ys i
theorem Agree.zero (xs ys : List Int) : Agree 0 xs ys := fun _ h => absurd h (by omega)
theorem Agree.succ {k : Nat} {xs ys : List Int} (h : Agree k xs ys) (e : nth xs k = nth ys k) : Agree (k + 1) xs ys := fun i hi => by
  rcases Nat.lt_or_ge i k with h1 | h1
  · exact h i h1
  · obtain rfl : i = k := by omega
    exact e
theorem Agree.all {xs ys : List Int} (h : Agree xs.length xs ys) (hl : xs.length = ys.length) : xs = ys := by
  apply List.ext_getElem hl
  intro i h1 h2
  have := h i h1
  rwa [nth_lt h1, nth_lt h2] at this

/-- What is left of a budget when n is taken off; -1 if it does not suffice. -/
def szOf (left : Int) (n : Nat) : Int := if left - n < 0 then -1 else left - n
theorem szOf_no {left : Int} {n : Nat} (h : left - n < 0) : szOf left n = -1 := by unfold szOf; rw [if_pos h]
theorem szOf_yes {left : Int} {n : Nat} (h : 0 ≤ left - n) : szOf left n = left - n := by unfold szOf; rw [if_neg (by omega)]

/-- A new block that holds these integers, and nothing else has turned. -/
def NewInts (t : TypeId) (w : World) (xs : List Int) (e : Ending) (w' : World) : Prop :=
  e = .returned (.slice (some ⟨w.heap.size, 0, none⟩) xs.length xs.length) ∧ Gr w w' ∧ w'.heap.size = w.heap.size + 1 ∧ w'.rowIs w.heap.size t xs.length (fun i => .int .i64 (nth xs i))

/-- The row while it is being filled. -/
def Filled (t : TypeId) (w wr : World) (xs : List Int) (k : Nat) : Prop :=
  Gr w wr ∧ wr.heap.size = w.heap.size + 1 ∧ wr.rowIs w.heap.size t xs.length (fun i => if i < k then .int .i64 (nth xs i) else .int .i64 0)
theorem Filled.zero (t : TypeId) (w : World) (xs : List Int) : Filled t w (w.alloc (.cells (madeCells #[.int .i64 0] xs.length) t)) xs 0 :=
  ⟨(Gr.refl w).alloc _, by simp, (World.rowIs_made _ _ _ _).congr fun i _ => by simp⟩
theorem Filled.drew {t : TypeId} {w wr : World} {xs : List Int} {k : Nat} (h : Filled t w wr xs k) (n : Nat) : Filled t w (wr.drewN n) xs k := ⟨h.1.drewN n, h.2.1, h.2.2⟩
theorem Filled.succ {t : TypeId} {w wr : World} {xs : List Int} {k : Nat} (h : Filled t w wr xs k) : Filled t w (wr.setCell ⟨w.heap.size, k, none⟩ (.int .i64 (nth xs k))) xs (k + 1) :=
  ⟨Below.setCell h.1 (Nat.le_refl _) _, by simp [World.setCell, h.2.1], (h.2.2.set k _).congr fun i _ => by
    by_cases h1 : i = k
    · subst h1; simp
    · by_cases h2 : i < k
      · rw [if_neg h1, if_pos h2, if_pos (by omega)]
      · rw [if_neg h1, if_neg h2, if_neg (by omega)]⟩
theorem Filled.done {t : TypeId} {w wr : World} {xs : List Int} {k : Nat} (h : Filled t w wr xs k) (hk : xs.length ≤ k) : NewInts t w xs (.returned (.slice (some ⟨w.heap.size, 0, none⟩) xs.length xs.length)) wr :=
  ⟨rfl, h.1, h.2.1, h.2.2.congr fun i hi => by rw [if_pos (by omega)]⟩

/-! ### A struct of two slices of integers -/
abbrev Ints2 := List Int × List Int
/-- The value is a struct of two slices that read so. -/
def PS (w : World) (v : Value) (l : Ints2) : Prop := ∃ s1 s2, v = .agg #[s1, s2] ∧ IS w s1 l.1 ∧ IS w s2 l.2
theorem PS.gr {w w' : World} {v : Value} {l : Ints2} (h : PS w v l) (g : Gr w w') : PS w' v l := by
  obtain ⟨s1, s2, hv, h1, h2⟩ := h
  exact ⟨s1, s2, hv, h1.gr g, h2.gr g⟩
/-- Such a struct, made anew: the two rows lie in blocks of their own. -/
def NewPair (t : TypeId) (w : World) (l : Ints2) (e : Ending) (w' : World) : Prop :=
  ∃ b1 b2, w.heap.size ≤ b1 ∧ b1 < b2 ∧ b2 < w'.heap.size ∧ e = .returned (.agg #[.slice (some ⟨b1, 0, none⟩) l.1.length l.1.length, .slice (some ⟨b2, 0, none⟩) l.2.length l.2.length]) ∧ Gr w w' ∧
    w'.rowIs b1 t l.1.length (fun i => .int .i64 (nth l.1 i)) ∧ w'.rowIs b2 t l.2.length (fun i => .int .i64 (nth l.2 i)) ∧ l.1.length ≤ maxLen ∧ l.2.length ≤ maxLen
/-- What reads is all that a caller asks. -/
def GotPair (w : World) (l : Ints2) (e : Ending) (w' : World) : Prop := ∃ A N c B M d, e = .returned (.agg #[.slice A N c, .slice B M d]) ∧ Gr w w' ∧ PS w' (.agg #[.slice A N c, .slice B M d]) l
theorem NewPair.got {t : TypeId} {w : World} {l : Ints2} (e : Ending) (w' : World) (h : NewPair t w l e w') : GotPair w l e w' := by
  obtain ⟨b1, b2, _, _, _, he, hg, r1, r2, m1, m2⟩ := h
  exact ⟨_, _, _, _, _, _, he, hg, _, _, rfl, IS.of_row r1 (Cap.row m1), IS.of_row r2 (Cap.row m2)⟩

/-! ### Ranges, letters -/
/-- n lies between lo and hi. -/
def inR (n lo hi : Int) : Bool := decide (lo ≤ n) && decide (n ≤ hi)
theorem inR_yes {n lo hi : Int} (h : lo ≤ n) (h' : n ≤ hi) : inR n lo hi = true := by simp [inR, h, h']
theorem inR_lo {n lo hi : Int} (h : n < lo) : inR n lo hi = false := by simp [inR]; omega
theorem inR_hi {n lo hi : Int} (h : hi < n) : inR n lo hi = false := by simp [inR]; omega
theorem inR_iff {n lo hi : Int} : inR n lo hi = true ↔ lo ≤ n ∧ n ≤ hi := by simp [inR]
/-- The same world (under a name that no rewriting takes apart). -/
def SameW (w w' : World) : Prop := w = w'
theorem SameW.rfl' (w : World) : SameW w w := rfl
/-- None of the first k numbers meets the test. -/
def NoneTill (p : Int → Bool) (xs : List Int) (k : Nat) : Prop := ∀ i, i < k → p (nth xs i) = false
theorem NoneTill.zero (p : Int → Bool) (xs : List Int) : NoneTill p xs 0 := fun _ h => absurd h (by omega)
theorem NoneTill.succ {p : Int → Bool} {xs : List Int} {k : Nat} (h : NoneTill p xs k) (e : p (nth xs k) = false) : NoneTill p xs (k + 1) := fun i hi => by
  rcases Nat.lt_or_ge i k with h1 | h1
  · exact h i h1
  · obtain rfl : i = k := by omega
    exact e
/-- Some number meets the test. -/
def anyB (p : Int → Bool) (xs : List Int) : Bool := xs.any p
theorem anyB_no {p : Int → Bool} {xs : List Int} {k : Nat} (h : NoneTill p xs k) (hk : xs.length ≤ k) : anyB p xs = false := by
  rw [anyB, List.any_eq_false]
  intro x hx
  obtain ⟨i, hi, rfl⟩ := List.getElem_of_mem hx
  have := h i (by omega)
  rw [nth_lt hi] at this
  simp [this]
theorem anyB_yes {p : Int → Bool} {xs : List Int} {k : Nat} (hk : k < xs.length) (e : p (nth xs k) = true) : anyB p xs = true := by
  rw [anyB, List.any_eq_true]
  exact ⟨xs[k], List.getElem_mem hk, by rw [← nth_lt hk]; exact e⟩
/-- No letter: outside 0 to 7. -/
def noLetter (n : Int) : Bool := !inR n 0 7
def lettersB (xs : List Int) : Bool := !anyB noLetter xs
/-- A valid lasso. -/
def lassoOk (x : Ints2) : Bool := lettersB x.1 && (lettersB x.2 && (decide (x.1.length ≤ 80) && (decide (1 ≤ x.2.length) && decide (x.2.length ≤ 80))))
/-- The letter at a position, and whether there is one. -/
def letterOk (x : Ints2) (i : Int) : Bool := lassoOk x && decide (0 ≤ i)
def letterAt (x : Ints2) (i : Int) : Int :=
  if letterOk x i then (if i < x.1.length then nth x.1 i.toNat else nth x.2 ((i - x.1.length) % x.2.length).toNat) else 0
theorem letterOk_no {x : Ints2} {i : Int} (h : lassoOk x = false) : letterOk x i = false := by simp [letterOk, h]
theorem letterOk_neg {x : Ints2} {i : Int} (h : i < 0) : letterOk x i = false := by simp [letterOk]; omega
theorem letterOk_yes {x : Ints2} {i : Int} (h : lassoOk x = true) (h' : 0 ≤ i) : letterOk x i = true := by simp [letterOk, h, h']
theorem letterAt_no {x : Ints2} {i : Int} (h : letterOk x i = false) : letterAt x i = 0 := by simp [letterAt, h]
theorem letterAt_stem {x : Ints2} {i : Nat} (h : letterOk x i = true) (h' : i < x.1.length) : letterAt x i = nth x.1 i := by
  rw [letterAt, if_pos h, if_pos (by omega)]; rfl
theorem letterAt_loop {x : Ints2} {i k : Nat} (h : letterOk x i = true) (h' : x.1.length ≤ i) (hk : k = (i - x.1.length) % x.2.length) : letterAt x i = nth x.2 k := by
  rw [letterAt, if_pos h, if_neg (by omega)]
  congr 1
  subst hk
  have : ((i : Int) - (x.1.length : Int)) = ((i - x.1.length : Nat) : Int) := by omega
  rw [this, ← Int.natCast_emod, Int.toNat_natCast]
theorem lassoOk_len {x : Ints2} (h : lassoOk x = true) : x.1.length ≤ 80 ∧ 1 ≤ x.2.length ∧ x.2.length ≤ 80 := by
  simp [lassoOk] at h; omega

/-! ### A struct of one slice of integers -/
def OS (w : World) (v : Value) (l : List Int) : Prop := ∃ s1, v = .agg #[s1] ∧ IS w s1 l
theorem OS.gr {w w' : World} {v : Value} {l : List Int} (h : OS w v l) (g : Gr w w') : OS w' v l := by
  obtain ⟨s1, hv, h1⟩ := h
  exact ⟨s1, hv, h1.gr g⟩
/-- Such a struct, made anew: the row lies in a block of its own. -/
def NewOne (t : TypeId) (w : World) (l : List Int) (e : Ending) (w' : World) : Prop :=
  ∃ b1, w.heap.size ≤ b1 ∧ b1 < w'.heap.size ∧ e = .returned (.agg #[.slice (some ⟨b1, 0, none⟩) l.length l.length]) ∧ Gr w w' ∧ w'.rowIs b1 t l.length (fun i => .int .i64 (nth l i)) ∧ l.length ≤ maxLen
def GotOne (w : World) (l : List Int) (e : Ending) (w' : World) : Prop := ∃ A N c, e = .returned (.agg #[.slice A N c]) ∧ Gr w w' ∧ OS w' (.agg #[.slice A N c]) l
theorem NewOne.got {t : TypeId} {w : World} {l : List Int} (e : Ending) (w' : World) (h : NewOne t w l e w') : GotOne w l e w' := by
  obtain ⟨b1, _, _, he, hg, r1, m1⟩ := h
  exact ⟨_, _, _, he, hg, _, rfl, IS.of_row r1 (Cap.row m1)⟩

/-- The greatest of -1 and the first k numbers. -/
def maxTill (xs : List Int) : Nat → Int
  | 0 => -1
  | k + 1 => max (maxTill xs k) (nth xs k)
theorem maxTill_le {xs : List Int} {k : Nat} (h : nth xs k ≤ maxTill xs k) : maxTill xs (k + 1) = maxTill xs k := by simp [maxTill]; omega
theorem maxTill_gt {xs : List Int} {k : Nat} (h : maxTill xs k ≤ nth xs k) : maxTill xs (k + 1) = nth xs k := by simp [maxTill]; omega
/-- m is the greatest of -1 and the first k numbers. -/
def MaxIs (xs : List Int) (k : Nat) (m : Int) : Prop := m = maxTill xs k

/-- make([]T, n), whatever the element's size. -/
theorem run_make_n {P : Program} (t e : TypeId) (z : Value) (size bytes : Nat) (ht : P.underlying t = some (.slice e)) (hinfo : (P.info? e).map (fun i => (i.zero, i.size, i.bytes)) = some (some z, size, bytes))
    (n : Nat) (hb : bytes * n ≤ 281474976710656) (h63 : n ≤ 9223372036854775807) (w : World) :
    (Instr.makeSlice t (.int .i64 (n : Int)) (.int .i64 (n : Int))).run P w = .ok (.slice (some ⟨w.heap.size, 0, none⟩) n n) (w.alloc (.cells (madeCells z.cells (n * size)) e)) := by
  obtain ⟨i, hi, hzz⟩ := Option.map_eq_some_iff.1 hinfo
  simp only [Prod.mk.injEq] at hzz
  obtain ⟨hz, hs, hbb⟩ := hzz
  have := run_make (P := P) w t e i z ht hi hz .i64 .i64 n n (by omega) (Int.le_refl _) (by rw [hbb]; omega) (by omega)
  rwa [Int.toNat_natCast, hs] at this
end Go.Proofs.YtnfldmfamnhpcaaDoor

