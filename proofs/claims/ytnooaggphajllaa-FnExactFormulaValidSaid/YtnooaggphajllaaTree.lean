/-
  Trees of two numbers a node, as they lie in memory. Plain lemmas; nothing of the program is named here.
-/
import Derived.Test.YtnooaggphajllaaLib
namespace Go.Proofs.Ytnooaggphajllaa
open Go.RowKit Go.Deep
set_option linter.unusedVariables false

/-- From block lo on every block that was there is as it was. -/
def KF (lo : Nat) (w w' : World) : Prop := ∀ k, lo ≤ k → k < w.heap.size → w'.heap[k]? = w.heap[k]?
theorem Gr.kf {w w' : World} (h : Gr w w') (lo : Nat) : KF lo w w' := fun k _ hk => h.block k hk
theorem KF.set {lo g : Nat} (w : World) (hg : g < lo) {i : Nat} {u : Value} : KF lo w (w.setCell ⟨g, i, none⟩ u) := fun k hk _ => Below.heap_setCell _ _ _ _ (by simp; omega)
theorem KF.trans {lo : Nat} {a b c : World} (h : KF lo a b) (k : KF lo b c) (hs : a.heap.size ≤ b.heap.size) : KF lo a c := fun i hi hlt => (k i hi (by omega)).trans (h i hi hlt)
theorem KF.cell {lo : Nat} {w w' : World} (h : KF lo w w') {p : Addr} (hp : lo ≤ p.block) {v : Value} (hc : w.cell? p = some v) : w'.cell? p = some v :=
  (World.cell?_of_block (h p.block hp (lt_of_cell hc))).trans hc
theorem block_add (a : Addr) (n : Nat) : (a.add n).block = a.block := by unfold Addr.add; split <;> rfl

/-- From p on lie these cells. -/
def Cells (w : World) (p : Addr) (cs : List Value) : Prop := ∀ j (h : j < cs.length), w.cell? (p.add j) = some cs[j]
theorem Cells.kf {lo : Nat} {w w' : World} {p : Addr} {cs : List Value} (h : Cells w p cs) (hp : lo ≤ p.block) (k : KF lo w w') : Cells w' p cs :=
  fun j hj => k.cell (by rw [block_add]; exact hp) (h j hj)

theorem Cells.c0 {w : World} {p : Addr} {c : Value} {cs : List Value} (h : Cells w p (c :: cs)) : w.cell? p = some c := h 0 (by simp)
theorem Cells.c1 {w : World} {p : Addr} {c c' : Value} {cs : List Value} (h : Cells w p (c' :: c :: cs)) : w.cell? ⟨p.block, p.off + 1, none⟩ = some c := h 1 (by simp)
theorem Cells.c2 {w : World} {p : Addr} {c c' c'' : Value} {cs : List Value} (h : Cells w p (c'' :: c' :: c :: cs)) : w.cell? ⟨p.block, p.off + 2, none⟩ = some c := h 2 (by simp)
theorem Cells.c3 {w : World} {p : Addr} {c c' c'' d : Value} {cs : List Value} (h : Cells w p (c'' :: c' :: d :: c :: cs)) : w.cell? ⟨p.block, p.off + 3, none⟩ = some c := h 3 (by simp)
theorem Cells.gr {w w' : World} {p : Addr} {cs : List Value} (h : Cells w p cs) (g : Gr w w') : Cells w' p cs := fun j hj => g.cell (h j hj)

inductive Tr where
  | node (a b : Int) (ts : List Tr)
instance : Inhabited Tr := ⟨.node 0 0 []⟩
mutual
/-- How many nodes. -/
def trN : Tr → Nat
  | .node _ _ ts => trNL ts + 1
def trNL : List Tr → Nat
  | [] => 0
  | t :: ts => trN t + trNL ts
end
mutual
def trEq : Tr → Tr → Bool
  | .node a b ts, .node a' b' ts' => (a == a') && ((b == b') && trEqL ts ts')
def trEqL : List Tr → List Tr → Bool
  | [], [] => true
  | t :: ts, t' :: ts' => trEq t t' && trEqL ts ts'
  | _, _ => false
end
mutual
theorem trEq_self : ∀ t : Tr, trEq t t = true
  | .node a b ts => by simp [trEq, trEqL_self ts]
theorem trEqL_self : ∀ ts : List Tr, trEqL ts ts = true
  | [] => rfl
  | t :: ts => by simp [trEqL, trEq_self t, trEqL_self ts]
end

mutual
/-- The value is a struct of two numbers and a slice of such structs, which reads as this tree; all its rows lie from block lo on. -/
def TS (w : World) (lo : Nat) (v : Value) : Tr → Prop
  | .node a b ts => ∃ A c, v = .agg #[.int .i64 a, .int .i64 b, .slice A ts.length c] ∧ ts.length ≤ maxLen ∧ TL w lo A 0 ts
def TL (w : World) (lo : Nat) (A : Option Addr) : Nat → List Tr → Prop
  | _, [] => True
  | i, t :: ts => (∃ ad c0 c1 c2, A = some ad ∧ lo ≤ ad.block ∧ Cells w (ad.add (i * 3)) [c0, c1, c2] ∧ TS w lo (.agg #[c0, c1, c2]) t) ∧ TL w lo A (i + 1) ts
end

theorem TL.at_ {w : World} {lo : Nat} {A : Option Addr} : ∀ {ts : List Tr} {i : Nat}, TL w lo A i ts → ∀ k (hk : k < ts.length), ∃ ad c0 c1 c2, A = some ad ∧ lo ≤ ad.block ∧ Cells w (ad.add ((i + k) * 3)) [c0, c1, c2] ∧ TS w lo (.agg #[c0, c1, c2]) ts[k]
  | t :: ts, i, h, 0, _ => by
    obtain ⟨⟨ad, c0, c1, c2, h1, h2, h3, h4⟩, _⟩ := (by simpa only [TL] using h : _ ∧ _)
    exact ⟨ad, c0, c1, c2, h1, h2, h3, h4⟩
  | t :: ts, i, h, k + 1, hk => by
    obtain ⟨_, h⟩ := (by simpa only [TL] using h : _ ∧ _)
    obtain ⟨ad, c0, c1, c2, h1, h2, h3, h4⟩ := TL.at_ h k (by simpa using hk)
    exact ⟨ad, c0, c1, c2, h1, h2, by rw [show i + (k + 1) = i + 1 + k by omega]; exact h3, h4⟩
theorem TL.of {w : World} {lo : Nat} {A : Option Addr} : ∀ (ts : List Tr) (i : Nat), (∀ k (hk : k < ts.length), ∃ ad c0 c1 c2, A = some ad ∧ lo ≤ ad.block ∧ Cells w (ad.add ((i + k) * 3)) [c0, c1, c2] ∧ TS w lo (.agg #[c0, c1, c2]) ts[k]) → TL w lo A i ts
  | [], i, _ => by simp only [TL]
  | t :: ts, i, h => by
    simp only [TL]
    refine ⟨?_, TL.of ts (i + 1) fun k hk => ?_⟩
    · exact h 0 (by simp)
    · obtain ⟨ad, c0, c1, c2, h1, h2, h3, h4⟩ := h (k + 1) (by simpa using hk)
      exact ⟨ad, c0, c1, c2, h1, h2, by rw [show i + 1 + k = i + (k + 1) by omega]; exact h3, h4⟩
mutual
theorem TS.kf {w w' : World} {lo : Nat} (hk : KF lo w w') : ∀ {t : Tr} {v : Value}, TS w lo v t → TS w' lo v t
  | .node a b ts, v, h => by
    simp only [TS] at h ⊢
    obtain ⟨A, c, h1, h2, h3⟩ := h
    exact ⟨A, c, h1, h2, TL.kf hk h3⟩
theorem TL.kf {w w' : World} {lo : Nat} (hk : KF lo w w') : ∀ {ts : List Tr} {A : Option Addr} {i : Nat}, TL w lo A i ts → TL w' lo A i ts
  | [], _, _, _ => by simp only [TL]
  | t :: ts, A, i, h => by
    simp only [TL] at h ⊢
    obtain ⟨⟨ad, c0, c1, c2, h1, h2, h3, h4⟩, h5⟩ := h
    exact ⟨⟨ad, c0, c1, c2, h1, h2, h3.kf (by rw [block_add]; exact h2) hk, TS.kf hk h4⟩, TL.kf hk h5⟩
end
mutual
theorem TS.low {w : World} {lo lo' : Nat} (hk : lo' ≤ lo) : ∀ {t : Tr} {v : Value}, TS w lo v t → TS w lo' v t
  | .node a b ts, v, h => by
    simp only [TS] at h ⊢
    obtain ⟨A, c, h1, h2, h3⟩ := h
    exact ⟨A, c, h1, h2, TL.low hk h3⟩
theorem TL.low {w : World} {lo lo' : Nat} (hk : lo' ≤ lo) : ∀ {ts : List Tr} {A : Option Addr} {i : Nat}, TL w lo A i ts → TL w lo' A i ts
  | [], _, _, _ => by simp only [TL]
  | t :: ts, A, i, h => by
    simp only [TL] at h ⊢
    obtain ⟨⟨ad, c0, c1, c2, h1, h2, h3, h4⟩, h5⟩ := h
    exact ⟨⟨ad, c0, c1, c2, h1, by omega, h3, TS.low hk h4⟩, TL.low hk h5⟩
end
theorem TS.gr {w w' : World} {lo : Nat} {v : Value} {t : Tr} (h : TS w lo v t) (g : Gr w w') : TS w' lo v t := h.kf (g.kf lo)
theorem TL.gr {w w' : World} {lo : Nat} {A : Option Addr} {i : Nat} {ts : List Tr} (h : TL w lo A i ts) (g : Gr w w') : TL w' lo A i ts := h.kf (g.kf lo)

theorem TS.form {w : World} {lo : Nat} {x0 x1 x2 : Value} {t : Tr} (h : TS w lo (.agg #[x0, x1, x2]) t) : ∃ a b A N c, x0 = .int .i64 a ∧ x1 = .int .i64 b ∧ x2 = .slice A N c := by
  obtain ⟨a, b, ts⟩ := t
  simp only [TS] at h
  obtain ⟨A, c, h1, _⟩ := h
  simp only [Value.agg.injEq, Array.mk.injEq, List.cons.injEq, and_true] at h1
  exact ⟨a, b, A, _, c, h1.1, h1.2.1, h1.2.2⟩

/-- The nodes of the first k trees. -/
def preN (ts : List Tr) (k : Nat) : Nat := trNL (ts.take k)
theorem trN_pos (t : Tr) : 1 ≤ trN t := by cases t; simp [trN]
theorem trNL_append : ∀ (a b : List Tr), trNL (a ++ b) = trNL a + trNL b
  | [], b => by simp [trNL]
  | t :: a, b => by simp [trNL, trNL_append a b]; omega
theorem preN_zero (ts : List Tr) : preN ts 0 = 0 := by simp [preN, trNL]
theorem preN_succ {ts : List Tr} {k : Nat} (hk : k < ts.length) : preN ts (k + 1) = preN ts k + trN ts[k] := by
  rw [preN, List.take_succ_eq_append_getElem hk, trNL_append]; simp [trNL, preN]
theorem preN_all {ts : List Tr} {k : Nat} (hk : ts.length ≤ k) : preN ts k = trNL ts := by rw [preN, List.take_of_length_le hk]
theorem len_le_trNL : ∀ ts : List Tr, ts.length ≤ trNL ts
  | [] => by simp
  | t :: ts => by have := len_le_trNL ts; have := trN_pos t; simp [trNL]; omega
theorem preN_le {ts : List Tr} {k : Nat} (hk : k ≤ ts.length) : preN ts k + (ts.length - k) ≤ trNL ts := by
  have h : trNL ts = trNL (ts.take k) + trNL (ts.drop k) := by rw [← trNL_append, List.take_append_drop]
  have := len_le_trNL (ts.drop k)
  rw [List.length_drop] at this
  unfold preN; omega
theorem preN_ge {ts : List Tr} : ∀ {k : Nat}, k ≤ ts.length → k ≤ preN ts k
  | 0, _ => Nat.zero_le _
  | k + 1, hk => by rw [preN_succ (by omega)]; have := preN_ge (ts := ts) (k := k) (by omega); have := trN_pos ts[k]; omega
theorem trN_le {ts : List Tr} {k : Nat} (hk : k < ts.length) : trN ts[k] ≤ trNL ts := by
  have := preN_le (ts := ts) (k := k + 1) hk
  rw [preN_succ hk] at this
  omega

/-- The first k trees are alike. -/
def AgreeT (k : Nat) (ts ts' : List Tr) : Prop := trEqL (ts.take k) (ts'.take k) = true
theorem AgreeT.zero (ts ts' : List Tr) : AgreeT 0 ts ts' := by simp [AgreeT, trEqL]
theorem trEqL_snoc : ∀ (a b : List Tr) (t t' : Tr), a.length = b.length → trEqL (a ++ [t]) (b ++ [t']) = (trEqL a b && trEq t t')
  | [], [], t, t', _ => by simp [trEqL]
  | x :: a, y :: b, t, t', h => by simp [trEqL, trEqL_snoc a b t t' (by simpa using h), Bool.and_assoc]
theorem AgreeT.succ {k : Nat} {ts ts' : List Tr} (hl : ts.length = ts'.length) (hk : k < ts.length) (h : AgreeT k ts ts') (e : trEq ts[k] (ts'[k]'(by omega)) = true) : AgreeT (k + 1) ts ts' := by
  unfold AgreeT at *
  rw [List.take_succ_eq_append_getElem hk, List.take_succ_eq_append_getElem (by omega), trEqL_snoc _ _ _ _ (by simp; omega), h, e]; rfl
theorem AgreeT.all {k : Nat} {ts ts' : List Tr} (hl : ts.length = ts'.length) (hk : ts.length ≤ k) (h : AgreeT k ts ts') : trEqL ts ts' = true := by
  unfold AgreeT at h
  rwa [List.take_of_length_le hk, List.take_of_length_le (by omega)] at h
theorem trEqL_ne : ∀ {ts ts' : List Tr} {k : Nat} (hl : ts.length = ts'.length) (hk : k < ts.length), trEq ts[k] (ts'[k]'(by omega)) = false → trEqL ts ts' = false
  | x :: a, y :: b, 0, _, _, e => by simp [trEqL, show trEq x y = false from e]
  | x :: a, y :: b, k + 1, hl, hk, e => by simp [trEqL, trEqL_ne (ts := a) (ts' := b) (k := k) (by simpa using hl) (by simpa using hk) e]
theorem trEqL_len : ∀ {ts ts' : List Tr}, ts.length ≠ ts'.length → trEqL ts ts' = false
  | [], [], h => absurd rfl h
  | [], _ :: _, _ => rfl
  | _ :: _, [], _ => rfl
  | x :: a, y :: b, h => by simp [trEqL, trEqL_len (ts := a) (ts' := b) (by simpa using h)]

/-- A tree handed back: its own rows lie in new blocks. -/
def NewTr (w : World) (t : Tr) (e : Ending) (w' : World) : Prop :=
  ∃ a b A N c, e = .returned (.agg #[.int .i64 a, .int .i64 b, .slice A N c]) ∧ Gr w w' ∧ TS w' w.heap.size (.agg #[.int .i64 a, .int .i64 b, .slice A N c]) t
def NewTrL (w : World) (ts : List Tr) (e : Ending) (w' : World) : Prop :=
  ∃ A c, e = .returned (.slice A ts.length c) ∧ Gr w w' ∧ TL w' w.heap.size A 0 ts

/-- What reads is all that a caller asks. -/
def GotTr (w : World) (t : Tr) (e : Ending) (w' : World) : Prop :=
  ∃ a b A N c, e = .returned (.agg #[.int .i64 a, .int .i64 b, .slice A N c]) ∧ Gr w w' ∧ TS w' 0 (.agg #[.int .i64 a, .int .i64 b, .slice A N c]) t
theorem NewTr.got {w : World} {t : Tr} (e : Ending) (w' : World) (h : NewTr w t e w') : GotTr w t e w' := by
  obtain ⟨a, b, A, N, c, he, hg, ht⟩ := h
  exact ⟨a, b, A, N, c, he, hg, ht.low (Nat.zero_le _)⟩
theorem TS.shape {w : World} {lo : Nat} {v : Value} {t : Tr} (h : TS w lo v t) : ∃ a b A N c, v = .agg #[.int .i64 a, .int .i64 b, .slice A N c] := by
  obtain ⟨a, b, ts⟩ := t
  simp only [TS] at h
  obtain ⟨A, c, h1, _⟩ := h
  exact ⟨_, _, _, _, _, h1⟩

/-- The row of nodes while it is being filled: block b of wr. -/
def FillT (T : TypeId) (w wr : World) (ts : List Tr) (k : Nat) : Prop :=
  Gr w wr ∧ ∃ C : Array Value, C.size = ts.length * 3 ∧ Box wr w.heap.size T C ∧ ∀ i (hi : i < ts.length), i < k → ∃ c0 c1 c2, C[i * 3]? = some c0 ∧ C[i * 3 + 1]? = some c1 ∧ C[i * 3 + 2]? = some c2 ∧ TS wr (w.heap.size + 1) (.agg #[c0, c1, c2]) ts[i]
theorem FillT.zero (T : TypeId) (w : World) (ts : List Tr) (C : Array Value) (hC : C.size = ts.length * 3) : FillT T w (w.alloc (.cells C T)) ts 0 :=
  ⟨(Gr.refl w).alloc _, C, hC, Box.new rfl, fun _ _ h => absurd h (by omega)⟩
theorem FillT.succ {T : TypeId} {w wr w1 : World} {ts : List Tr} {k : Nat} (h : FillT T w wr ts k) (hk : k < ts.length) (hg : Gr wr w1) {c0 c1 c2 : Value}
    (ht : TS w1 wr.heap.size (.agg #[c0, c1, c2]) ts[k]) :
    FillT T w (((w1.setCell ⟨w.heap.size, k * 3, none⟩ c0).setCell ⟨w.heap.size, k * 3 + 1, none⟩ c1).setCell ⟨w.heap.size, k * 3 + 2, none⟩ c2) ts (k + 1) := by
  obtain ⟨hG, C, hC, hb, hi⟩ := h
  have hlt := hb.lt
  have kf : KF (w.heap.size + 1) wr (((w1.setCell ⟨w.heap.size, k * 3, none⟩ c0).setCell ⟨w.heap.size, k * 3 + 1, none⟩ c1).setCell ⟨w.heap.size, k * 3 + 2, none⟩ c2) :=
    (((hg.kf _).trans (KF.set _ (by omega)) hg.size).trans (KF.set _ (by omega)) (by rw [sz_set]; exact hg.size)).trans (KF.set _ (by omega)) (by rw [sz_set, sz_set]; exact hg.size)
  have kf1 : KF (w.heap.size + 1) w1 (((w1.setCell ⟨w.heap.size, k * 3, none⟩ c0).setCell ⟨w.heap.size, k * 3 + 1, none⟩ c1).setCell ⟨w.heap.size, k * 3 + 2, none⟩ c2) :=
    ((KF.set w1 (by omega)).trans (KF.set _ (by omega)) (by rw [sz_set]; exact Nat.le_refl _)).trans (KF.set _ (by omega)) (by rw [sz_set, sz_set]; exact Nat.le_refl _)
  refine ⟨((((hG.trans hg).set (Nat.le_refl _)).set (Nat.le_refl _)).set (Nat.le_refl _)), _, ?_, (((hb.gr hg).set_).set_).set_, fun i hil hik => ?_⟩
  · simp [hC]
  · by_cases h1 : i = k
    · subst h1
      exact ⟨c0, c1, c2, by simp [Array.getElem?_setIfInBounds]; omega, by simp [Array.getElem?_setIfInBounds]; omega, by simp [Array.getElem?_setIfInBounds]; omega, (ht.low (by omega)).kf kf1⟩
    · obtain ⟨d0, d1, d2, e0, e1, e2, hd⟩ := hi i hil (by omega)
      refine ⟨d0, d1, d2, ?_, ?_, ?_, hd.kf kf⟩
      · rw [Array.getElem?_setIfInBounds_ne (by omega), Array.getElem?_setIfInBounds_ne (by omega), Array.getElem?_setIfInBounds_ne (by omega)]; exact e0
      · rw [Array.getElem?_setIfInBounds_ne (by omega), Array.getElem?_setIfInBounds_ne (by omega), Array.getElem?_setIfInBounds_ne (by omega)]; exact e1
      · rw [Array.getElem?_setIfInBounds_ne (by omega), Array.getElem?_setIfInBounds_ne (by omega), Array.getElem?_setIfInBounds_ne (by omega)]; exact e2
theorem FillT.done {T : TypeId} {w wr : World} {ts : List Tr} {k : Nat} (h : FillT T w wr ts k) (hk : ts.length ≤ k) : NewTrL w ts (.returned (.slice (some ⟨w.heap.size, 0, none⟩) ts.length ts.length)) wr := by
  obtain ⟨hG, C, hC, hb, hi⟩ := h
  refine ⟨_, _, rfl, hG, TL.of _ _ fun i hil => ?_⟩
  obtain ⟨d0, d1, d2, e0, e1, e2, hd⟩ := hi i hil (by omega)
  refine ⟨_, d0, d1, d2, rfl, Nat.le_refl _, fun j hj => ?_, hd.low (by omega)⟩
  rw [add0, add0, hb.c]
  match j, hj with
  | 0, _ => simpa using e0
  | 1, _ => simpa using e1
  | 2, _ => simpa using e2
end Go.Proofs.Ytnooaggphajllaa
