/-
  Successors gathered from edges, plain; rows of which some are nil. No conditions.
-/
import Derived.Test.YtkjimmkemnmajaaJ8
import Derived.Test.YtkjimmkemnmajaaTr
namespace Go.Proofs.Ytkjimmkemnmajaa.Vm
open Go
set_option linter.unusedVariables false
set_option linter.unusedSimpArgs false
set_option maxRecDepth 200000

def oNd (x : List Int) : D := if x = [] then .nil else .fr 1 x.length (cat cI x)
def oN (x : List Int) : List D := [oNd x]
theorem oNd_nil : oNd [] = .nil := rfl
theorem oNd_cons {x : List Int} (h : ¬ x = []) : oNd x = .fr 1 x.length (cat cI x) := by rw [oNd, if_neg h]
theorem oNd_leaf (x : List Int) : leaf (oNd x) = true := by
  unfold oNd; split <;> rfl
theorem oNd_dat (x : List Int) : dat (oNd x) = li cI x := by
  by_cases h : x = []
  · subst h; simp [oNd_nil, dat, li, cat]
  · rw [oNd_cons h]; exact fr_dat x
instance : Wide oN 1 := ⟨fun _ => rfl, by omega, fun a => by simp [oN, oNd_leaf]⟩
instance : Own oN cL 2 := ⟨fun a => by
    by_cases h : a = []
    · subst h; simp [oN, oNd_nil, closedL, closed]
    · simp [oN, oNd_cons h, closedL]; exact fr_closed a, fun a => by simp [oN, cL, oNd_dat], fun a N => by
    by_cases h : a = []
    · subst h; simp [oN, oNd_nil, bndL, bnd]
    · simp only [oN, oNd_cons h]; exact ⟨fr_bnd N a, trivial⟩, fun a H j hj => by
    by_cases h : a = []
    · subst h
      obtain ⟨j, rfl⟩ : ∃ i, j = i + 1 := ⟨j - 1, by omega⟩
      simp [oN, oNd_nil, deref, cL, li, cat]
    · simp only [oN, oNd_cons h, cL, List.map_cons, List.map_nil]
      have := fr_deref (sz := 1) (f := cI) H hj a
      simpa [fr] using this⟩
theorem oN_set {xs : List (List Int)} {i : Nat} {junk : List D} {y : List Int} (h : i < xs.length) : (cat oN xs ++ junk).set i (oNd y) = cat oN (xs.set i y) ++ junk := cat_set1 h rfl
theorem oN_rep (n : Nat) : cat oN (List.replicate n []) = List.replicate n .nil := by
  induction n with
  | zero => rfl
  | succ n ih => rw [List.replicate_succ, List.replicate_succ, cat_cons, ih]; rfl
theorem oN_get {xs : List (List Int)} {i : Nat} (h : i < xs.length) (junk : List D) : (cat oN xs ++ junk).getD i .any = oNd (nth xs i) := by
  have h1 : i < (cat oN xs).length := by rw [zaaj]; omega
  rw [List.getD_eq_getElem?_getD, List.getElem?_append_left h1]
  have := cat_get1 (f := oN) h
  rw [List.getD_eq_getElem?_getD] at this
  exact this
def addE (r : List (List Int)) (f t : Int) : List (List Int) := r.set f.toNat (nth r f.toNat ++ [t])
theorem addE_len (r : List (List Int)) (f t : Int) : (addE r f t).length = r.length := by simp [addE]
theorem nth_addE {r : List (List Int)} {f t : Int} {i : Nat} (hf : f.toNat < r.length) : nth (addE r f t) i = if f.toNat = i then nth r i ++ [t] else nth r i := by
  unfold addE
  by_cases e : f.toNat = i
  · subst e; rw [nth_set_self hf, if_pos rfl]
  · rw [nth_set_ne e, if_neg e]
theorem mem_addE {r : List (List Int)} {f t : Int} {i : Nat} (hf : f.toNat < r.length) (y : Int) : y ∈ nth (addE r f t) i ↔ y ∈ nth r i ∨ (f.toNat = i ∧ y = t) := by
  rw [nth_addE hf]
  split
  · rename_i e; simp [e]
  · rename_i e; simp [e]
def addD (r : List (List Int)) (f t : Int) : List (List Int) := if t ∈ nth r f.toNat then r else addE r f t
theorem addD_len (r : List (List Int)) (f t : Int) : (addD r f t).length = r.length := by unfold addD; split; rfl; exact addE_len ..
theorem mem_addD {r : List (List Int)} {f t : Int} {i : Nat} (hf : f.toNat < r.length) (y : Int) : y ∈ nth (addD r f t) i ↔ y ∈ nth r i ∨ (f.toNat = i ∧ y = t) := by
  unfold addD
  split
  · rename_i h
    constructor
    · exact .inl
    · rintro (q | ⟨rfl, rfl⟩)
      · exact q
      · exact h
  · exact mem_addE hf y
def InRng (n : Nat) (es : List Tr4) : Prop := ∀ i, i < es.length → (0 ≤ (nth es i).1 ∧ (nth es i).1 < n) ∧ 0 ≤ (nth es i).2.2.2 ∧ (nth es i).2.2.2 < n
def nxE (n : Nat) (es : List Tr4) (k : Nat) : List (List Int) := (es.take k).foldl (fun r e => addE r e.1 e.2.2.2) (List.replicate n [])
def nxD (n : Nat) (es : List Tr4) (k : Nat) : List (List Int) := (es.take k).foldl (fun r e => addD r e.1 e.2.2.2) (List.replicate n [])
theorem nxE_zero (n : Nat) (es : List Tr4) : nxE n es 0 = List.replicate n [] := by simp [nxE]
theorem nxD_zero (n : Nat) (es : List Tr4) : nxD n es 0 = List.replicate n [] := by simp [nxD]
theorem nxE_succ {n : Nat} {es : List Tr4} {k : Nat} (h : k < es.length) : nxE n es (k + 1) = addE (nxE n es k) (nth es k).1 (nth es k).2.2.2 := by
  unfold nxE; rw [List.take_succ_eq_append_getElem h, ← nth_lt h, List.foldl_append]; rfl
theorem nxD_succ {n : Nat} {es : List Tr4} {k : Nat} (h : k < es.length) : nxD n es (k + 1) = addD (nxD n es k) (nth es k).1 (nth es k).2.2.2 := by
  unfold nxD; rw [List.take_succ_eq_append_getElem h, ← nth_lt h, List.foldl_append]; rfl
theorem nxE_len (n : Nat) (es : List Tr4) : ∀ k, k ≤ es.length → (nxE n es k).length = n
  | 0, _ => by simp [nxE]
  | k + 1, h => by rw [nxE_succ (by omega), addE_len, nxE_len n es k (by omega)]
theorem nxD_len (n : Nat) (es : List Tr4) : ∀ k, k ≤ es.length → (nxD n es k).length = n
  | 0, _ => by simp [nxD]
  | k + 1, h => by rw [nxD_succ (by omega), addD_len, nxD_len n es k (by omega)]
theorem nxE_row {n : Nat} {es : List Tr4} (hr : InRng n es) : ∀ k, k ≤ es.length → ∀ i, (nth (nxE n es k) i).length ≤ k
  | 0, _, i => by
    rw [nxE_zero]
    simp only [nth, List.getD_eq_getElem?_getD]
    rcases Nat.lt_or_ge i n with q | q
    · simp [q]
    · rw [List.getElem?_eq_none (by simpa using q)]; simp [default]
  | k + 1, h, i => by
    have ih := nxE_row hr k (by omega) i
    have hk := (hr k (by omega)).1
    rw [nxE_succ (by omega), nth_addE (by rw [nxE_len n es k (by omega)]; omega)]
    split
    · simp; omega
    · omega
theorem nx_same {n : Nat} {es : List Tr4} (hr : InRng n es) : ∀ k, k ≤ es.length → ∀ i y, y ∈ nth (nxE n es k) i ↔ y ∈ nth (nxD n es k) i
  | 0, _, i, y => by rw [nxE_zero, nxD_zero]
  | k + 1, h, i, y => by
    have ih := nx_same hr k (by omega) i y
    have hk := (hr k (by omega)).1
    rw [nxE_succ (by omega), nxD_succ (by omega), mem_addE (by rw [nxE_len n es k (by omega)]; omega), mem_addD (by rw [nxD_len n es k (by omega)]; omega), ih]
theorem nx_sameN {n : Nat} {es : List Tr4} (hr : InRng n es) : SameN (nxE n es es.length) (nxD n es es.length) :=
  ⟨by rw [nxE_len n es _ (Nat.le_refl _), nxD_len n es _ (Nat.le_refl _)], fun i _ y => nx_same hr _ (Nat.le_refl _) i y⟩
theorem nxE_rng {n : Nat} {es : List Tr4} (hr : InRng n es) : ∀ k, k ≤ es.length → ∀ i y, y ∈ nth (nxE n es k) i → 0 ≤ y ∧ y < n
  | 0, _, i, y => by
    rw [nxE_zero]
    simp only [nth, List.getD_eq_getElem?_getD]
    rcases Nat.lt_or_ge i n with q | q
    · simp [q]
    · rw [List.getElem?_eq_none (by simpa using q)]; simp [default]
  | k + 1, h, i, y => by
    have ih := nxE_rng hr k (by omega) i y
    have hk := (hr k (by omega)).1
    rw [nxE_succ (by omega), mem_addE (by rw [nxE_len n es k (by omega)]; omega)]
    rintro (q | ⟨_, rfl⟩)
    · exact ih q
    · exact (hr k (by omega)).2
theorem nxE_ok {n : Nat} {es : List Tr4} (hr : InRng n es) : NextOk (nxE n es es.length) := fun j hj k hk => by
  have := nxE_rng hr es.length (Nat.le_refl _) j _ (nth_mem hk)
  rw [nxE_len n es _ (Nat.le_refl _)]; exact this
theorem nxD_ok {n : Nat} {es : List Tr4} (hr : InRng n es) : NextOk (nxD n es es.length) := (nx_sameN hr).nextOk (nxE_ok hr)
theorem nxD_row {n : Nat} {es : List Tr4} (hr : InRng n es) : ∀ k, k ≤ es.length → ∀ i, (nth (nxD n es k) i).length ≤ k
  | 0, _, i => by
    rw [nxD_zero]
    simp only [nth, List.getD_eq_getElem?_getD]
    rcases Nat.lt_or_ge i n with q | q
    · simp [q]
    · rw [List.getElem?_eq_none (by simpa using q)]; simp [default]
  | k + 1, h, i => by
    have ih := nxD_row hr k (by omega) i
    have hk := (hr k (by omega)).1
    rw [nxD_succ (by omega), addD]
    split
    · omega
    · rw [nth_addE (by rw [nxD_len n es k (by omega)]; omega)]
      split
      · simp; omega
      · omega
theorem nxE_nextS {n : Nat} {es : List Tr4} (hr : InRng n es) (h : es.length ≤ 1048576) : NextS (nxE n es es.length) := fun j hj => Nat.le_trans (nxE_row hr _ (Nat.le_refl _) j) h
theorem nxD_nextS {n : Nat} {es : List Tr4} (hr : InRng n es) (h : es.length ≤ 1048576) : NextS (nxD n es es.length) := fun j hj => Nat.le_trans (nxD_row hr _ (Nat.le_refl _) j) h

def Liv (nx : List (List Int)) (acc : List Bool) (ss : List Int) : Prop := ∃ x, Nd nx x ∧ RchS nx ss x ∧ Cyc nx x ∧ nth acc x.toNat = true
noncomputable def livL (nx : List (List Int)) (acc : List Bool) : List Bool := (List.range nx.length).map fun i : Nat => Vm.B (Liv nx acc [(i : Int)])
theorem livL_len (nx : List (List Int)) (acc : List Bool) : (livL nx acc).length = nx.length := by simp [livL]
theorem SameN.liv {nx my : List (List Int)} (h : SameN nx my) (hx : NextOk nx) {acc : List Bool} {ss : List Int} (hs : ∀ s, s ∈ ss → Nd nx s) : Liv nx acc ss ↔ Liv my acc ss := by
  constructor
  · rintro ⟨x, x1, ⟨s, s1, s2⟩, x3, x4⟩
    exact ⟨x, ⟨x1.1, by rw [← h.1]; exact x1.2⟩, ⟨s, s1, (h.rch_iff hx (hs s s1)).1 s2⟩, (h.cyc hx x1).1 x3, x4⟩
  · rintro ⟨x, x1, ⟨s, s1, s2⟩, x3, x4⟩
    have x1' : Nd nx x := ⟨x1.1, by rw [h.1]; exact x1.2⟩
    exact ⟨x, x1', ⟨s, s1, (h.rch_iff hx (hs s s1)).2 s2⟩, (h.cyc hx x1').2 x3, x4⟩
end Go.Proofs.Ytkjimmkemnmajaa.Vm

