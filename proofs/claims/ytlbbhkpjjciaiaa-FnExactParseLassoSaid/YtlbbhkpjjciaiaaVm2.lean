/-
  States of the abstract machine, and what it is for a frame and a world to read as one. No conditions; nothing of the program is named here.
-/
import Derived.Test.YtlbbhkpjjciaiaaVm1
namespace Go.Proofs.Ytlbbhkpjjciaiaa.Vm
open Go
set_option linter.unusedVariables false
set_option linter.unusedSimpArgs false
set_option linter.unusedSectionVars false

inductive Root where
  | slot (t : Nat)
  | cell (b i : Nat)
  | blk (b : Nat)
  | bag
  deriving DecidableEq

def upd {α : Type} (f : Nat → α) (a : Nat) (x : α) : Nat → α := fun b => if b = a then x else f b
theorem upd_eq {α : Type} (f : Nat → α) (a : Nat) (x : α) : upd f a x a = x := by simp [upd]
theorem upd_ne {α : Type} {f : Nat → α} {a b : Nat} {x : α} (h : b ≠ a) : upd f a x b = f b := by simp [upd, h]

theorem upd_self {α : Type} {f : Nat → α} {a : Nat} {x : α} (h : f a = x) : upd f a x = f := by
  funext b
  by_cases e : b = a
  · subst e; rw [upd_eq, h]
  · rw [upd_ne e]
/-- A state: what the slots bear, and the named blocks. -/
structure St where
  T : Nat → D
  H : Nat → Option (List D)
/-- Where a walk began: its world, the blocks that it was handed to write, and those that it was handed to read. -/
structure Base where
  w0 : World
  K : Nat → Prop
  J : Nat → Prop
  μ0 : Nat → Nat
  N0 : Nat

/-- Blocks of before that are not K's are as they were. -/
structure Frm (w0 : World) (K : Nat → Prop) (w : World) : Prop where
  os : w.os = w0.os
  tape : w.tape = w0.tape
  output : w.output = w0.output
  size : w0.heap.size ≤ w.heap.size
  same : ∀ b, b < w0.heap.size → ¬ K b → w.heap[b]? = w0.heap[b]?
theorem Frm.weaken {w0 w : World} {K K' : Nat → Prop} (h : Frm w0 K w) (k : ∀ x, K x → K' x) : Frm w0 K' w := ⟨h.os, h.tape, h.output, h.size, fun b hb hk => h.same b hb fun hx => hk (k b hx)⟩
theorem Frm.refl (w : World) (K : Nat → Prop) : Frm w K w := ⟨rfl, rfl, rfl, Nat.le_refl _, fun _ _ _ => rfl⟩

/-- Blocks that are shared data. -/
def Im (B : Base) (w : World) (fp : Root → List Nat) (x : Nat) : Prop := x < w.heap.size ∧ (B.J x ∨ B.w0.heap.size ≤ x) ∧ ∀ r, x ∉ fp r

/-- A named block. -/
def Chunk (μ : Nat → Nat) (I : Nat → Prop) (w : World) (fp : Root → List Nat) (b : Nat) (cs : List D) : Prop :=
  (cs = [] ∧ fp (.blk b) = [] ∧ ∀ i, fp (.cell b i) = []) ∨
  ∃ cells, Whole w (μ b) cells ∧ cells.size = cs.length ∧ fp (.blk b) = [μ b] ∧ (∀ (i : Nat) (d : D), cs[i]? = some d → ∃ v, cells[i]? = some v ∧ Rep μ I w d v (fp (.cell b i))) ∧ ∀ i, cs.length ≤ i → fp (.cell b i) = []

structure R (B : Base) (n : Nat) (S : St) (ds : List D) (vs : List Value) (a : Act) (w : World) (μ : Nat → Nat) (fp : Root → List Nat) (N : Nat) : Prop where
  len : a.tmps.size = n
  dfs : a.defers = []
  frm : Frm B.w0 B.K w
  jk : ∀ x, B.J x → x < B.w0.heap.size ∧ ¬ B.K x
  own : ∀ r x, x ∈ fp r → (B.K x ∨ B.w0.heap.size ≤ x) ∧ x < w.heap.size
  nod : ∀ r, (fp r).Nodup
  dis : ∀ r r' x, x ∈ fp r → x ∈ fp r' → r = r'
  tm : ∀ t, Rep μ (Im B w fp) w (S.T t) (a.tmps.getD t undef) (fp (.slot t))
  bg : RepL μ (Im B w fp) w ds vs (fp .bag)
  hp : ∀ b cs, S.H b = some cs → Chunk μ (Im B w fp) w fp b cs
  hn : ∀ b, S.H b = none → fp (.blk b) = [] ∧ ∀ i, fp (.cell b i) = []
  bT : ∀ t, bnd N (S.T t)
  bB : bndL N ds
  bH : ∀ b cs, S.H b = some cs → b < N ∧ bndL N cs
  rn : B.N0 ≤ N ∧ ∀ b, b < B.N0 → μ b = B.μ0 b

section
variable {B : Base} {n : Nat} {S : St} {ds : List D} {vs : List Value} {a : Act} {w : World} {μ : Nat → Nat} {fp fp' : Root → List Nat} {N : Nat}

theorem Im.sub (h : ∀ r x, x ∈ fp' r → ∃ r', x ∈ fp r') {x : Nat} (k : Im B w fp x) : Im B w fp' x :=
  ⟨k.1, k.2.1, fun r hx => by obtain ⟨r', h'⟩ := h r x hx; exact k.2.2 r' h'⟩
theorem Rep.sub {d : D} {v : Value} {f : List Nat} (h : ∀ r x, x ∈ fp' r → ∃ r', x ∈ fp r') (k : Rep μ (Im B w fp) w d v f) : Rep μ (Im B w fp') w d v f :=
  Rep.mono (fun _ hb => ⟨hb.sub h, rfl⟩) (fun _ _ => rfl) k
theorem RepL.sub {d : List D} {v : List Value} {f : List Nat} (h : ∀ r x, x ∈ fp' r → ∃ r', x ∈ fp r') (k : RepL μ (Im B w fp) w d v f) : RepL μ (Im B w fp') w d v f :=
  RepL.mono (fun _ hb => ⟨hb.sub h, rfl⟩) (fun _ _ => rfl) k
theorem Chunk.sub {b : Nat} {cs : List D} (h : ∀ r x, x ∈ fp' r → ∃ r', x ∈ fp r') (h1 : fp' (.blk b) = fp (.blk b)) (h2 : ∀ i, fp' (.cell b i) = fp (.cell b i)) (k : Chunk μ (Im B w fp) w fp b cs) : Chunk μ (Im B w fp') w fp' b cs := by
  rcases k with ⟨k1, k2, k3⟩ | ⟨cells, k1, k2, k3, k4, k5⟩
  · exact .inl ⟨k1, h1.trans k2, fun i => (h2 i).trans (k3 i)⟩
  · refine .inr ⟨cells, k1, k2, h1.trans k3, fun i d hd => ?_, fun i hi => (h2 i).trans (k5 i hi)⟩
    obtain ⟨v, hv, hr⟩ := k4 i d hd
    rw [h2 i]
    exact ⟨v, hv, hr.sub h⟩

/-- A footprint function changed at one root. -/
def fset (fp : Root → List Nat) (r : Root) (l : List Nat) : Root → List Nat := fun r' => if r' = r then l else fp r'
theorem fset_eq (r : Root) (l : List Nat) : fset fp r l r = l := by simp [fset]
theorem fset_ne {r r' : Root} {l : List Nat} (h : r' ≠ r) : fset fp r l r' = fp r' := by simp [fset, h]

/-- The same roots, footprints moved or dropped. -/
structure Moves (fp fp' : Root → List Nat) : Prop where
  sub : ∀ r x, x ∈ fp' r → ∃ r', x ∈ fp r'
  nod : ∀ r, (fp' r).Nodup
  dis : ∀ r r' x, x ∈ fp' r → x ∈ fp' r' → r = r'
theorem Moves.drop (h1 : ∀ r, (fp r).Nodup) (h2 : ∀ r r' x, x ∈ fp r → x ∈ fp r' → r = r') (h : ∀ r, fp' r = fp r ∨ fp' r = []) : Moves fp fp' where
  sub r x hx := by
    rcases h r with e | e
    · rw [e] at hx; exact ⟨r, hx⟩
    · rw [e] at hx; cases hx
  nod r := by
    rcases h r with e | e
    · rw [e]; exact h1 r
    · rw [e]; exact .nil
  dis r r' x hx hy := by
    rcases h r with e | e
    · rcases h r' with e' | e'
      · rw [e] at hx; rw [e'] at hy; exact h2 r r' x hx hy
      · rw [e'] at hy; cases hy
    · rw [e] at hx; cases hx
/-- Where the changed roots p, q hold together what they held before. -/
theorem Moves.two (h1 : ∀ r, (fp r).Nodup) (h2 : ∀ r r' x, x ∈ fp r → x ∈ fp r' → r = r') {p q : Root} {l m : List Nat} (hpq : p ≠ q)
    (hs : ∀ x, x ∈ l ∨ x ∈ m → x ∈ fp p ∨ x ∈ fp q) (hl : l.Nodup) (hm : m.Nodup) (hd : ∀ x, x ∈ l → x ∉ m) : Moves fp (fset (fset fp p l) q m) where
  sub r x hx := by
    by_cases e1 : r = q
    · subst e1; rw [fset_eq] at hx
      rcases hs x (.inr hx) with h | h <;> exact ⟨_, h⟩
    · rw [fset_ne e1] at hx
      by_cases e2 : r = p
      · subst e2; rw [fset_eq] at hx
        rcases hs x (.inl hx) with h | h <;> exact ⟨_, h⟩
      · rw [fset_ne e2] at hx; exact ⟨_, hx⟩
  nod r := by
    by_cases e1 : r = q
    · subst e1; rw [fset_eq]; exact hm
    · rw [fset_ne e1]
      by_cases e2 : r = p
      · subst e2; rw [fset_eq]; exact hl
      · rw [fset_ne e2]; exact h1 r
  dis r r' x hx hy := by
    have key : ∀ r, x ∈ fset (fset fp p l) q m r → (r = q ∧ x ∈ m) ∨ (r = p ∧ x ∈ l) ∨ (r ≠ p ∧ r ≠ q ∧ x ∈ fp r) := by
      intro r hx
      by_cases e1 : r = q
      · subst e1; rw [fset_eq] at hx; exact .inl ⟨rfl, hx⟩
      · rw [fset_ne e1] at hx
        by_cases e2 : r = p
        · subst e2; rw [fset_eq] at hx; exact .inr (.inl ⟨rfl, hx⟩)
        · rw [fset_ne e2] at hx; exact .inr (.inr ⟨e2, e1, hx⟩)
    have none : ∀ r, r ≠ p → r ≠ q → x ∈ fp r → x ∈ l ∨ x ∈ m → False := by
      intro r e1 e2 hx h
      rcases hs x h with h | h
      · exact e1 (h2 _ _ _ hx h)
      · exact e2 (h2 _ _ _ hx h)
    rcases key r hx with ⟨e, h⟩ | ⟨e, h⟩ | ⟨e, e', h⟩ <;> rcases key r' hy with ⟨k, g⟩ | ⟨k, g⟩ | ⟨k, k', g⟩
    · rw [e, k]
    · exact (hd x g h).elim
    · exact (none _ k k' g (.inr h)).elim
    · exact (hd x h g).elim
    · rw [e, k]
    · exact (none _ k k' g (.inl h)).elim
    · exact (none _ e e' h (.inr g)).elim
    · exact (none _ e e' h (.inl g)).elim
    · exact h2 _ _ _ h g

theorem R.own' (h : R B n S ds vs a w μ fp N) (m : Moves fp fp') : ∀ r x, x ∈ fp' r → (B.K x ∨ B.w0.heap.size ≤ x) ∧ x < w.heap.size := fun r x hx => by
  obtain ⟨r', h'⟩ := m.sub r x hx
  exact h.own r' x h'

/-- A slot is read: what it owns goes with it. -/
def grab (T : Nat → D) (t : Nat) : Nat → D := if owns (T t) then upd T t .any else T
theorem grab_no {T : Nat → D} {t : Nat} (h : owns (T t) = false) : grab T t = T := by simp [grab, h]
theorem nodup_app {l m : List Nat} (h1 : l.Nodup) (h2 : m.Nodup) (h3 : ∀ x, x ∈ l → x ∉ m) : (l ++ m).Nodup := by
  rw [List.nodup_append]
  exact ⟨h1, h2, fun a ha b hb e => h3 a ha (e ▸ hb)⟩
theorem R.grab (h : R B n S ds vs a w μ fp N) (t : Nat) :
    ∃ fp', R B n ⟨grab S.T t, S.H⟩ (ds ++ [S.T t]) (vs ++ [a.tmps.getD t undef]) a w μ fp' N := by
  by_cases ho : owns (S.T t) = true
  · have hm := Moves.two (fp := fp) (p := .slot t) (q := .bag) (l := []) (m := fp .bag ++ fp (.slot t)) h.nod h.dis (by simp) (by simp [or_comm]) .nil
      (nodup_app (h.nod _) (h.nod _) fun x hx hy => by have := h.dis _ _ x hx hy; cases this) (by simp)
    refine ⟨fset (fset fp (.slot t) []) .bag (fp .bag ++ fp (.slot t)), h.len, h.dfs, h.frm, h.jk, h.own' hm, hm.nod, hm.dis, ?_, ?_, ?_, ?_, ?_, ?_, h.bH, h.rn⟩
    · intro t'
      rw [fset_ne (by simp)]
      by_cases e : t' = t
      · subst e
        simp [Vm.grab, ho, upd_eq, Rep, fset_eq]
      · rw [fset_ne (by simp [e])]
        simp only [Vm.grab, ho, if_true]
        rw [upd_ne e]
        exact (h.tm t').sub hm.sub
    · rw [fset_eq]
      exact RepL.append (by simp only [RepL]; exact ⟨_, [], _, [], rfl, by simp, (h.tm t).sub hm.sub, rfl, rfl⟩) (h.bg.sub hm.sub)
    · intro b cs hc
      exact (h.hp b cs hc).sub hm.sub (by simp [fset]) (by simp [fset])
    · intro b hb
      have := h.hn b hb
      simp [fset, this]
    · intro t'
      simp only [Vm.grab, ho, if_true, upd]
      split
      · simp [bnd]
      · exact h.bT t'
    · rw [bndL_iff]
      intro d hd
      rcases List.mem_append.1 hd with hd | hd
      · exact bndL_iff.1 h.bB d hd
      · simp at hd; subst hd; exact h.bT t
  · have ho : owns (S.T t) = false := by simpa using ho
    refine ⟨fp, h.len, h.dfs, h.frm, h.jk, h.own, h.nod, h.dis, ?_, ?_, h.hp, h.hn, ?_, ?_, h.bH, h.rn⟩
    · simp only [grab_no ho]; exact h.tm
    · have e : fp (.slot t) = [] := (h.tm t).free ho
      have := RepL.append (ds := ds) (by simp only [RepL]; exact ⟨_, [], _, [], rfl, by simp, h.tm t, rfl, rfl⟩ : RepL μ (Im B w fp) w [S.T t] [a.tmps.getD t undef] (fp (.slot t))) h.bg
      rwa [e, List.append_nil] at this
    · simp only [grab_no ho]; exact h.bT
    · rw [bndL_iff]
      intro d hd
      rcases List.mem_append.1 hd with hd | hd
      · exact bndL_iff.1 h.bB d hd
      · simp at hd; subst hd; exact h.bT t
/-- A value that owns nothing and names nothing joins the bag. -/
theorem R.join (h : R B n S ds vs a w μ fp N) {d : D} {v : Value} (hr : Rep μ (Im B w fp) w d v []) (hb : bnd N d) : R B n S (ds ++ [d]) (vs ++ [v]) a w μ fp N :=
  { h with
    bg := by
      have := RepL.append (ds := ds) (by simp only [RepL]; exact ⟨_, [], _, [], rfl, by simp, hr, rfl, rfl⟩ : RepL μ (Im B w fp) w [d] [v] []) h.bg
      rwa [List.append_nil] at this
    bB := by
      rw [bndL_iff]
      intro e he
      rcases List.mem_append.1 he with he | he
      · exact bndL_iff.1 h.bB e he
      · simp at he; subst he; exact hb }
/-- The bag's first value goes to a slot. -/
theorem R.put {d : D} {v : Value} (h : R B n S (d :: ds) (v :: vs) a w μ fp N) {t : Nat} (ht : t < n) : ∃ fp', R B n ⟨upd S.T t d, S.H⟩ ds vs (a.put (some t) v) w μ fp' N := by
  have hbg := h.bg
  simp only [RepL] at hbg
  obtain ⟨v', vs', f1, f2, he, hf, h1, h2⟩ := hbg
  cases he
  have hnod : (f1 ++ f2).Nodup := hf ▸ h.nod .bag
  have hm := Moves.two (fp := fp) (p := .slot t) (q := .bag) (l := f1) (m := f2) h.nod h.dis (by simp) (fun x hx => .inr (by rw [hf]; simpa using hx)) (List.nodup_append.1 hnod).1 (List.nodup_append.1 hnod).2.1
    fun x hx hy => (List.nodup_append.1 hnod).2.2 x hx x hy rfl
  refine ⟨fset (fset fp (.slot t) f1) .bag f2, by simp [Act.put, h.len], h.dfs, h.frm, h.jk, h.own' hm, hm.nod, hm.dis, ?_, ?_, ?_, ?_, ?_, ?_, h.bH, h.rn⟩
  · intro t'
    rw [fset_ne (by simp)]
    by_cases e : t' = t
    · subst e
      rw [fset_eq]
      simp only [upd_eq, Act.put]
      rw [Array.getD_eq_getD_getElem?, Array.getElem?_setIfInBounds]
      simp only [if_true]
      rw [if_pos (by rw [h.len]; exact ht)]
      exact h1.sub hm.sub
    · rw [fset_ne (by simp [e])]
      simp only [Act.put]
      rw [upd_ne e, Array.getD_eq_getD_getElem?, Array.getElem?_setIfInBounds, if_neg (fun h => e h.symm), ← Array.getD_eq_getD_getElem?]
      exact (h.tm t').sub hm.sub
  · rw [fset_eq]; exact h2.sub hm.sub
  · intro b cs hc
    exact (h.hp b cs hc).sub hm.sub (by simp [fset]) (by simp [fset])
  · intro b hb
    have := h.hn b hb
    simp [fset, this]
  · intro t'
    simp only [upd]
    split
    · have := h.bB; simp only [bndL] at this; exact this.1
    · exact h.bT t'
  · have := h.bB; simp only [bndL] at this; exact this.2
theorem R.unbag {d : D} {v : Value} (h : R B n S (d :: ds) (v :: vs) a w μ fp N) : ∃ fp', R B n S ds vs a w μ fp' N := by
  have hbg := h.bg
  simp only [RepL] at hbg
  obtain ⟨v', vs', f1, f2, he, hf, h1, h2⟩ := hbg
  cases he
  have hnod : (f1 ++ f2).Nodup := hf ▸ h.nod .bag
  have hm : Moves fp (fset fp .bag f2) := by
    have := Moves.two (fp := fp) (p := .blk 0) (q := .bag) (l := fp (.blk 0)) (m := f2) h.nod h.dis (by simp) (fun x hx => by rw [hf]; rcases hx with hx | hx; exact .inl hx; exact .inr (by simp [hx])) (h.nod _) (List.nodup_append.1 hnod).2.1
      fun x hx hy => by have := h.dis (.blk 0) .bag x hx (by rw [hf]; simp [hy]); cases this
    have e : fset (fset fp (.blk 0) (fp (.blk 0))) .bag f2 = fset fp .bag f2 := by funext r; simp only [fset]; split <;> simp_all
    rwa [e] at this
  refine ⟨_, h.len, h.dfs, h.frm, h.jk, h.own' hm, hm.nod, hm.dis, ?_, ?_, ?_, ?_, h.bT, ?_, h.bH, h.rn⟩
  · intro t'; rw [fset_ne (by simp)]; exact (h.tm t').sub hm.sub
  · rw [fset_eq]; exact h2.sub hm.sub
  · intro b cs hc
    exact (h.hp b cs hc).sub hm.sub (by simp [fset]) (by simp [fset])
  · intro b hb
    have := h.hn b hb
    simp [fset, this]
  · have := h.bB; simp only [bndL] at this; exact this.2
/-- The bag's first value is what a slot bears already. -/
theorem R.putback {d : D} {t : Nat} (h : R B n S (d :: ds) (a.tmps.getD t undef :: vs) a w μ fp N) : ∃ fp', R B n ⟨upd S.T t d, S.H⟩ ds vs a w μ fp' N := by
  have hbg := h.bg
  simp only [RepL] at hbg
  obtain ⟨v', vs', f1, f2, he, hf, h1, h2⟩ := hbg
  simp only [List.cons.injEq] at he
  obtain ⟨he, he'⟩ := he
  subst he'
  rw [← he] at h1
  clear he
  have hnod : (f1 ++ f2).Nodup := hf ▸ h.nod .bag
  have hm := Moves.two (fp := fp) (p := .slot t) (q := .bag) (l := f1) (m := f2) h.nod h.dis (by simp) (fun x hx => .inr (by rw [hf]; simpa using hx)) (List.nodup_append.1 hnod).1 (List.nodup_append.1 hnod).2.1
    fun x hx hy => (List.nodup_append.1 hnod).2.2 x hx x hy rfl
  refine ⟨fset (fset fp (.slot t) f1) .bag f2, h.len, h.dfs, h.frm, h.jk, h.own' hm, hm.nod, hm.dis, ?_, ?_, ?_, ?_, ?_, ?_, h.bH, h.rn⟩
  · intro t'
    rw [fset_ne (by simp)]
    by_cases e : t' = t
    · subst e
      rw [fset_eq]
      simp only [upd_eq]
      exact h1.sub hm.sub
    · rw [fset_ne (by simp [e])]
      dsimp only
      rw [upd_ne e]
      exact (h.tm t').sub hm.sub
  · rw [fset_eq]; exact h2.sub hm.sub
  · intro b cs hc
    exact (h.hp b cs hc).sub hm.sub (by simp [fset]) (by simp [fset])
  · intro b hb
    have := h.hn b hb
    simp [fset, this]
  · intro t'
    simp only [upd]
    split
    · have := h.bB; simp only [bndL] at this; exact this.1
    · exact h.bT t'
  · have := h.bB; simp only [bndL] at this; exact this.2

/-- The drawn order's count has moved on. -/
theorem Frm.drewN {w0 w : World} {K : Nat → Prop} (h : Frm w0 K w) (k : Nat) : Frm w0 K { w with drawn := k } := ⟨h.1, h.2, h.3, h.4, h.5⟩
theorem R.drewN (h : R B n S ds vs a w μ fp N) (k : Nat) : R B n S ds vs a { w with drawn := k } μ fp N := by
  refine ⟨h.len, h.dfs, h.frm.drewN k, h.jk, h.own, h.nod, h.dis, fun t => ?_, ?_, fun b cs hc => ?_, h.hn, h.bT, h.bB, h.bH, h.rn⟩
  · exact Rep.mono (w := w) (w' := { w with drawn := k }) (I := Im B w fp) (I' := Im B { w with drawn := k } fp) (fun b hb => ⟨hb, rfl⟩) (fun _ _ => rfl) (h.tm t)
  · exact RepL.mono (w := w) (w' := { w with drawn := k }) (I := Im B w fp) (I' := Im B { w with drawn := k } fp) (fun b hb => ⟨hb, rfl⟩) (fun _ _ => rfl) h.bg
  · rcases h.hp b cs hc with k | ⟨cells, k1, k2, k3, k4, k5⟩
    · exact .inl k
    · refine .inr ⟨cells, k1, k2, k3, fun i d hd => ?_, k5⟩
      obtain ⟨v, hv, hr⟩ := k4 i d hd
      exact ⟨v, hv, Rep.mono (w := w) (w' := { w with drawn := k }) (I := Im B w fp) (I' := Im B { w with drawn := k } fp) (fun b hb => ⟨hb, rfl⟩) (fun _ _ => rfl) hr⟩

/-! ### What an operation yields -/
theorem R.resF (h : R B n S ds vs a w μ fp N) {d : D} {v : Value} {f : List Nat} (hr : Rep μ (Im B w fp) w d v f) (hf : f.Nodup) (hs : ∀ x, x ∈ f → x ∈ fp .bag) (hb : bnd N d) : ∃ fp', R B n S [d] [v] a w μ fp' N := by
  have hm : Moves fp (fset fp .bag f) := by
    have := Moves.two (fp := fp) (p := .blk 0) (q := .bag) (l := fp (.blk 0)) (m := f) h.nod h.dis (by simp) (fun x hx => by rcases hx with hx | hx; exact .inl hx; exact .inr (hs x hx)) (h.nod _) hf
      fun x hx hy => by have := h.dis (.blk 0) .bag x hx (hs x hy); cases this
    have e : fset (fset fp (.blk 0) (fp (.blk 0))) .bag f = fset fp .bag f := by funext r; simp only [fset]; split <;> simp_all
    rwa [e] at this
  refine ⟨_, h.len, h.dfs, h.frm, h.jk, h.own' hm, hm.nod, hm.dis, ?_, ?_, ?_, ?_, h.bT, ?_, h.bH, h.rn⟩
  · intro t'; rw [fset_ne (by simp)]; exact (h.tm t').sub hm.sub
  · rw [fset_eq]; simp only [RepL]; exact ⟨v, [], f, [], rfl, by simp, hr.sub hm.sub, rfl, rfl⟩
  · intro b cs hc
    exact (h.hp b cs hc).sub hm.sub (by simp [fset]) (by simp [fset])
  · intro b hb
    have := h.hn b hb
    simp [fset, this]
  · simp only [bndL]; exact ⟨hb, trivial⟩
/-- The bag in other words, less of it owned. -/
theorem R.rebagF (h : R B n S ds vs a w μ fp N) {ds' : List D} {vs' : List Value} {f : List Nat} (hr : RepL μ (Im B w fp) w ds' vs' f) (hf : f.Nodup) (hs : ∀ x, x ∈ f → x ∈ fp .bag) (hb : bndL N ds') : ∃ fp', R B n S ds' vs' a w μ fp' N := by
  have hm : Moves fp (fset fp .bag f) := by
    have := Moves.two (fp := fp) (p := .blk 0) (q := .bag) (l := fp (.blk 0)) (m := f) h.nod h.dis (by simp) (fun x hx => by rcases hx with hx | hx; exact .inl hx; exact .inr (hs x hx)) (h.nod _) hf
      fun x hx hy => by have := h.dis (.blk 0) .bag x hx (hs x hy); cases this
    have e : fset (fset fp (.blk 0) (fp (.blk 0))) .bag f = fset fp .bag f := by funext r; simp only [fset]; split <;> simp_all
    rwa [e] at this
  refine ⟨_, h.len, h.dfs, h.frm, h.jk, h.own' hm, hm.nod, hm.dis, ?_, ?_, ?_, ?_, h.bT, hb, h.bH, h.rn⟩
  · intro t'; rw [fset_ne (by simp)]; exact (h.tm t').sub hm.sub
  · rw [fset_eq]; exact hr.sub hm.sub
  · intro b cs hc
    exact (h.hp b cs hc).sub hm.sub (by simp [fset]) (by simp [fset])
  · intro b hb
    have := h.hn b hb
    simp [fset, this]
theorem R.res0 (h : R B n S ds vs a w μ fp N) {d : D} {v : Value} (hr : Rep μ (Im B w fp) w d v []) (hb : bnd N d) : ∃ fp', R B n S [d] [v] a w μ fp' N :=
  h.resF hr .nil (by simp) hb

/-- The world has grown (blocks that were there are as they were); what is yielded may own new blocks. -/
theorem R.resNew (h : R B n S ds vs a w μ fp N) {w' : World} (hw : Frm w (fun x => x ∈ fp .bag) w') {d : D} {v : Value} {f : List Nat} (hr : Rep μ (fun x => Im B w fp x ∨ (w.heap.size ≤ x ∧ x < w'.heap.size ∧ x ∉ f)) w' d v f) (hf : f.Nodup)
    (hs : ∀ x, x ∈ f → x ∈ fp .bag ∨ (w.heap.size ≤ x ∧ x < w'.heap.size)) (hb : bnd N d) : ∃ fp', R B n S [d] [v] a w' μ fp' N := by
  have hsame : ∀ x, x < w.heap.size → x ∉ fp .bag → w'.heap[x]? = w.heap[x]? := fun x hx hb => hw.same x hx hb
  have hother : ∀ r x, r ≠ .bag → x ∈ fp r → w'.heap[x]? = w.heap[x]? := fun r x hr hx => hsame x (h.own r x hx).2 fun hb => hr (h.dis r .bag x hx hb)
  have key : ∀ r x, x ∈ fset fp .bag f r → (r = .bag ∧ x ∈ f) ∨ (r ≠ .bag ∧ x ∈ fp r) := by
    intro r x hx
    by_cases e : r = .bag
    · subst e; rw [fset_eq] at hx; exact .inl ⟨rfl, hx⟩
    · rw [fset_ne e] at hx; exact .inr ⟨e, hx⟩
  have hsz := h.frm.size
  have im : ∀ x, Im B w fp x → Im B w' (fset fp .bag f) x ∧ w'.heap[x]? = w.heap[x]? := fun x hx => by
    refine ⟨⟨Nat.lt_of_lt_of_le hx.1 hw.size, hx.2.1, fun r hr => ?_⟩, hsame x hx.1 (hx.2.2 _)⟩
    rcases key r x hr with ⟨rfl, k⟩ | ⟨_, k⟩
    · rcases hs x k with k | k
      · exact hx.2.2 _ k
      · have := hx.1; omega
    · exact hx.2.2 _ k
  refine ⟨fset fp .bag f, h.len, h.dfs, ⟨hw.os.trans h.frm.os, hw.tape.trans h.frm.tape, hw.output.trans h.frm.output, Nat.le_trans hsz hw.size, fun b hb hk => (hsame b (by omega) fun hx => by have := (h.own _ b hx).1; rcases this with k | k; exact hk k; omega).trans (h.frm.same b hb hk)⟩, h.jk, ?_, ?_, ?_, ?_, ?_, ?_, ?_, h.bT, ?_, h.bH, h.rn⟩
  · intro r x hx
    rcases key r x hx with ⟨rfl, k⟩ | ⟨_, k⟩
    · rcases hs x k with k | k
      · have := h.own _ x k; exact ⟨this.1, Nat.lt_of_lt_of_le this.2 hw.size⟩
      · exact ⟨.inr (by omega), k.2⟩
    · have := h.own _ x k; exact ⟨this.1, Nat.lt_of_lt_of_le this.2 hw.size⟩
  · intro r
    by_cases e : r = .bag
    · subst e; rw [fset_eq]; exact hf
    · rw [fset_ne e]; exact h.nod r
  · intro r r' x hx hy
    rcases key r x hx with ⟨e, k⟩ | ⟨e, k⟩ <;> rcases key r' x hy with ⟨e', k'⟩ | ⟨e', k'⟩
    · rw [e, e']
    · rcases hs x k with k | k
      · have := h.dis _ _ x k k'; exact absurd this.symm e'
      · have := (h.own _ x k').2; omega
    · rcases hs x k' with k' | k'
      · have := h.dis _ _ x k k'; exact absurd this e
      · have := (h.own _ x k).2; omega
    · exact h.dis _ _ x k k'
  · intro t
    rw [fset_ne (by simp)]
    exact Rep.mono im (fun b hb => hother (.slot t) b (by simp) hb) (h.tm t)
  · rw [fset_eq]
    simp only [RepL]
    refine ⟨v, [], f, [], rfl, by simp, Rep.mono (fun x hx => ?_) (fun _ _ => rfl) hr, rfl, rfl⟩
    rcases hx with hx | hx
    · exact ⟨(im x hx).1, rfl⟩
    · refine ⟨⟨hx.2.1, .inr (by omega), fun r hr => ?_⟩, rfl⟩
      rcases key r x hr with ⟨rfl, k⟩ | ⟨_, k⟩
      · exact hx.2.2 k
      · have := (h.own _ x k).2; omega
  · intro b cs hc
    rcases h.hp b cs hc with ⟨k1, k2, k3⟩ | ⟨cells, k1, k2, k3, k4, k5⟩
    · exact .inl ⟨k1, by simpa [fset] using k2, by simpa [fset] using k3⟩
    · refine .inr ⟨cells, k1.mono (hother (.blk b) _ (by simp) (by rw [k3]; simp)), k2, by simpa [fset] using k3, fun i d hd => ?_, by simpa [fset] using k5⟩
      obtain ⟨v, hv, hr⟩ := k4 i d hd
      exact ⟨v, hv, by rw [fset_ne (by simp)]; exact Rep.mono im (fun x hx => hother (.cell b i) x (by simp) hx) hr⟩
  · intro b hb
    have := h.hn b hb
    simp [fset, this]
  · simp only [bndL]; exact ⟨hb, trivial⟩
/-- The bag's first value, a slice of a named block, takes the block with it. -/
theorem flat_nodup {fp : Root → List Nat} (b : Nat) (h1 : ∀ r, (fp r).Nodup) (h2 : ∀ r r' x, x ∈ fp r → x ∈ fp r' → r = r') : ∀ k, ((List.range k).flatMap fun i => fp (.cell b i)).Nodup
  | 0 => by simp
  | k + 1 => by
    rw [List.range_succ, List.flatMap_append]
    refine nodup_app (flat_nodup b h1 h2 k) (by simpa using h1 (.cell b k)) fun x hx hy => ?_
    simp only [List.mem_flatMap, List.mem_range] at hx
    obtain ⟨i, hi, hx⟩ := hx
    have := h2 _ _ x hx (by simpa using hy : x ∈ fp (.cell b k))
    simp only [Root.cell.injEq] at this
    omega
theorem cells_flat {μ : Nat → Nat} {I : Nat → Prop} {w : World} {fp : Root → List Nat} (b : Nat) {cs : List D} {us : List Value} (hl : us.length = cs.length) (h : ∀ (i : Nat) (d : D), cs[i]? = some d → ∃ v, us[i]? = some v ∧ Rep μ I w d v (fp (.cell b i))) : ∀ k, k ≤ cs.length → RepL μ I w (cs.take k) (us.take k) ((List.range k).flatMap fun i => fp (.cell b i))
  | 0, _ => by simp [RepL]
  | k + 1, hk => by
    obtain ⟨v, hv, hr⟩ := h k _ (List.getElem?_eq_getElem (by omega))
    have ih := cells_flat b hl h k (by omega)
    rw [List.range_succ, List.flatMap_append, List.take_succ_eq_append_getElem (by omega)]
    have hv' : us[k]'(by omega) = v := by
      have := List.getElem?_eq_getElem (l := us) (i := k) (by omega)
      rw [this] at hv
      simpa using hv
    have e : us.take (k + 1) = us.take k ++ [v] := by rw [List.take_succ_eq_append_getElem (by omega), hv']
    rw [e]
    refine RepL.append ?_ ih
    simp only [RepL]
    exact ⟨v, [], fp (.cell b k), [], rfl, by simp, hr, rfl, rfl⟩
theorem R.unname {b sz m c : Nat} {all : List D} {v : Value} (h : R B n S (.sl b sz 0 m c :: ds) (v :: vs) a w μ fp N) (hH : S.H b = some all) (hsz : 0 < sz) (hm' : m * sz ≤ all.length) (hc : c * sz ≤ all.length) :
    ∃ fp', R B n ⟨S.T, upd S.H b none⟩ (.fr sz m (all.take (m * sz)) :: ds) (v :: vs) a w μ fp' N ∧ (∀ r x, x ∈ fp' r → ∃ r', x ∈ fp r') := by
  have hbg := h.bg
  simp only [RepL] at hbg
  obtain ⟨v', vs', f1, f2, he, hf, h1, h2⟩ := hbg
  cases he
  simp only [Rep] at h1
  obtain ⟨rfl, hmc, hmax, ⟨A, hA⟩, hv⟩ := h1
  rw [List.nil_append] at hf
  have bH' : ∀ b' cs, upd S.H b none b' = some cs → S.H b' = some cs ∧ b' ≠ b := by
    intro b' cs hb'
    by_cases e : b' = b
    · subst e; rw [upd_eq] at hb'; cases hb'
    · rw [upd_ne e] at hb'; exact ⟨hb', e⟩
  have hbnd : bndL N (.fr sz m (all.take (m * sz)) :: ds) := by
    have := h.bB
    simp only [bndL, bnd] at this ⊢
    refine ⟨?_, this.2⟩
    have hb2 := (h.bH b all hH).2
    rw [bndL_iff] at *
    exact fun d hd => hb2 d (List.mem_of_mem_take hd)
  rcases hv with rfl | hv
  · have hm0 : m = 0 := by omega
    subst hm0
    have hm : Moves fp (fun r => match r with
      | .blk b' => if b' = b then [] else fp (.blk b')
      | .cell b' i => if b' = b then [] else fp (.cell b' i)
      | r => fp r) := .drop h.nod h.dis fun r => by
        cases r <;> dsimp only
        · exact .inl rfl
        · split <;> simp
        · split <;> simp
        · exact .inl rfl
    refine ⟨_, ⟨h.len, h.dfs, h.frm, h.jk, h.own' hm, hm.nod, hm.dis, fun t => (h.tm t).sub hm.sub, ?_, ?_, ?_, h.bT, hbnd, fun b' cs hb' => h.bH b' cs (bH' b' cs hb').1, h.rn⟩, hm.sub⟩
    · simp only [RepL]
      refine ⟨v, vs, [], f2, rfl, by simpa using hf, ?_, h2.sub hm.sub⟩
      simp only [Rep]
      exact ⟨hmax, by simp, .inl ⟨trivial, trivial, A, hA⟩⟩
    · intro b' cs hb'
      obtain ⟨q1, q2⟩ := bH' b' cs hb'
      exact (h.hp b' cs q1).sub hm.sub (by simp [q2]) (by simp [q2])
    · intro b' hb'
      by_cases e : b' = b
      · subst e; simp
      · dsimp only at hb'; rw [upd_ne e] at hb'; have := h.hn b' hb'; simp [e, this]
  rcases h.hp b all hH with ⟨rfl, k2, k3⟩ | ⟨cells, k1, k2, k3, k4, k5⟩
  · -- nothing there

    have : c = 0 := by rcases Nat.mul_eq_zero.1 (Nat.le_zero.1 (by simpa using hc)) with h | h <;> omega
    subst this
    have hm0 : m = 0 := by omega
    subst hm0
    refine ⟨fp, ⟨h.len, h.dfs, h.frm, h.jk, h.own, h.nod, h.dis, h.tm, ?_, ?_, ?_, h.bT, hbnd, fun b' cs hb' => h.bH b' cs (bH' b' cs hb').1, h.rn⟩, fun r x hx => ⟨r, hx⟩⟩
    · simp only [RepL]
      refine ⟨v, vs, [], f2, rfl, by simpa using hf, ?_, h2⟩
      simp only [Rep]
      exact ⟨hmax, by simp, .inl ⟨trivial, trivial, A, hA⟩⟩
    · exact fun b' cs hb' => h.hp b' cs (bH' b' cs hb').1
    · intro b' hb'
      by_cases e : b' = b
      · subst e; exact ⟨k2, k3⟩
      · dsimp only at hb'; rw [upd_ne e] at hb'; exact h.hn b' hb'
  · let l := μ b :: ((List.range (m * sz)).flatMap fun i => fp (.cell b i))
    have hfl := flat_nodup b h.nod h.dis (m * sz)
    have hmem : ∀ x, x ∈ l → x ∈ fp (.blk b) ∨ ∃ i, x ∈ fp (.cell b i) := by
      intro x hx
      rcases List.mem_cons.1 hx with rfl | hx
      · exact .inl (by rw [k3]; simp)
      · simp only [List.mem_flatMap] at hx
        obtain ⟨i, _, hx⟩ := hx
        exact .inr ⟨i, hx⟩
    have hlnod : l.Nodup := by
      rw [List.nodup_cons]
      refine ⟨fun hx => ?_, hfl⟩
      simp only [List.mem_flatMap] at hx
      obtain ⟨i, _, hx⟩ := hx
      have := h.dis (.cell b i) (.blk b) _ hx (by rw [k3]; simp)
      cases this
    let fp' : Root → List Nat := fun r => match r with
      | .bag => l ++ f2
      | .blk b' => if b' = b then [] else fp (.blk b')
      | .cell b' i => if b' = b then [] else fp (.cell b' i)
      | .slot t => fp (.slot t)
    have hbag : fp .bag = f2 := hf
    have hkey : ∀ r x, x ∈ fp' r → r ≠ .bag → x ∈ fp r ∧ (∀ i, r ≠ .cell b i) ∧ r ≠ .blk b := by
      intro r x hx hr
      cases r with
      | slot t => exact ⟨hx, by simp, by simp⟩
      | bag => exact (hr rfl).elim
      | blk b' =>
        simp only [fp'] at hx
        split at hx
        · cases hx
        · rename_i e; exact ⟨hx, by simp, by simpa using e⟩
      | cell b' i =>
        simp only [fp'] at hx
        split at hx
        · cases hx
        · rename_i e; exact ⟨hx, fun j hj => by simp at hj; exact e hj.1, by simp⟩
    have hbagx : ∀ x, x ∈ fp' .bag → x ∈ f2 ∨ x ∈ l := by intro x hx; simp only [fp', List.mem_append] at hx; exact hx.symm
    have hm : Moves fp fp' := by
      refine ⟨fun r x hx => ?_, fun r => ?_, fun r r' x hx hy => ?_⟩
      · by_cases e : r = .bag
        · subst e
          rcases hbagx x hx with hx | hx
          · exact ⟨.bag, by rw [hbag]; exact hx⟩
          · rcases hmem x hx with hx | ⟨i, hx⟩
            · exact ⟨_, hx⟩
            · exact ⟨_, hx⟩
        · exact ⟨r, (hkey r x hx e).1⟩
      · by_cases e : r = .bag
        · subst e
          refine nodup_app hlnod (by rw [← hbag]; exact h.nod _) fun x hx hy => ?_
          rw [← hbag] at hy
          rcases hmem x hx with hx | ⟨i, hx⟩
          · have := h.dis _ _ x hx hy; cases this
          · have := h.dis _ _ x hx hy; cases this
        · cases r with
          | slot t => exact h.nod _
          | bag => exact (e rfl).elim
          | blk b' => simp only [fp']; split; exact .nil; exact h.nod _
          | cell b' i => simp only [fp']; split; exact .nil; exact h.nod _
      · by_cases e : r = .bag <;> by_cases e' : r' = .bag
        · rw [e, e']
        · subst e
          obtain ⟨q1, q2, q3⟩ := hkey r' x hy e'
          rcases hbagx x hx with hx | hx
          · rw [← hbag] at hx; exact absurd (h.dis _ _ x hx q1).symm e'
          · rcases hmem x hx with hx | ⟨i, hx⟩
            · exact absurd (h.dis _ _ x q1 hx) q3
            · exact absurd (h.dis _ _ x q1 hx) (q2 i)
        · subst e'
          obtain ⟨q1, q2, q3⟩ := hkey r x hx e
          rcases hbagx x hy with hy | hy
          · rw [← hbag] at hy; exact absurd (h.dis _ _ x hy q1).symm e
          · rcases hmem x hy with hy | ⟨i, hy⟩
            · exact absurd (h.dis _ _ x q1 hy) q3
            · exact absurd (h.dis _ _ x q1 hy) (q2 i)
        · exact h.dis _ _ x (hkey r x hx e).1 (hkey r' x hy e').1
    refine ⟨fp', ⟨h.len, h.dfs, h.frm, h.jk, h.own' hm, hm.nod, hm.dis, fun t => (h.tm t).sub hm.sub, ?_, ?_, ?_, h.bT, hbnd, fun b' cs hb' => h.bH b' cs (bH' b' cs hb').1, h.rn⟩, hm.sub⟩
    · simp only [RepL]
      refine ⟨v, vs, l, f2, rfl, rfl, ?_, h2.sub hm.sub⟩
      have hcf := cells_flat (μ := μ) (I := Im B w fp) (w := w) b (us := cells.toList) (by simpa using k2) (fun i d hd => by obtain ⟨u, hu, hr⟩ := k4 i d hd; exact ⟨u, by simpa using hu, hr⟩) (m * sz) hm'
      simp only [Rep]
      refine ⟨hmax, by rw [List.length_take]; omega, .inr ⟨μ b, c, cells, cells.toList.take (m * sz), _, hv, hmc, k1, by omega, ?_, hcf.sub hm.sub, rfl⟩⟩
      intro i u hu
      rw [List.getElem?_take] at hu
      split at hu
      · simpa using hu
      · cases hu
    · intro b' cs hb'
      obtain ⟨q1, q2⟩ := bH' b' cs hb'
      exact (h.hp b' cs q1).sub hm.sub (by simp [fp', q2]) (by simp [fp', q2])
    · intro b' hb'
      by_cases e : b' = b
      · subst e; simp [fp']
      · dsimp only at hb'; rw [upd_ne e] at hb'; have := h.hn b' hb'; simp [fp', e, this]
/-- The bag is read in other words. -/
theorem R.rebag' (h : R B n S ds vs a w μ fp N) {ds' : List D} {vs' : List Value} (hr : RepL μ (Im B w fp) w ds' vs' (fp .bag)) (hb : bndL N ds') : R B n S ds' vs' a w μ fp N := { h with bg := hr, bB := hb }
/-! ### Less is known -/
structure Sub (S S' : St) : Prop where
  T : ∀ t, S'.T t = .any ∨ S'.T t = S.T t
  H : ∀ b cs, S'.H b = some cs → S.H b = some cs
theorem Sub.refl (S : St) : Sub S S := ⟨fun _ => .inr rfl, fun _ _ h => h⟩
theorem Sub.trans {S1 S2 S3 : St} (h : Sub S1 S2) (k : Sub S2 S3) : Sub S1 S3 :=
  ⟨fun t => by rcases k.T t with e | e; exact .inl e; rw [e]; exact h.T t, fun b cs hc => h.H b cs (k.H b cs hc)⟩
open Classical in
theorem R.less {S' : St} (h : R B n S ds vs a w μ fp N) (k : Sub S S') : ∃ fp', R B n S' ds vs a w μ fp' N := by
  let fp' : Root → List Nat := fun r => match r with
    | .slot t => if S'.T t = S.T t then fp (.slot t) else []
    | .cell b i => if (S'.H b).isSome then fp (.cell b i) else []
    | .blk b => if (S'.H b).isSome then fp (.blk b) else []
    | .bag => fp .bag
  have hm : Moves fp fp' := .drop h.nod h.dis fun r => by
    cases r <;> simp only [fp']
    · split <;> simp
    · split <;> simp
    · split <;> simp
    · simp
  refine ⟨fp', h.len, h.dfs, h.frm, h.jk, h.own' hm, hm.nod, hm.dis, ?_, h.bg.sub hm.sub, ?_, ?_, ?_, h.bB, fun b cs hc => h.bH b cs (k.H b cs hc), h.rn⟩
  · intro t
    by_cases e : S'.T t = S.T t
    · simp only [fp', e, if_true]
      exact (h.tm t).sub hm.sub
    · rcases k.T t with e' | e'
      · simp only [fp', e, if_false]
        rw [e']
        simp [Rep]
      · exact (e e').elim
  · intro b cs hc
    exact (h.hp b cs (k.H b cs hc)).sub hm.sub (by simp [fp', hc]) (by simp [fp', hc])
  · intro b hb
    simp [fp', hb]
  · intro t
    rcases k.T t with e | e
    · rw [e]; simp [bnd]
    · rw [e]; exact h.bT t
end
end Go.Proofs.Ytlbbhkpjjciaiaa.Vm

