/-
  Values of an abstract machine, and what it is for a value of the program's memory to read as one. No conditions; nothing of the program is named here.
-/
import Derived.Orders
import Derived.WalkKit
namespace Go.Proofs.Ytlbbhkpjjciaiaa.Vm
open Go
set_option linter.unusedVariables false
set_option linter.unusedSimpArgs false
set_option linter.unusedSectionVars false

/-- Abstract values. 'list': shared data; 'fr', 'box': memory that this value alone owns; 'sl', 'ptr': into a named block; 'pd': a pointer to data. -/
inductive D where
  | any
  | nil
  | int (k : IntKind) (n : Int)
  | bool (b : Bool)
  | str (s : List UInt8)
  | list (n : Nat) (cs : List D)
  | fr (sz n : Nat) (cs : List D)
  | st (cs : List D)
  | tup (ds : List D)
  | sl (b sz o n c : Nat)
  | ptr (b o : Nat)
  | pd (cs : List D)
  | box (cs : List D)
  | fn (f : FuncId) (caps : List D)
  | nilp
  | ubool
  deriving Inhabited

/-- A string of these bytes. -/
def mkS (s : List UInt8) : ByteArray := ⟨s.toArray⟩
/-- The memory from ⟨b, o⟩ on bears these values. -/
def Seg (w : World) (b o : Nat) (vs : List Value) : Prop := ∃ cells ty fz, w.heap[b]? = some (.cells cells ty fz) ∧ (∀ (i : Nat) (v : Value), vs[i]? = some v → cells[o + i]? = some v) ∧ ∀ v ∈ vs, v.oneCell' = true
/-- The block is known whole and may be written. -/
def Whole (w : World) (b : Nat) (cells : Array Value) : Prop := ∃ ty, w.heap[b]? = some (.cells cells ty (0, 0)) ∧ ∀ (i : Nat) (v : Value), cells[i]? = some v → v.oneCell' = true

mutual
def Rep (μ : Nat → Nat) (I : Nat → Prop) (w : World) : D → Value → List Nat → Prop
  | .any, _, fp => fp = []
  | .nil, v, fp => fp = [] ∧ ∃ A, v = .slice A 0 0
  | .int k n, v, fp => fp = [] ∧ v = .int k n
  | .bool b, v, fp => fp = [] ∧ v = .bool b
  | .str s, v, fp => fp = [] ∧ v = .string (mkS s)
  | .list n cs, v, fp => fp = [] ∧ n ≤ maxLen ∧ ∃ A c vs, v = .slice A n c ∧ n ≤ c ∧ (cs = [] ∨ ∃ b o, A = some ⟨b, o, none⟩ ∧ I b ∧ Seg w b o vs) ∧ RepL μ I w cs vs []
  | .fr sz n cs, v, fp => n ≤ maxLen ∧ cs.length = n * sz ∧ ((n = 0 ∧ fp = [] ∧ ∃ A, v = .slice A 0 0) ∨ ∃ b c cells vs f, v = .slice (some ⟨b, 0, none⟩) n c ∧ n ≤ c ∧ Whole w b cells ∧ c * sz ≤ cells.size ∧
      (∀ (i : Nat) (v : Value), vs[i]? = some v → cells[i]? = some v) ∧ RepL μ I w cs vs f ∧ fp = b :: f)
  | .st cs, v, fp => ∃ vs : List Value, v = .agg vs.toArray ∧ RepL μ I w cs vs fp
  | .tup cs, v, fp => ∃ vs : List Value, v = .tuple vs.toArray ∧ RepL μ I w cs vs fp
  | .sl b _ o n c, v, fp => fp = [] ∧ n ≤ c ∧ n ≤ maxLen ∧ (∃ A, v = .slice A n c) ∧ (c = 0 ∨ v = .slice (some ⟨μ b, o, none⟩) n c)
  | .ptr b o, v, fp => fp = [] ∧ v = .pointer (some ⟨μ b, o, none⟩)
  | .pd cs, v, fp => fp = [] ∧ ∃ b o vs, v = .pointer (some ⟨b, o, none⟩) ∧ I b ∧ Seg w b o vs ∧ RepL μ I w cs vs []
  | .box cs, v, fp => ∃ b cells f, v = .pointer (some ⟨b, 0, none⟩) ∧ Whole w b cells ∧ RepL μ I w cs cells.toList f ∧ fp = b :: f
  | .fn f caps, v, fp => ∃ vs : List Value, v = .func (.func f) #[] vs.toArray ∧ RepL μ I w caps vs fp
  | .nilp, v, fp => fp = [] ∧ v = .pointer none
  | .ubool, v, fp => fp = [] ∧ ∃ b, v = .bool b
def RepL (μ : Nat → Nat) (I : Nat → Prop) (w : World) : List D → List Value → List Nat → Prop
  | [], vs, fp => vs = [] ∧ fp = []
  | d :: ds, vs, fp => ∃ v vs' f1 f2, vs = v :: vs' ∧ fp = f1 ++ f2 ∧ Rep μ I w d v f1 ∧ RepL μ I w ds vs' f2
end

section
variable {μ μ' : Nat → Nat} {I I' : Nat → Prop} {w w' : World}
theorem Seg.mono {b o : Nat} {vs : List Value} (h : Seg w b o vs) (e : w'.heap[b]? = w.heap[b]?) : Seg w' b o vs := by
  obtain ⟨c, t, z, h1, h2, h3⟩ := h
  exact ⟨c, t, z, e.trans h1, h2, h3⟩
theorem Whole.mono {b : Nat} {cs : Array Value} (h : Whole w b cs) (e : w'.heap[b]? = w.heap[b]?) : Whole w' b cs := by
  obtain ⟨t, h1, h2⟩ := h
  exact ⟨t, e.trans h1, h2⟩
theorem Whole.lt {b : Nat} {cs : Array Value} (h : Whole w b cs) : b < w.heap.size := by
  obtain ⟨t, h, _⟩ := h
  rcases Nat.lt_or_ge b w.heap.size with hl | hl
  · exact hl
  · rw [Array.getElem?_eq_none hl] at h; cases h
theorem Seg.lt {b o : Nat} {vs : List Value} (h : Seg w b o vs) : b < w.heap.size := by
  obtain ⟨_, _, _, h, _⟩ := h
  rcases Nat.lt_or_ge b w.heap.size with hl | hl
  · exact hl
  · rw [Array.getElem?_eq_none hl] at h; cases h

mutual
theorem Rep.mono (hI : ∀ b, I b → I' b ∧ w'.heap[b]? = w.heap[b]?) : ∀ {d : D} {v : Value} {fp : List Nat}, (∀ b ∈ fp, w'.heap[b]? = w.heap[b]?) → Rep μ I w d v fp → Rep μ I' w' d v fp
  | .any, v, fp, hF, h => by simpa only [Rep] using h
  | .nil, v, fp, hF, h => by simpa only [Rep] using h
  | .int _ _, v, fp, hF, h => by simpa only [Rep] using h
  | .bool _, v, fp, hF, h => by simpa only [Rep] using h
  | .str _, v, fp, hF, h => by simpa only [Rep] using h
  | .list n cs, v, fp, hF, h => by
    simp only [Rep] at h ⊢
    obtain ⟨h0, h1, A, c, vs, h2, h3, h4, h5⟩ := h
    refine ⟨h0, h1, A, c, vs, h2, h3, ?_, RepL.mono hI (by simp) h5⟩
    rcases h4 with h4 | ⟨b, o, h6, h7, h8⟩
    · exact .inl h4
    · exact .inr ⟨b, o, h6, (hI b h7).1, h8.mono (hI b h7).2⟩
  | .fr sz n cs, v, fp, hF, h => by
    simp only [Rep] at h ⊢
    obtain ⟨h0, h1, h⟩ := h
    refine ⟨h0, h1, ?_⟩
    rcases h with h | ⟨b, c, cells, vs, f, h2, h3, h4, h5, h6, h7, rfl⟩
    · exact .inl h
    · exact .inr ⟨b, c, cells, vs, f, h2, h3, h4.mono (hF b (by simp)), h5, h6, RepL.mono hI (fun x hx => hF x (by simp [hx])) h7, rfl⟩
  | .st cs, v, fp, hF, h => by
    simp only [Rep] at h ⊢
    obtain ⟨vs, h1, h2⟩ := h
    exact ⟨vs, h1, RepL.mono hI hF h2⟩
  | .tup cs, v, fp, hF, h => by
    simp only [Rep] at h ⊢
    obtain ⟨vs, h1, h2⟩ := h
    exact ⟨vs, h1, RepL.mono hI hF h2⟩
  | .sl .., v, fp, hF, h => by simpa only [Rep] using h
  | .ptr .., v, fp, hF, h => by simpa only [Rep] using h
  | .pd cs, v, fp, hF, h => by
    simp only [Rep] at h ⊢
    obtain ⟨h0, b, o, vs, h2, h3, h4, h5⟩ := h
    exact ⟨h0, b, o, vs, h2, (hI b h3).1, h4.mono (hI b h3).2, RepL.mono hI (by simp) h5⟩
  | .box cs, v, fp, hF, h => by
    simp only [Rep] at h ⊢
    obtain ⟨b, cells, f, h2, h3, h4, rfl⟩ := h
    exact ⟨b, cells, f, h2, h3.mono (hF b (by simp)), RepL.mono hI (fun x hx => hF x (by simp [hx])) h4, rfl⟩
  | .fn g caps, v, fp, hF, h => by
    simp only [Rep] at h ⊢
    obtain ⟨vs, h1, h2⟩ := h
    exact ⟨vs, h1, RepL.mono hI hF h2⟩
  | .nilp, v, fp, hF, h => by simpa only [Rep] using h
  | .ubool, v, fp, hF, h => by simpa only [Rep] using h
theorem RepL.mono (hI : ∀ b, I b → I' b ∧ w'.heap[b]? = w.heap[b]?) : ∀ {ds : List D} {vs : List Value} {fp : List Nat}, (∀ b ∈ fp, w'.heap[b]? = w.heap[b]?) → RepL μ I w ds vs fp → RepL μ I' w' ds vs fp
  | [], vs, fp, hF, h => by simpa only [RepL] using h
  | d :: ds, vs, fp, hF, h => by
    simp only [RepL] at h ⊢
    obtain ⟨v, vs', f1, f2, h1, rfl, h3, h4⟩ := h
    exact ⟨v, vs', f1, f2, h1, rfl, Rep.mono hI (fun b hb => hF b (by simp [hb])) h3, RepL.mono hI (fun b hb => hF b (by simp [hb])) h4⟩
end

/-! ### Names below a bound -/
mutual
def bnd (N : Nat) : D → Prop
  | .list _ cs => bndL N cs
  | .fr _ _ cs => bndL N cs
  | .st cs => bndL N cs
  | .tup cs => bndL N cs
  | .sl b _ _ _ _ => b < N
  | .ptr b _ => b < N
  | .pd cs => bndL N cs
  | .box cs => bndL N cs
  | .fn _ cs => bndL N cs
  | _ => True
def bndL (N : Nat) : List D → Prop
  | [] => True
  | d :: ds => bnd N d ∧ bndL N ds
end
theorem bndL_iff {N : Nat} {ds : List D} : bndL N ds ↔ ∀ d ∈ ds, bnd N d := by
  induction ds with
  | nil => simp [bndL]
  | cons d ds ih => simp [bndL, ih]
mutual
theorem bnd.mono {N N' : Nat} (hN : N ≤ N') : ∀ {d : D}, bnd N d → bnd N' d
  | .any, h => by simp [bnd]
  | .nil, h => by simp [bnd]
  | .nilp, h => by simp [bnd]
  | .ubool, h => by simp [bnd]
  | .int _ _, h => by simp [bnd]
  | .bool _, h => by simp [bnd]
  | .str _, h => by simp [bnd]
  | .list n cs, h => by simp only [bnd] at h ⊢; exact bndL.mono hN h
  | .fr _ _ cs, h => by simp only [bnd] at h ⊢; exact bndL.mono hN h
  | .st cs, h => by simp only [bnd] at h ⊢; exact bndL.mono hN h
  | .tup cs, h => by simp only [bnd] at h ⊢; exact bndL.mono hN h
  | .sl .., h => by simp only [bnd] at h ⊢; omega
  | .ptr .., h => by simp only [bnd] at h ⊢; omega
  | .pd cs, h => by simp only [bnd] at h ⊢; exact bndL.mono hN h
  | .box cs, h => by simp only [bnd] at h ⊢; exact bndL.mono hN h
  | .fn _ cs, h => by simp only [bnd] at h ⊢; exact bndL.mono hN h
theorem bndL.mono {N N' : Nat} (hN : N ≤ N') : ∀ {ds : List D}, bndL N ds → bndL N' ds
  | [], h => by simp [bndL]
  | d :: ds, h => by simp only [bndL] at h ⊢; exact ⟨bnd.mono hN h.1, bndL.mono hN h.2⟩
end
mutual
theorem Rep.ren {N : Nat} (hμ : ∀ b, b < N → μ' b = μ b) : ∀ {d : D} {v : Value} {fp : List Nat}, bnd N d → Rep μ I w d v fp → Rep μ' I w d v fp
  | .any, v, fp, hb, h => by simpa only [Rep] using h
  | .nil, v, fp, hb, h => by simpa only [Rep] using h
  | .nilp, v, fp, hb, h => by simpa only [Rep] using h
  | .ubool, v, fp, hb, h => by simpa only [Rep] using h
  | .int _ _, v, fp, hb, h => by simpa only [Rep] using h
  | .bool _, v, fp, hb, h => by simpa only [Rep] using h
  | .str _, v, fp, hb, h => by simpa only [Rep] using h
  | .list n cs, v, fp, hb, h => by
    simp only [bnd] at hb; simp only [Rep] at h ⊢
    obtain ⟨h0, h1, A, c, vs, h2, h3, h4, h5⟩ := h
    exact ⟨h0, h1, A, c, vs, h2, h3, h4, RepL.ren hμ hb h5⟩
  | .fr sz n cs, v, fp, hb, h => by
    simp only [bnd] at hb; simp only [Rep] at h ⊢
    obtain ⟨h0, h1, h⟩ := h
    refine ⟨h0, h1, ?_⟩
    rcases h with h | ⟨b, c, cells, vs, f, h2, h3, h4, h5, h6, h7, rfl⟩
    · exact .inl h
    · exact .inr ⟨b, c, cells, vs, f, h2, h3, h4, h5, h6, RepL.ren hμ hb h7, rfl⟩
  | .st cs, v, fp, hb, h => by
    simp only [bnd] at hb; simp only [Rep] at h ⊢
    obtain ⟨vs, h1, h2⟩ := h
    exact ⟨vs, h1, RepL.ren hμ hb h2⟩
  | .tup cs, v, fp, hb, h => by
    simp only [bnd] at hb; simp only [Rep] at h ⊢
    obtain ⟨vs, h1, h2⟩ := h
    exact ⟨vs, h1, RepL.ren hμ hb h2⟩
  | .sl b _ _ _ _, v, fp, hb, h => by simp only [bnd] at hb; simp only [Rep] at h ⊢; rw [hμ b hb]; exact h
  | .ptr b _, v, fp, hb, h => by simp only [bnd] at hb; simp only [Rep] at h ⊢; rw [hμ b hb]; exact h
  | .pd cs, v, fp, hb, h => by
    simp only [bnd] at hb; simp only [Rep] at h ⊢
    obtain ⟨h0, b, o, vs, h2, h3, h4, h5⟩ := h
    exact ⟨h0, b, o, vs, h2, h3, h4, RepL.ren hμ hb h5⟩
  | .box cs, v, fp, hb, h => by
    simp only [bnd] at hb; simp only [Rep] at h ⊢
    obtain ⟨b, cells, f, h2, h3, h4, rfl⟩ := h
    exact ⟨b, cells, f, h2, h3, RepL.ren hμ hb h4, rfl⟩
  | .fn g caps, v, fp, hb, h => by
    simp only [bnd] at hb; simp only [Rep] at h ⊢
    obtain ⟨vs, h1, h2⟩ := h
    exact ⟨vs, h1, RepL.ren hμ hb h2⟩
theorem RepL.ren {N : Nat} (hμ : ∀ b, b < N → μ' b = μ b) : ∀ {ds : List D} {vs : List Value} {fp : List Nat}, bndL N ds → RepL μ I w ds vs fp → RepL μ' I w ds vs fp
  | [], vs, fp, hb, h => by simpa only [RepL] using h
  | d :: ds, vs, fp, hb, h => by
    simp only [bndL] at hb
    simp only [RepL] at h ⊢
    obtain ⟨v, vs', f1, f2, h1, rfl, h3, h4⟩ := h
    exact ⟨v, vs', f1, f2, h1, rfl, Rep.ren hμ hb.1 h3, RepL.ren hμ hb.2 h4⟩
end

/-! ### Values without shared data; without names -/
mutual
def closed : D → Bool
  | .list _ _ => false
  | .fr _ _ cs => closedL cs
  | .st cs => closedL cs
  | .tup cs => closedL cs
  | .pd _ => false
  | .box cs => closedL cs
  | .fn _ cs => closedL cs
  | .sl .. => false
  | .ptr .. => false
  | _ => true
def closedL : List D → Bool
  | [] => true
  | d :: ds => closed d && closedL ds
end
theorem closedL_iff {ds : List D} : closedL ds = true ↔ ∀ d ∈ ds, closed d = true := by
  induction ds with
  | nil => simp [closedL]
  | cons d ds ih => simp [closedL, ih]
mutual
theorem Rep.closed : ∀ {d : D} {v : Value} {fp : List Nat}, closed d = true → Rep μ I w d v fp → Rep μ' I' w d v fp
  | .any, v, fp, hc, h => by simpa only [Rep] using h
  | .nil, v, fp, hc, h => by simpa only [Rep] using h
  | .nilp, v, fp, hc, h => by simpa only [Rep] using h
  | .ubool, v, fp, hc, h => by simpa only [Rep] using h
  | .int _ _, v, fp, hc, h => by simpa only [Rep] using h
  | .bool _, v, fp, hc, h => by simpa only [Rep] using h
  | .str _, v, fp, hc, h => by simpa only [Rep] using h
  | .list n cs, v, fp, hc, h => by simp [Vm.closed] at hc
  | .fr sz n cs, v, fp, hc, h => by
    simp only [Vm.closed] at hc; simp only [Rep] at h ⊢
    obtain ⟨h0, h1, h⟩ := h
    refine ⟨h0, h1, ?_⟩
    rcases h with h | ⟨b, c, cells, vs, f, h2, h3, h4, h5, h6, h7, rfl⟩
    · exact .inl h
    · exact .inr ⟨b, c, cells, vs, f, h2, h3, h4, h5, h6, RepL.closed hc h7, rfl⟩
  | .st cs, v, fp, hc, h => by
    simp only [Vm.closed] at hc; simp only [Rep] at h ⊢
    obtain ⟨vs, h1, h2⟩ := h
    exact ⟨vs, h1, RepL.closed hc h2⟩
  | .tup cs, v, fp, hc, h => by
    simp only [Vm.closed] at hc; simp only [Rep] at h ⊢
    obtain ⟨vs, h1, h2⟩ := h
    exact ⟨vs, h1, RepL.closed hc h2⟩
  | .sl .., v, fp, hc, h => by simp [Vm.closed] at hc
  | .ptr .., v, fp, hc, h => by simp [Vm.closed] at hc
  | .pd cs, v, fp, hc, h => by simp [Vm.closed] at hc
  | .box cs, v, fp, hc, h => by
    simp only [Vm.closed] at hc; simp only [Rep] at h ⊢
    obtain ⟨b, cells, f, h2, h3, h4, rfl⟩ := h
    exact ⟨b, cells, f, h2, h3, RepL.closed hc h4, rfl⟩
  | .fn g caps, v, fp, hc, h => by
    simp only [Vm.closed] at hc; simp only [Rep] at h ⊢
    obtain ⟨vs, h1, h2⟩ := h
    exact ⟨vs, h1, RepL.closed hc h2⟩
theorem RepL.closed : ∀ {ds : List D} {vs : List Value} {fp : List Nat}, closedL ds = true → RepL μ I w ds vs fp → RepL μ' I' w ds vs fp
  | [], vs, fp, hc, h => by simpa only [RepL] using h
  | d :: ds, vs, fp, hc, h => by
    simp only [closedL, Bool.and_eq_true] at hc
    simp only [RepL] at h ⊢
    obtain ⟨v, vs', f1, f2, h1, rfl, h3, h4⟩ := h
    exact ⟨v, vs', f1, f2, h1, rfl, Rep.closed hc.1 h3, RepL.closed hc.2 h4⟩
end
mutual
theorem bnd_closed : ∀ {d : D}, closed d = true → bnd 0 d
  | .any, h => by simp [bnd]
  | .nil, h => by simp [bnd]
  | .nilp, h => by simp [bnd]
  | .ubool, h => by simp [bnd]
  | .int _ _, h => by simp [bnd]
  | .bool _, h => by simp [bnd]
  | .str _, h => by simp [bnd]
  | .list n cs, h => by simp [closed] at h
  | .fr _ _ cs, h => by simp only [closed] at h; simp only [bnd]; exact bndL_closed h
  | .st cs, h => by simp only [closed] at h; simp only [bnd]; exact bndL_closed h
  | .tup cs, h => by simp only [closed] at h; simp only [bnd]; exact bndL_closed h
  | .sl .., h => by simp [closed] at h
  | .ptr .., h => by simp [closed] at h
  | .pd cs, h => by simp [closed] at h
  | .box cs, h => by simp only [closed] at h; simp only [bnd]; exact bndL_closed h
  | .fn _ cs, h => by simp only [closed] at h; simp only [bnd]; exact bndL_closed h
theorem bndL_closed : ∀ {ds : List D}, closedL ds = true → bndL 0 ds
  | [], h => by simp [bndL]
  | d :: ds, h => by simp only [closedL, Bool.and_eq_true] at h; simp only [bndL]; exact ⟨bnd_closed h.1, bndL_closed h.2⟩
end

/-! ### Owned values -/
mutual
/-- Does the value own memory? -/
def owns : D → Bool
  | .fr .. => true
  | .box .. => true
  | .st cs => ownsL cs
  | .tup cs => ownsL cs
  | .fn _ cs => ownsL cs
  | _ => false
def ownsL : List D → Bool
  | [] => false
  | d :: ds => owns d || ownsL ds
end
mutual
theorem Rep.free : ∀ {d : D} {v : Value} {fp : List Nat}, owns d = false → Rep μ I w d v fp → fp = []
  | .any, v, fp, hc, h => by simpa only [Rep] using h
  | .nil, v, fp, hc, h => by simp only [Rep] at h; exact h.1
  | .nilp, v, fp, hc, h => by simp only [Rep] at h; exact h.1
  | .ubool, v, fp, hc, h => by simp only [Rep] at h; exact h.1
  | .int _ _, v, fp, hc, h => by simp only [Rep] at h; exact h.1
  | .bool _, v, fp, hc, h => by simp only [Rep] at h; exact h.1
  | .str _, v, fp, hc, h => by simp only [Rep] at h; exact h.1
  | .list n cs, v, fp, hc, h => by simp only [Rep] at h; exact h.1
  | .fr .., v, fp, hc, h => by simp [owns] at hc
  | .st cs, v, fp, hc, h => by
    simp only [owns] at hc; simp only [Rep] at h
    obtain ⟨vs, h1, h2⟩ := h
    exact RepL.free hc h2
  | .tup cs, v, fp, hc, h => by
    simp only [owns] at hc; simp only [Rep] at h
    obtain ⟨vs, h1, h2⟩ := h
    exact RepL.free hc h2
  | .sl .., v, fp, hc, h => by simp only [Rep] at h; exact h.1
  | .ptr .., v, fp, hc, h => by simp only [Rep] at h; exact h.1
  | .pd cs, v, fp, hc, h => by simp only [Rep] at h; exact h.1
  | .box cs, v, fp, hc, h => by simp [owns] at hc
  | .fn g caps, v, fp, hc, h => by
    simp only [owns] at hc; simp only [Rep] at h
    obtain ⟨vs, h1, h2⟩ := h
    exact RepL.free hc h2
theorem RepL.free : ∀ {ds : List D} {vs : List Value} {fp : List Nat}, ownsL ds = false → RepL μ I w ds vs fp → fp = []
  | [], vs, fp, hc, h => by simp only [RepL] at h; exact h.2
  | d :: ds, vs, fp, hc, h => by
    simp only [ownsL, Bool.or_eq_false_iff] at hc
    simp only [RepL] at h
    obtain ⟨v, vs', f1, f2, h1, rfl, h3, h4⟩ := h
    rw [Rep.free hc.1 h3, RepL.free hc.2 h4]; rfl
end

/-! ### Lists of values -/
theorem RepL.length : ∀ {ds : List D} {vs : List Value} {fp : List Nat}, RepL μ I w ds vs fp → vs.length = ds.length
  | [], vs, fp, h => by simp only [RepL] at h; simp [h.1]
  | d :: ds, vs, fp, h => by
    simp only [RepL] at h
    obtain ⟨v, vs', f1, f2, rfl, rfl, h3, h4⟩ := h
    simp [RepL.length h4]
theorem RepL.append {ds' : List D} {vs' : List Value} {fp' : List Nat} (h' : RepL μ I w ds' vs' fp') : ∀ {ds : List D} {vs : List Value} {fp : List Nat}, RepL μ I w ds vs fp → RepL μ I w (ds ++ ds') (vs ++ vs') (fp ++ fp')
  | [], vs, fp, h => by simp only [RepL] at h; simp [h.1, h.2, h']
  | d :: ds, vs, fp, h => by
    simp only [RepL] at h
    obtain ⟨v, vs2, f1, f2, rfl, rfl, h3, h4⟩ := h
    simp only [List.cons_append, RepL]
    exact ⟨v, vs2 ++ vs', f1, f2 ++ fp', rfl, by simp, h3, RepL.append h' h4⟩
theorem RepL.split : ∀ {ds ds' : List D} {vs : List Value} {fp : List Nat}, RepL μ I w (ds ++ ds') vs fp → ∃ v1 v2 f1 f2, vs = v1 ++ v2 ∧ fp = f1 ++ f2 ∧ RepL μ I w ds v1 f1 ∧ RepL μ I w ds' v2 f2
  | [], ds', vs, fp, h => ⟨[], vs, [], fp, rfl, rfl, by simp [RepL], h⟩
  | d :: ds, ds', vs, fp, h => by
    simp only [List.cons_append, RepL] at h
    obtain ⟨v, vs2, f1, f2, rfl, rfl, h3, h4⟩ := h
    obtain ⟨v1, v2, g1, g2, rfl, rfl, h5, h6⟩ := RepL.split h4
    exact ⟨v :: v1, v2, f1 ++ g1, g2, rfl, by simp, by simp only [RepL]; exact ⟨v, v1, f1, g1, rfl, rfl, h3, h5⟩, h6⟩
theorem RepL.get {ds : List D} {vs : List Value} (h : RepL μ I w ds vs []) : ∀ {i : Nat} {d : D}, ds[i]? = some d → ∃ v, vs[i]? = some v ∧ Rep μ I w d v [] := by
  induction ds generalizing vs with
  | nil => intro i d hd; simp at hd
  | cons e ds ih =>
    simp only [RepL] at h
    obtain ⟨v, vs', f1, f2, rfl, hf, h3, h4⟩ := h
    simp at hf
    rw [hf.1] at h3
    rw [hf.2] at h4
    intro i d hd
    cases i with
    | zero => simp at hd; subst hd; exact ⟨v, rfl, h3⟩
    | succ i => exact ih h4 (by simpa using hd)
theorem RepL.build {ds : List D} {vs : List Value} (hl : vs.length = ds.length) (h : ∀ (i : Nat) (d : D) (v : Value), ds[i]? = some d → vs[i]? = some v → Rep μ I w d v []) : RepL μ I w ds vs [] := by
  induction ds generalizing vs with
  | nil => cases vs with
    | nil => simp [RepL]
    | cons => simp at hl
  | cons d ds ih => cases vs with
    | nil => simp at hl
    | cons v vs =>
      simp only [RepL]
      exact ⟨v, vs, [], [], rfl, rfl, h 0 d v rfl rfl, ih (by simpa using hl) fun i d' v' h1 h2 => h (i + 1) d' v' h1 h2⟩

theorem RepL.get' {ds : List D} {vs : List Value} (h : RepL μ I w ds vs []) {i : Nat} {d : D} {v : Value} (hd : ds[i]? = some d) (hv : vs[i]? = some v) : Rep μ I w d v [] := by
  obtain ⟨v', h1, h2⟩ := h.get hd
  rw [hv] at h1
  cases h1
  exact h2
theorem RepL.drop {ds : List D} {vs : List Value} (h : RepL μ I w ds vs []) (k : Nat) : RepL μ I w (ds.drop k) (vs.drop k) [] :=
  .build (by simp [h.length]) fun i d v h1 h2 => h.get' (i := k + i) (by simpa using h1) (by simpa using h2)
theorem RepL.take {ds : List D} {vs : List Value} (h : RepL μ I w ds vs []) (k : Nat) : RepL μ I w (ds.take k) (vs.take k) [] :=
  .build (by simp [h.length]) fun i d v h1 h2 => by
    rw [List.getElem?_take] at h1 h2
    split at h1
    · rename_i hk
      rw [if_pos hk] at h2
      exact h.get' h1 h2
    · cases h1

/-! ### Any value as data -/
mutual
/-- The value as shared data. -/
def dat : D → D
  | .nil => .list 0 []
  | .fr _ n cs => .list n (datL cs)
  | .st cs => .st (datL cs)
  | .tup cs => .tup (datL cs)
  | .box cs => .pd (datL cs)
  | .fn f cs => .fn f (datL cs)
  | d => d
def datL : List D → List D
  | [] => []
  | d :: ds => dat d :: datL ds
end
theorem datL_map (ds : List D) : datL ds = ds.map dat := by
  induction ds with
  | nil => rfl
  | cons d ds ih => simp [datL, ih]
theorem Seg.of_whole {b : Nat} {cells : Array Value} {vs : List Value} (h : Whole w b cells) {o : Nat} (hv : ∀ i v, vs[i]? = some v → cells[o + i]? = some v) : Seg w b o vs := by
  obtain ⟨t, h, h1⟩ := h
  refine ⟨cells, t, _, h, hv, fun v hm => ?_⟩
  obtain ⟨i, hi⟩ := List.getElem?_of_mem hm
  exact h1 _ _ (hv i v hi)
mutual
theorem Rep.dat (hI : ∀ b, I b → I' b) : ∀ {d : D} {v : Value} {fp : List Nat}, (∀ b ∈ fp, I' b) → Rep μ I w d v fp → Rep μ I' w (dat d) v []
  | .any, v, fp, hF, h => by simp [Vm.dat, Rep]
  | .nil, v, fp, hF, h => by
    simp only [Rep] at h
    obtain ⟨_, A, rfl⟩ := h
    simp [Vm.dat, Rep, RepL]
  | .nilp, v, fp, hF, h => by simp only [Rep] at h; obtain ⟨_, rfl⟩ := h; simp [Vm.dat, Rep]
  | .ubool, v, fp, hF, h => by simp only [Rep] at h; obtain ⟨_, b, rfl⟩ := h; simp [Vm.dat, Rep]
  | .int _ _, v, fp, hF, h => by simp only [Rep] at h; obtain ⟨_, rfl⟩ := h; simp [Vm.dat, Rep]
  | .bool _, v, fp, hF, h => by simp only [Rep] at h; obtain ⟨_, rfl⟩ := h; simp [Vm.dat, Rep]
  | .str _, v, fp, hF, h => by simp only [Rep] at h; obtain ⟨_, rfl⟩ := h; simp [Vm.dat, Rep]
  | .list n cs, v, fp, hF, h => by
    simp only [Vm.dat]
    have h0 : fp = [] := by simp only [Rep] at h; exact h.1
    subst h0
    exact Rep.mono (fun b hb => ⟨hI b hb, rfl⟩) (by simp) h
  | .fr sz n cs, v, fp, hF, h => by
    simp only [Vm.dat, Rep] at h ⊢
    obtain ⟨h0, h1, h⟩ := h
    rcases h with ⟨rfl, rfl, A, rfl⟩ | ⟨b, c, cells, vs, f, rfl, h3, h4, h5, h6, h7, rfl⟩
    · have : cs = [] := List.eq_nil_of_length_eq_zero (by simpa using h1)
      subst this
      exact ⟨trivial, h0, A, 0, [], rfl, by simp, .inl rfl, by simp [RepL, datL]⟩
    · exact ⟨trivial, h0, _, c, vs, rfl, h3, .inr ⟨b, 0, rfl, hF b (by simp), .of_whole h4 (by simpa using h6)⟩, RepL.dat hI (fun x hx => hF x (by simp [hx])) h7⟩
  | .st cs, v, fp, hF, h => by
    simp only [Vm.dat, Rep] at h ⊢
    obtain ⟨vs, h1, h2⟩ := h
    exact ⟨vs, h1, RepL.dat hI hF h2⟩
  | .tup cs, v, fp, hF, h => by
    simp only [Vm.dat, Rep] at h ⊢
    obtain ⟨vs, h1, h2⟩ := h
    exact ⟨vs, h1, RepL.dat hI hF h2⟩
  | .sl .., v, fp, hF, h => by
    simp only [Vm.dat]
    have h0 : fp = [] := by simp only [Rep] at h; exact h.1
    subst h0
    exact h
  | .ptr .., v, fp, hF, h => by simp only [Rep] at h; obtain ⟨_, rfl⟩ := h; simp [Vm.dat, Rep]
  | .pd cs, v, fp, hF, h => by
    simp only [Vm.dat]
    have h0 : fp = [] := by simp only [Rep] at h; exact h.1
    subst h0
    exact Rep.mono (fun b hb => ⟨hI b hb, rfl⟩) (by simp) h
  | .box cs, v, fp, hF, h => by
    simp only [Vm.dat, Rep] at h ⊢
    obtain ⟨b, cells, f, rfl, h3, h4, rfl⟩ := h
    exact ⟨trivial, b, 0, cells.toList, rfl, hF b (by simp), .of_whole h3 (by simp), RepL.dat hI (fun x hx => hF x (by simp [hx])) h4⟩
  | .fn g caps, v, fp, hF, h => by
    simp only [Vm.dat, Rep] at h ⊢
    obtain ⟨vs, h1, h2⟩ := h
    exact ⟨vs, h1, RepL.dat hI hF h2⟩
theorem RepL.dat (hI : ∀ b, I b → I' b) : ∀ {ds : List D} {vs : List Value} {fp : List Nat}, (∀ b ∈ fp, I' b) → RepL μ I w ds vs fp → RepL μ I' w (datL ds) vs []
  | [], vs, fp, hF, h => by simp only [RepL] at h; simp [datL, RepL, h.1]
  | d :: ds, vs, fp, hF, h => by
    simp only [RepL] at h
    obtain ⟨v, vs', f1, f2, rfl, rfl, h3, h4⟩ := h
    simp only [datL, RepL]
    exact ⟨v, vs', [], [], rfl, rfl, Rep.dat hI (fun b hb => hF b (by simp [hb])) h3, RepL.dat hI (fun b hb => hF b (by simp [hb])) h4⟩
end
end
end Go.Proofs.Ytlbbhkpjjciaiaa.Vm

