/-
  Trees, edges, processes as cells; expressions: their shape. No conditions.
-/
import Derived.Test.YtljncoikoffijaaE1
namespace Go.Proofs.Ytljncoikoffijaa.Vm
open Go
set_option linter.unusedVariables false
set_option linter.unusedSimpArgs false
set_option maxRecDepth 200000

attribute [go_sem] one
@[go_sem] theorem mk22 (a b : D) : makeD [a, b] 2 = [a, b] := rfl
@[go_sem] theorem mk33 (a b c : D) : makeD [a, b, c] 3 = [a, b, c] := rfl
@[go_sem] theorem mk36 (a b c : D) : makeD [a, b, c] 6 = [a, b, c, a, b, c] := by simp [makeD, List.range_succ]
@[go_sem] theorem mk44 (a b c d : D) : makeD [a, b, c, d] 4 = [a, b, c, d] := rfl
@[go_sem] theorem mkEE (a b c d e f g h i j : D) : makeD [a, b, c, d, e, f, g, h, i, j] 10 = [a, b, c, d, e, f, g, h, i, j] := rfl
@[go_sem] theorem gd8 {α : Type} (x0 x1 x2 x3 x4 x5 x6 x7 x8 d : α) (l : List α) : (x0 :: x1 :: x2 :: x3 :: x4 :: x5 :: x6 :: x7 :: x8 :: l).getD 8 d = x8 := rfl
@[go_sem] theorem gd9 {α : Type} (x0 x1 x2 x3 x4 x5 x6 x7 x8 x9 d : α) (l : List α) : (x0 :: x1 :: x2 :: x3 :: x4 :: x5 :: x6 :: x7 :: x8 :: x9 :: l).getD 9 d = x9 := rfl
@[go_sem] theorem ss9 (x0 x1 x2 x3 x4 x5 x6 x7 x8 x9 y : D) (l : List D) : stSeg (x0 :: x1 :: x2 :: x3 :: x4 :: x5 :: x6 :: x7 :: x8 :: x9 :: l) 9 [y] = x0 :: x1 :: x2 :: x3 :: x4 :: x5 :: x6 :: x7 :: x8 :: y :: l := rfl
@[go_sem] theorem ssE6 (x0 x1 x2 x3 x4 x5 x6 x7 x8 y z u : D) (l : List D) : stSeg (x0 :: x1 :: x2 :: x3 :: x4 :: x5 :: x6 :: x7 :: x8 :: l) 6 [y, z, u] = x0 :: x1 :: x2 :: x3 :: x4 :: x5 :: y :: z :: u :: l := rfl
@[go_sem] theorem ssE0 (x0 x1 x2 x3 x4 x5 x6 x7 x8 x9 y0 y1 y2 y3 y4 y5 y6 y7 y8 y9 : D) (l : List D) : stSeg (x0 :: x1 :: x2 :: x3 :: x4 :: x5 :: x6 :: x7 :: x8 :: x9 :: l) 0 [y0, y1, y2, y3, y4, y5, y6, y7, y8, y9] = y0 :: y1 :: y2 :: y3 :: y4 :: y5 :: y6 :: y7 :: y8 :: y9 :: l := rfl
/-- Expressions and formulas. -/
inductive Tree where
  | mk (k v : Int) (ks : List Tree)
def Tree.k : Tree → Int | .mk k _ _ => k
def Tree.v : Tree → Int | .mk _ v _ => v
def Tree.ks : Tree → List Tree | .mk _ _ ks => ks
instance : Inhabited Tree := ⟨.mk 0 0 []⟩
theorem Tree.eta (t : Tree) : Tree.mk t.k t.v t.ks = t := by cases t; rfl
@[go_sem] theorem Tree.k_mk (k v : Int) (ks : List Tree) : (Tree.mk k v ks).k = k := rfl
@[go_sem] theorem Tree.v_mk (k v : Int) (ks : List Tree) : (Tree.mk k v ks).v = v := rfl
@[go_sem] theorem Tree.ks_mk (k v : Int) (ks : List Tree) : (Tree.mk k v ks).ks = ks := rfl
mutual
def cX : Tree → List D
  | .mk k v ks => [.int .i64 k, .int .i64 v, .list ks.length (cXs ks)]
def cXs : List Tree → List D
  | [] => []
  | t :: ts => cX t ++ cXs ts
end
theorem cXs_eq : ∀ ts, cXs ts = cat cX ts
  | [] => rfl
  | t :: ts => by rw [cXs, cXs_eq ts, cat_cons]
theorem cX_mk (k v : Int) (ks : List Tree) : cX (.mk k v ks) = [.int .i64 k, .int .i64 v, li cX ks] := by rw [cX, cXs_eq]; rfl
theorem cX_eq (t : Tree) : cX t = [.int .i64 t.k, .int .i64 t.v, li cX t.ks] := by cases t; exact cX_mk ..
instance : Wide cX 3 := ⟨fun a => by rw [cX_eq]; rfl, by omega, fun a => by rw [cX_eq]; rfl⟩
theorem cX_deref (a : Tree) (H : Hp) (j : Nat) : (cX a).map (deref (j + 1) H) = cX a := by rw [cX_eq]; simp [deref, li]
mutual
theorem cX_bnd : ∀ (a : Tree) (N : Nat), bndL N (cX a)
  | .mk k v ks, N => by rw [cX]; exact ⟨trivial, trivial, by simp only [bnd]; exact cXs_bnd ks N, trivial⟩
theorem cXs_bnd : ∀ (ts : List Tree) (N : Nat), bndL N (cXs ts)
  | [], N => by simp [cXs, bndL]
  | t :: ts, N => by
    rw [cXs, bndL_iff]
    intro d hd
    rcases List.mem_append.1 hd with h | h
    · exact bndL_iff.1 (cX_bnd t N) d h
    · exact bndL_iff.1 (cXs_bnd ts N) d h
end
mutual
theorem cX_inj : ∀ (a b : Tree), cX a = cX b → a = b
  | .mk k v ks, .mk k' v' ks', h => by
    rw [cX, cX] at h
    simp only [List.cons.injEq, D.int.injEq, true_and, D.list.injEq, and_true] at h
    obtain ⟨rfl, rfl, _, h⟩ := h
    rw [cXs_inj ks ks' h]
theorem cXs_inj : ∀ (a b : List Tree), cXs a = cXs b → a = b
  | [], [], h => rfl
  | [], t :: ts, h => by
    have := congrArg List.length h
    rw [cXs, cXs, List.length_append, Wide.len (f := cX)] at this; simp at this; omega
  | t :: ts, [], h => by
    have := congrArg List.length h
    rw [cXs, cXs, List.length_append, Wide.len (f := cX)] at this; simp at this
  | t :: ts, u :: us, h => by
    rw [cXs, cXs] at h
    obtain ⟨h1, h2⟩ := List.append_inj h (by rw [Wide.len (f := cX), Wide.len (f := cX)])
    rw [cX_inj t u h1, cXs_inj ts us h2]
end
instance : Plain cX := ⟨fun a => by rw [cX_eq]; rfl, cX_deref, cX_bnd, cX_inj⟩
attribute [go_sem] cX_eq
/-- What is data stays as it is. -/
class Flat {α : Type} (f : α → List D) : Prop where
  dat : ∀ a, (f a).map dat = f a
section
variable {α : Type} {f : α → List D}
@[go_sem] theorem cat_flat [Flat f] (xs : List α) : datL (cat f xs) = cat f xs := by
  rw [datL_map, map_cat]; congr 1; funext a; exact Flat.dat a
@[go_sem] theorem cat_flat2 [Flat f] (xs : List α) : (cat f xs).map dat = cat f xs := by
  rw [map_cat]; congr 1; funext a; exact Flat.dat a
end
instance : Flat cX := ⟨fun a => by rw [cX_eq]; rfl⟩
/-- Edges of a process. -/
structure Ed where
  fr : Int
  to : Int
  g : Tree
  v : Int
  e : Tree
  sy : Int
instance : Inhabited Ed := ⟨⟨0, 0, default, 0, default, 0⟩⟩
def cE (x : Ed) : List D := [.int .i64 x.fr, .int .i64 x.to, .int .i64 x.g.k, .int .i64 x.g.v, li cX x.g.ks, .int .i64 x.v, .int .i64 x.e.k, .int .i64 x.e.v, li cX x.e.ks, .int .i64 x.sy]
instance : Wide cE 10 := ⟨fun _ => rfl, by omega, fun _ => rfl⟩
instance : Flat cE := ⟨fun _ => rfl⟩
instance : Plain cE := ⟨fun _ => rfl, fun a H j => by simp [cE, deref, li], fun a N => by simp only [cE, bndL, bnd, true_and, and_true]; exact ⟨li_bnd N _, li_bnd N _⟩, fun a b h => by
  simp only [cE, List.cons.injEq, D.int.injEq, true_and, and_true] at h
  obtain ⟨h1, h2, h3, h4, h5, h6, h7, h8, h9, h10⟩ := h
  have e1 : a.g = b.g := by rw [← Tree.eta a.g, ← Tree.eta b.g, h3, h4, li_inj h5]
  have e2 : a.e = b.e := by rw [← Tree.eta a.e, ← Tree.eta b.e, h7, h8, li_inj h9]
  cases a; cases b; simp_all⟩
/-- Processes. -/
structure Pr where
  loc : Int
  es : List Ed
instance : Inhabited Pr := ⟨⟨0, []⟩⟩
def cR (x : Pr) : List D := [.int .i64 x.loc, li cE x.es]
instance : Wide cR 2 := ⟨fun _ => rfl, by omega, fun _ => rfl⟩
instance : Flat cR := ⟨fun _ => rfl⟩
instance : Plain cR := ⟨fun _ => rfl, fun a H j => by simp [cR, deref, li], fun a N => by simp only [cR, bndL, bnd, true_and, and_true]; exact li_bnd N _, fun a b h => by
  simp only [cR, List.cons.injEq, D.int.injEq, true_and, and_true] at h
  have := li_inj h.2
  cases a; cases b; simp_all⟩
attribute [go_sem] cE cR
instance : Flat cI := ⟨fun _ => rfl⟩
instance : Flat cP := ⟨fun _ => rfl⟩
instance : Flat cL := ⟨fun _ => rfl⟩

/-- How many operands a kind of expression has. -/
def ar (k : Int) : Int := if k = 1 ∨ k = 2 then 0 else if k = 3 then 1 else if 4 ≤ k ∧ k ≤ 9 then 2 else -1
def lim (k : Int) : Int := if k = 1 then 3 else if k = 2 then 2 else 0
/-- Well-made down to a depth. -/
def ShapeOk : Nat → Tree → Prop
  | 0, _ => False
  | d + 1, t => (t.ks.length : Int) = ar t.k ∧ 0 ≤ t.v ∧ t.v ≤ lim t.k ∧ ∀ i, i < t.ks.length → ShapeOk d (nth t.ks i)
theorem ar_le (k : Int) : ar k ≤ 2 := by unfold ar; split; omega; split; omega; split <;> omega
theorem ShapeOk.two {d : Nat} {t : Tree} (h : ShapeOk d t) : t.ks.length ≤ 2 := by
  cases d with
  | zero => exact h.elim
  | succ d => have := h.1; have := ar_le t.k; omega
theorem l1Arity_pure (k : Int)  : Pure Try.prog 166 [.int .i64 k] (.int .i64 (ar k)) := by
  refine Pure.of_walk Try.func166 rfl (by simp [Try.f166]) (by simp [-List.drop_one, go_sem]) fun B hK => ?_
  (repeat' (first
    | refine AW_seq ?_
    | refine AW_region (id := 0) Γe3_ok [] (by kernel_rfl) ?_; simp  [-List.getD_eq_getElem?_getD, -List.drop_one, ↓splitB_true, ↓splitB_false, go_sem]
    | refine AW_region (id := 1) Γe3_ok [] (by kernel_rfl) ?_; simp  [-List.getD_eq_getElem?_getD, -List.drop_one, ↓splitB_true, ↓splitB_false, go_sem]
    | refine AW_region (id := 2) Γe3_ok [] (by kernel_rfl) ?_; simp  [-List.getD_eq_getElem?_getD, -List.drop_one, ↓splitB_true, ↓splitB_false, go_sem]
    | refine AW_region (id := 3) Γe3_ok [] (by kernel_rfl) ?_; simp  [-List.getD_eq_getElem?_getD, -List.drop_one, ↓splitB_true, ↓splitB_false, go_sem]
    | refine AW_region (id := 4) Γe3_ok [] (by kernel_rfl) ?_; simp  [-List.getD_eq_getElem?_getD, -List.drop_one, ↓splitB_true, ↓splitB_false, go_sem]
    | refine AW_region (id := 5) Γe3_ok [] (by kernel_rfl) ?_; simp  [-List.getD_eq_getElem?_getD, -List.drop_one, ↓splitB_true, ↓splitB_false, go_sem]
    | refine AW_region (id := 6) Γe3_ok [] (by kernel_rfl) ?_; simp  [-List.getD_eq_getElem?_getD, -List.drop_one, ↓splitB_true, ↓splitB_false, go_sem]
    | refine AW_region (id := 7) Γe3_ok [11] (by kernel_rfl) ?_; simp  [-List.getD_eq_getElem?_getD, -List.drop_one, ↓splitB_true, ↓splitB_false, go_sem]; try (refine ⟨fun s7a => ?_, fun s7a => ?_⟩ <;> (try simp [B_iff, B_not] at s7a) <;> try (refine ⟨fun s7b => ?_, fun s7b => ?_⟩ <;> (try simp [B_iff, B_not] at s7b)))
    | refine AW_region (id := 8) Γe3_ok [] (by kernel_rfl) ?_; simp  [-List.getD_eq_getElem?_getD, -List.drop_one, ↓splitB_true, ↓splitB_false, go_sem]
    | refine AW_region (id := 9) Γe3_ok [] (by kernel_rfl) ?_; simp  [-List.getD_eq_getElem?_getD, -List.drop_one, ↓splitB_true, ↓splitB_false, go_sem]
    | refine AW_condA (c := .tmp 4) ?_; simp [-List.getD_eq_getElem?_getD, -List.drop_one, ↓splitB_true, ↓splitB_false, go_sem]; try first | (refine ⟨?_, ?_⟩ <;> change AW _ _ _ _ _ _) | (refine ⟨fun c4 => ?_, fun c4 => ?_⟩ <;> (try simp [B_iff, B_not] at c4))
    | refine AW_condA (c := .tmp 7) ?_; simp [-List.getD_eq_getElem?_getD, -List.drop_one, ↓splitB_true, ↓splitB_false, go_sem]; try first | (refine ⟨?_, ?_⟩ <;> change AW _ _ _ _ _ _) | (refine ⟨fun c7 => ?_, fun c7 => ?_⟩ <;> (try simp [B_iff, B_not] at c7))
    | refine AW_condA (c := .tmp 14) ?_; simp [-List.getD_eq_getElem?_getD, -List.drop_one, ↓splitB_true, ↓splitB_false, go_sem]; try first | (refine ⟨?_, ?_⟩ <;> change AW _ _ _ _ _ _) | (refine ⟨fun c14 => ?_, fun c14 => ?_⟩ <;> (try simp [B_iff, B_not] at c14))
    | (refine AW_block ?_)
    | (refine AW_exit ?_; simp [-List.getD_eq_getElem?_getD, -List.drop_one, ↓splitB_true, ↓splitB_false, go_sem])
    | (refine AW_skip ?_; simp [-List.getD_eq_getElem?_getD, -List.drop_one, ↓splitB_true, ↓splitB_false, go_sem])
    | (refine AW_ret ?_; simp [-List.getD_eq_getElem?_getD, -List.drop_one, ↓splitB_true, ↓splitB_false, go_sem, Try.results166])
    | (intro hx; change AW _ _ _ _ _ _)
    | (refine ⟨?_, ?_⟩ <;> change AW _ _ _ _ _ _)
    | (intro hx; refine ⟨fun hs => ?_, fun hs => ?_⟩)
    | (refine ⟨fun hs => ?_, fun hs => ?_⟩)
    | (refine ⟨?_, fun hs => ?_⟩; change AW _ _ _ _ _ _)
    | (refine ⟨fun hs => ?_, ?_⟩; rotate_left; change AW _ _ _ _ _ _; rotate_left)))
  all_goals (first
    | (unfold ar; simp_all; done)
    | (unfold ar; rw [if_neg (by omega)]; first | (rw [if_pos (by omega)]; done) | (rw [if_neg (by omega), if_pos (by omega)]; done) | (rw [if_neg (by omega), if_neg (by omega)]; done))
    | (unfold ar; first | (rw [if_pos (by omega)]; done) | (rw [if_neg (by omega), if_pos (by omega)]; done) | (rw [if_neg (by omega), if_neg (by omega), if_pos (by omega)]; done) | (rw [if_neg (by omega), if_neg (by omega), if_neg (by omega)]; done))
    | skip)
noncomputable def l1Arity_pureC : Con := .pure fun
  | [.int .i64 k] => (True, .int .i64 (ar k))
  | _ => (False, .any)
attribute [go_sem] l1Arity_pureC
theorem l1Arity_pureC_ok : ConOk Try.prog 166 l1Arity_pureC := by
  refine ⟨callable Try.func166 (by decide) rfl, fun args h => ?_⟩
  revert h
  dsimp only
  split
  · intro h
    skip
    skip
    exact ⟨l1Arity_pure _, by simp [go_sem]⟩
  · intro h
    exact h.elim
noncomputable def Γe4 : FuncId → Con := ext Γe3 166 l1Arity_pureC
attribute [go_sem] Γe4
theorem Γe4_ok : ∀ g, ConOk Try.prog g (Γe4 g) := ext_ok Γe3_ok l1Arity_pureC_ok

theorem shape_iff {d : Int} (h : 1 ≤ d) {k v : Int} {ks : List Tree} : ShapeOk d.toNat (.mk k v ks) ↔ (ks.length : Int) = ar k ∧ 0 ≤ v ∧ v ≤ lim k ∧ ∀ i, i < ks.length → ShapeOk (d.toNat - 1) (nth ks i) := by
  obtain ⟨d', e⟩ : ∃ d', d.toNat = d' + 1 := ⟨d.toNat - 1, by omega⟩
  rw [e, Nat.add_sub_cancel]; exact Iff.rfl
noncomputable def l1Shape_pureCn (n_ : Nat) : Con := .pure fun
  | [.st [.int .i64 k, .int .i64 v, .list n_ks c_ks], .int .i64 d] => ((Is cX n_ks c_ks) ∧ (d ≤ 1000000) ∧ (d.toNat < n_), .bool (B (ShapeOk d.toNat (.mk k v (de cX c_ks)))))
  | _ => (False, .any)
attribute [go_sem] l1Shape_pureCn
theorem l1Shape_pureCn_ok {n_ : Nat} (ih : ∀ (k : Int) (v : Int) (ks : List Tree) (d : Int) (h0 : d ≤ 1000000) (hm_ : d.toNat < n_), Pure Try.prog 167 [.st [.int .i64 k, .int .i64 v, li cX ks], .int .i64 d] (.bool (B (ShapeOk d.toNat (.mk k v ks))))) : ConOk Try.prog 167 (l1Shape_pureCn n_) := by
  refine ⟨callable Try.func167 (by decide) rfl, fun args h => ?_⟩
  revert h
  dsimp only
  split
  · intro h
    obtain ⟨⟨ks, rfl, rfl⟩, h0, hm_⟩ := h
    try simp only [de_cat] at *
    exact ⟨ih _ _ ks _ h0 hm_, by simp [go_sem]⟩
  · intro h
    exact h.elim
set_option maxHeartbeats 1000000 in
theorem l1Shape_pure_rec : ∀ (n_ : Nat), ∀ (k : Int) (v : Int) (ks : List Tree) (d : Int) (h0 : d ≤ 1000000) (hm_ : d.toNat < n_), Pure Try.prog 167 [.st [.int .i64 k, .int .i64 v, li cX ks], .int .i64 d] (.bool (B (ShapeOk d.toNat (.mk k v ks)))) := by
  intro n_
  induction n_ with
  | zero => intros; omega
  | succ n_ ih =>
  intro k v ks d h0 hm_
  have Γr_ok := ext_ok Γe4_ok (l1Shape_pureCn_ok ih)
  refine Pure.of_walk Try.func167 rfl (by simp [Try.f167]) (by simp [-List.drop_one, go_sem]) fun B hK => ?_
  (repeat' (first
    | refine AW_seq ?_
    | refine AW_region (id := 0) Γr_ok [] (by kernel_rfl) ?_; simp  [-List.getD_eq_getElem?_getD, -List.drop_one, ↓splitB_true, ↓splitB_false, go_sem]; try (refine AW_data hK 2 ?_; simp [go_sem])
    | (refine AW_lenP 2 2 ⟨rfl, rfl⟩ fun hm => ?_); refine AW_region_draw (id := 1) Γr_ok mixed [9] [2] (by kernel_rfl) (by kernel_rfl) (by simp [-List.getD_eq_getElem?_getD, -List.drop_one, ↓splitB_true, ↓splitB_false, go_sem]) ?_; simp  [-List.getD_eq_getElem?_getD, -List.drop_one, ↓splitB_true, ↓splitB_false, go_sem]; try (refine ⟨fun s1a => ?_, fun s1a => ?_⟩ <;> (try simp [B_iff, B_not] at s1a) <;> try (refine ⟨fun s1b => ?_, fun s1b => ?_⟩ <;> (try simp [B_iff, B_not] at s1b)))
    | refine AW_region (id := 2) Γr_ok [] (by kernel_rfl) ?_; simp  [-List.getD_eq_getElem?_getD, -List.drop_one, ↓splitB_true, ↓splitB_false, go_sem]
    | refine AW_region (id := 3) Γr_ok [] (by kernel_rfl) ?_; simp  [-List.getD_eq_getElem?_getD, -List.drop_one, ↓splitB_true, ↓splitB_false, go_sem]
    | refine AW_region (id := 4) Γr_ok [] (by kernel_rfl) ?_; simp  [-List.getD_eq_getElem?_getD, -List.drop_one, ↓splitB_true, ↓splitB_false, go_sem]
    | refine AW_region (id := 5) Γr_ok [] (by kernel_rfl) ?_; simp  [-List.getD_eq_getElem?_getD, -List.drop_one, ↓splitB_true, ↓splitB_false, go_sem]
    | refine AW_region (id := 6) Γr_ok [] (by kernel_rfl) ?_; simp  [-List.getD_eq_getElem?_getD, -List.drop_one, ↓splitB_true, ↓splitB_false, go_sem]
    | refine AW_region (id := 7) Γr_ok [] (by kernel_rfl) ?_; simp  [-List.getD_eq_getElem?_getD, -List.drop_one, ↓splitB_true, ↓splitB_false, go_sem]
    | refine AW_region (id := 8) Γr_ok [] (by kernel_rfl) ?_; simp  [-List.getD_eq_getElem?_getD, -List.drop_one, ↓splitB_true, ↓splitB_false, go_sem]
    | refine AW_region (id := 9) Γr_ok [27] (by kernel_rfl) ?_; simp  [-List.getD_eq_getElem?_getD, -List.drop_one, ↓splitB_true, ↓splitB_false, go_sem]; try (refine ⟨fun s9a => ?_, fun s9a => ?_⟩ <;> (try simp [B_iff, B_not] at s9a) <;> try (refine ⟨fun s9b => ?_, fun s9b => ?_⟩ <;> (try simp [B_iff, B_not] at s9b)))
    | refine AW_region (id := 10) Γr_ok [] (by kernel_rfl) ?_; simp  [-List.getD_eq_getElem?_getD, -List.drop_one, ↓splitB_true, ↓splitB_false, go_sem]
    | refine AW_region (id := 11) Γr_ok [] (by kernel_rfl) ?_; simp  [-List.getD_eq_getElem?_getD, -List.drop_one, ↓splitB_true, ↓splitB_false, go_sem]
    | refine AW_region (id := 12) Γr_ok [] (by kernel_rfl) ?_; simp  [-List.getD_eq_getElem?_getD, -List.drop_one, ↓splitB_true, ↓splitB_false, go_sem]
    | refine AW_region (id := 14) Γr_ok [] (by kernel_rfl) ?_; simp  [-List.getD_eq_getElem?_getD, -List.drop_one, ↓splitB_true, ↓splitB_false, go_sem, c37, ne_nil c37, Nat.sub_pos_of_lt c37, wrap_in (x := d - 1) (by omega) (by omega), (show d - 1 ≤ 1000000 by omega), (show d ≤ 1000000 + 1 by omega), (show d.toNat - 1 < n_ by omega), (show 0 < d.toNat by omega), Tree.eta]
    | refine AW_region (id := 15) Γr_ok [] (by kernel_rfl) ?_; simp  [-List.getD_eq_getElem?_getD, -List.drop_one, ↓splitB_true, ↓splitB_false, go_sem]
    | refine AW_region (id := 13) Γr_ok [] (by kernel_rfl) ?_; simp  [-List.getD_eq_getElem?_getD, -List.drop_one, ↓splitB_true, ↓splitB_false, go_sem, wrapS (k := i) (by omega)]
    | refine AW_region (id := 16) Γr_ok [] (by kernel_rfl) ?_; simp  [-List.getD_eq_getElem?_getD, -List.drop_one, ↓splitB_true, ↓splitB_false, go_sem]
    | refine AW_condA (c := .tmp 17) ?_; simp [-List.getD_eq_getElem?_getD, -List.drop_one, ↓splitB_true, ↓splitB_false, go_sem]; try first | (refine ⟨?_, ?_⟩ <;> change AW _ _ _ _ _ _) | (refine ⟨fun c17 => ?_, fun c17 => ?_⟩ <;> (try simp [B_iff, B_not] at c17))
    | refine AW_condA (c := .tmp 20) ?_; simp [-List.getD_eq_getElem?_getD, -List.drop_one, ↓splitB_true, ↓splitB_false, go_sem]; try first | (refine ⟨?_, ?_⟩ <;> change AW _ _ _ _ _ _) | (refine ⟨fun c20 => ?_, fun c20 => ?_⟩ <;> (try simp [B_iff, B_not] at c20))
    | refine AW_condA (c := .tmp 22) ?_; simp [-List.getD_eq_getElem?_getD, -List.drop_one, ↓splitB_true, ↓splitB_false, go_sem]; try first | (refine ⟨?_, ?_⟩ <;> change AW _ _ _ _ _ _) | (refine ⟨fun c22 => ?_, fun c22 => ?_⟩ <;> (try simp [B_iff, B_not] at c22))
    | refine AW_condA (c := .tmp 32) ?_; simp [-List.getD_eq_getElem?_getD, -List.drop_one, ↓splitB_true, ↓splitB_false, go_sem]; try first | (refine ⟨?_, ?_⟩ <;> change AW _ _ _ _ _ _) | (refine ⟨fun c32 => ?_, fun c32 => ?_⟩ <;> (try simp [B_iff, B_not] at c32))
    | refine AW_condA (c := .tmp 37) ?_; simp [-List.getD_eq_getElem?_getD, -List.drop_one, ↓splitB_true, ↓splitB_false, go_sem]; try first | (refine ⟨?_, ?_⟩ <;> change AW _ _ _ _ _ _) | (refine ⟨fun c37 => ?_, fun c37 => ?_⟩ <;> (try simp [B_iff, B_not] at c37))
    | refine AW_condA (c := .tmp 48) ?_; simp [-List.getD_eq_getElem?_getD, -List.drop_one, ↓splitB_true, ↓splitB_false, go_sem]; try first | (refine ⟨?_, ?_⟩ <;> change AW _ _ _ _ _ _) | (refine ⟨fun c48 => ?_, fun c48 => ?_⟩ <;> (try simp [B_iff, B_not] at c48))
    | (refine AW_block (id := 1) (AW_loop (ι := Nat) (fun i : Nat => ⟨(upd (upd (upd (fun _ => .any) 1 (.int .i64 d)) 2 (.pd [.int .i64 k, .int .i64 v, li cX ks])) 6 (.int .i64 i)), fun _ => none⟩) (fun i => i ≤ ks.length ∧ AllTill (fun i => ShapeOk (d.toNat - 1) (nth ks i)) i) (fun i => ks.length - i) (0) ?_ ?_ ?_); exact ⟨Nat.zero_le _, .zero _⟩; ((repeat' (first | exact sub_noneH (by assumption) | exact sub_none | refine sub_upd ?_ ?_ | refine sub_noneE ?_)) <;> simp [-List.getD_eq_getElem?_getD, -List.drop_one, ↓splitB_true, ↓splitB_false, go_sem]); rintro i ⟨hi, hu⟩)
    | (refine ⟨i + 1, ⟨by omega, hu.succ c48⟩, by first | omega | (simp; done) | (simp; omega), ?_⟩; ((repeat' (first | exact sub_noneH (by assumption) | exact sub_none | refine sub_upd ?_ ?_ | refine sub_noneE ?_)) <;> simp [-List.getD_eq_getElem?_getD, -List.drop_one, ↓splitB_true, ↓splitB_false, go_sem]))
    | (refine AW_block ?_)
    | (refine AW_exit ?_; simp [-List.getD_eq_getElem?_getD, -List.drop_one, ↓splitB_true, ↓splitB_false, go_sem])
    | (refine AW_skip ?_; simp [-List.getD_eq_getElem?_getD, -List.drop_one, ↓splitB_true, ↓splitB_false, go_sem])
    | (refine AW_ret ?_; simp [-List.getD_eq_getElem?_getD, -List.drop_one, ↓splitB_true, ↓splitB_false, go_sem, Try.results167])
    | (intro hx; change AW _ _ _ _ _ _)
    | (refine ⟨?_, ?_⟩ <;> change AW _ _ _ _ _ _)
    | (intro hx; refine ⟨fun hs => ?_, fun hs => ?_⟩)
    | (refine ⟨fun hs => ?_, fun hs => ?_⟩)
    | (refine ⟨?_, fun hs => ?_⟩; change AW _ _ _ _ _ _)
    | (refine ⟨fun hs => ?_, ?_⟩; rotate_left; change AW _ _ _ _ _ _; rotate_left)))
  all_goals (first
    | (rw [shape_iff (by omega)]; exact ⟨c17, by omega, by simp only [lim]; (repeat' split) <;> omega, fun j hj => hu j (by omega)⟩)
    | (intro h; rw [show d.toNat = 0 by omega] at h; exact h)
    | (rw [shape_iff (by omega)]; rintro ⟨q1, q2, q3, q4⟩; first | (exact absurd q1 (by assumption)) | (exact absurd (q4 i (by assumption)) (by assumption)) | (simp only [lim] at q3; revert q3; (repeat' split) <;> intros <;> omega))
    | skip)
theorem l1Shape_pure (k : Int) (v : Int) (ks : List Tree) (d : Int) (h0 : d ≤ 1000000) : Pure Try.prog 167 [.st [.int .i64 k, .int .i64 v, li cX ks], .int .i64 d] (.bool (B (ShapeOk d.toNat (.mk k v ks)))) := l1Shape_pure_rec (d.toNat + 1) k v ks d h0 (by omega)
noncomputable def l1Shape_pureC : Con := .pure fun
  | [.st [.int .i64 k, .int .i64 v, .list n_ks c_ks], .int .i64 d] => ((Is cX n_ks c_ks) ∧ (d ≤ 1000000), .bool (B (ShapeOk d.toNat (.mk k v (de cX c_ks)))))
  | _ => (False, .any)
attribute [go_sem] l1Shape_pureC
theorem l1Shape_pureC_ok : ConOk Try.prog 167 l1Shape_pureC := by
  refine ⟨callable Try.func167 (by decide) rfl, fun args h => ?_⟩
  revert h
  dsimp only
  split
  · intro h
    obtain ⟨⟨ks, rfl, rfl⟩, h0⟩ := h
    try simp only [de_cat] at *
    exact ⟨l1Shape_pure _ _ ks _ h0, by simp [go_sem]⟩
  · intro h
    exact h.elim
noncomputable def Γe5 : FuncId → Con := ext Γe4 167 l1Shape_pureC
attribute [go_sem] Γe5
theorem Γe5_ok : ∀ g, ConOk Try.prog g (Γe5 g) := ext_ok Γe4_ok l1Shape_pureC_ok
end Go.Proofs.Ytljncoikoffijaa.Vm

