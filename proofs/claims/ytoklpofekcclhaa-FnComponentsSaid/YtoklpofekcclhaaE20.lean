import Derived.Test.YtoklpofekcclhaaE14
/-
  A system's graph: one of many, small. No conditions.
-/
namespace Go.Proofs.Ytoklpofekcclhaa.Vm
open Go
set_option linter.unusedVariables false
set_option linter.unusedSimpArgs false
set_option maxRecDepth 200000

theorem findI_range {α : Type} [Inhabited α] (p : α → Bool) (xs : List α) : -1 ≤ findI p xs ∧ findI p xs < xs.length := by
  unfold findI
  split
  · rename_i i h
    have := (List.findIdx?_eq_some_iff_getElem.1 h).1
    omega
  · omega
/-- A graph that is small. -/
def SmallG (x : List Ints2 × List (List Int)) : Prop := x.1.length ≤ 100 ∧ x.2.length ≤ 100 ∧ (∀ s ∈ x.1, s.1.length ≤ 1010 ∧ s.2.length ≤ 1010) ∧ ∀ l ∈ x.2, l.length ≤ 1000
/-- A graph, as a struct. -/
def sG (x : List Ints2 × List (List Int)) : D := .st [li cP x.1, li cL x.2]
attribute [go_sem] sG
structure BG where
  xs : List Ints2
  nx : List (List Int)
  i : Nat
  xb : Nat
  cp : Nat
  j : Nat
  l : List Int
  c : Nat
  lb : Nat
  cl : Nat
  jl : Nat
  H : Hp
def BGo (ps : List Pr) (gb : Nat) (q : BG) : Prop := (1 ≤ q.xs.length ∧ q.xs.length ≤ 60) ∧ q.i ≤ q.xs.length ∧ q.nx.length = q.i ∧ (∀ s ∈ q.xs, StF ps s.1 s.2) ∧ (∀ l ∈ q.nx, l.length ≤ 400) ∧ ¬ gb = q.xb ∧ q.cp * 2 ≤ q.xs.length * 2 + q.j ∧ q.H gb = some [.sl q.xb 2 0 q.xs.length q.cp, .fr 1 q.nx.length (cat cL q.nx)] ∧ q.H q.xb = some (cat cP q.xs ++ List.replicate q.j .any)
def BGi (ps : List Pr) (gb n : Nat) (q : BG) : Prop := BGo ps gb q ∧ q.i < q.xs.length ∧ q.c ≤ n ∧ q.l.length ≤ q.c ∧ ¬ gb = q.lb ∧ ¬ q.xb = q.lb ∧ q.cl ≤ q.l.length + q.jl ∧ q.H q.lb = some (cat cI q.l ++ List.replicate q.jl .any)
theorem BGo.small {init : List Int} {ps : List Pr} {gb : Nat} {q : BG} (hS : SysOk init ps) (h : BGo ps gb q) : SmallG (q.xs, q.nx) := by
  obtain ⟨g1, g2, g3, g4, g5, -⟩ := h
  have h3 := hS.2.2.1
  refine ⟨by dsimp only; omega, by dsimp only; omega, fun s hs => ?_, fun l hl => ?_⟩
  · have k := g4 s hs; have k1 := k.1; have k2 := k.2.1; omega
  · have := g5 l hl; omega
@[go_sem] theorem take_cP (xs : List Ints2) (ys : List D) : (cat cP xs ++ ys).take (xs.length * 2) = cat cP xs := cat_take_app xs ys
theorem load_cP {xs : List Ints2} {i : Nat} (h : i < xs.length) (ys : List D) : ((cat cP xs ++ ys).drop (i * 2)).take 2 = [li cI (nth xs i).1, li cI (nth xs i).2] := by
  have e : xs.drop i = nth xs i :: xs.drop (i + 1) := by rw [nth_lt h]; exact List.drop_eq_getElem_cons h
  rw [List.drop_append_of_le_length (by rw [cat_length]; omega), cat_drop, e, cat_cons]; rfl
theorem nextLe {l : List Int} {n c : Nat} (h1 : l.length ≤ c) (h2 : c ≤ n) (h3 : n ≤ 324) : l.length ≤ 324 := by omega

noncomputable def BuildGraph_enc : (List Ints2 × List (List Int)) × Bool → D := fun x => .tup [sG x.1, .bool x.2]
attribute [go_sem] BuildGraph_enc
theorem BuildGraph_flat (x : (List Ints2 × List (List Int)) × Bool) : dat (BuildGraph_enc x) = BuildGraph_enc x := by simp [go_sem]
def BuildGraph_good (init : List Int) (ps : List Pr) : (List Ints2 × List (List Int)) × Bool → Prop := fun x => SmallG x.1 ∧ (x.2 = true → 1 ≤ x.1.1.length ∧ x.1.2.length = x.1.1.length)
def BuildGraph_gd (init : List Int) (ps : List Pr) (x : ((List Ints2 × List (List Int)) × Bool) × D) : Prop := BuildGraph_good init ps x.1 ∧ dat x.2 = BuildGraph_enc x.1
noncomputable def BuildGraph_selD (init : List Int) (ps : List Pr) (c : Any) : ((List Ints2 × List (List Int)) × Bool) × D := sel (BuildGraph_gd init ps) (((([], []), false) : (List Ints2 × List (List Int)) × Bool), BuildGraph_enc ((([], []), false))) c
noncomputable def BuildGraph_sel (init : List Int) (ps : List Pr) (c : Any) : (List Ints2 × List (List Int)) × Bool := (BuildGraph_selD init ps c).1
theorem BuildGraph_okD (init : List Int) (ps : List Pr)  (c : Any) : BuildGraph_gd init ps (BuildGraph_selD init ps c) := by
  have hx : BuildGraph_good init ps ((([], []), false)) := by simp [BuildGraph_good, SmallG]
  exact sel_ok (p := BuildGraph_gd init ps) (x0 := (((([], []), false) : (List Ints2 × List (List Int)) × Bool), BuildGraph_enc ((([], []), false)))) ⟨hx, BuildGraph_flat _⟩ c
theorem BuildGraph_ok (init : List Int) (ps : List Pr)  (c : Any) : BuildGraph_good init ps (BuildGraph_sel init ps c) := (BuildGraph_okD init ps  c).1
theorem BuildGraph_ret (init : List Int) (ps : List Pr) {e_ : Exit} {S_ : St} (x : (List Ints2 × List (List Int)) × Bool) (he_ : e_ = .ret ∨ e_ = .normal)
    (h1 : (takeRes Try.prog S_ Try.f199.results.toList).1 ∧ dat (resD (takeRes Try.prog S_ Try.f199.results.toList).2.1) = BuildGraph_enc x) (hg : BuildGraph_good init ps x) :
    retR Try.prog Try.f199 (fun c => ((BuildGraph_selD init ps c).2, fun _ => none)) e_ S_ :=
  ret_prel (good := BuildGraph_gd init ps) (enc := fun x : ((List Ints2 × List (List Int)) × Bool) × D => x.2) (x, resD (takeRes Try.prog S_ Try.f199.results.toList).2.1) he_ ⟨h1.1, rfl⟩ ⟨hg, h1.2⟩
set_option maxHeartbeats 8000000 in
theorem BuildGraph_pure (init : List Int) (ps : List Pr)  : SpecR Try.prog 199 [.st [li cI init, li cR ps]] (fun _ => none) (fun c => ((BuildGraph_selD init ps c).2, fun _ => none)) := by
  refine SpecR.of_walk Try.func199 rfl (by simp [Try.f199]) fun B => ?_
  (repeat' (first
    | refine AW_seq ?_
    | refine AW_region (id := 0) Γe28_ok [] (by kernel_rfl) ?_; simp  [-List.getD_eq_getElem?_getD, -List.drop_one, ↓splitB_true, ↓splitB_false, go_sem]; try (refine AW_shut 1 ?_; simp [go_sem])
    | refine AW_region (id := 1) Γe28_ok [] (by kernel_rfl) ?_; simp  [-List.getD_eq_getElem?_getD, -List.drop_one, ↓splitB_true, ↓splitB_false, go_sem]; try ((intro c1); (have h1 := InitialState_ok init ps c1); (generalize InitialState_sel init ps c1 = z1 at *); (obtain ⟨⟨lo, va⟩, okk⟩ := z1); (simp only [InitialState_good] at h1); (refine AW_shut 4 ?_); (simp [go_sem]))
    | refine AW_region (id := 2) Γe28_ok [] (by kernel_rfl) ?_; simp  [-List.getD_eq_getElem?_getD, -List.drop_one, ↓splitB_true, ↓splitB_false, go_sem]
    | refine AW_region (id := 3) Γe28_ok [] (by kernel_rfl) ?_; simp  [-List.getD_eq_getElem?_getD, -List.drop_one, ↓splitB_true, ↓splitB_false, go_sem]
    | ((obtain ⟨hS, hT⟩ := h1.1 c19); (have hp3 := hS.2.2.1)); refine AW_region (id := 4) Γe28_ok [] (by kernel_rfl) ?_; simp  [-List.getD_eq_getElem?_getD, -List.drop_one, ↓splitB_true, ↓splitB_false, go_sem]; try ((refine AW_boxNil1N 6 1 rfl ?_); (refine AW_matBox 6 rfl fun gb hgb => ?_); (refine AW_matCell gb 0 (all := [.fr 2 1 [li cI lo, li cI va], .fr 1 0 []]) (by simp [upd, li]) rfl fun xb cp jx hx hcx hdx => ?_); (have n1 : ¬ gb = xb := (by rintro rfl; simp [upd] at hx)); (clear hgb hx); (refine AW_gen (fun H1 => H1 gb = some [.sl xb 2 0 1 cp, .fr 1 0 []] ∧ H1 xb = some (cat cP [((lo, va) : Ints2)] ++ List.replicate jx .any)) ⟨by simp [upd, n1], by simp [upd, cat_cons, cat_nil, cP]⟩ fun H1 ⟨w1, w2⟩ => ?_))
    | refine AW_region (id := 5) Γe28_ok [] (by kernel_rfl) ?_; simp  [-List.getD_eq_getElem?_getD, -List.drop_one, ↓splitB_true, ↓splitB_false, go_sem]
    | ((obtain ⟨g1, g2, g3, g4, g5, g6, g7, g8, g9⟩ := hq)); refine AW_region (id := 6) Γe28_ok [] (by kernel_rfl) ?_; simp  [-List.getD_eq_getElem?_getD, -List.drop_one, ↓splitB_true, ↓splitB_false, go_sem, g8, g9, g6, Ne.symm g6]
    | ((have hi : q.i < q.xs.length := (by omega)); (have hsi := g4 _ (nth_mem hi))); refine AW_region_snap (id := 8) Γe28_ok mixed [(gb, [.sl q.xb 2 0 q.xs.length q.cp, .fr 1 q.nx.length (cat cL q.nx)]), (q.xb, cat cP q.xs ++ List.replicate q.j .any)] [] [] (by kernel_rfl) (by kernel_rfl) (by simp [-List.getD_eq_getElem?_getD, -List.drop_one, ↓splitB_true, ↓splitB_false, go_sem, g8, g9, g6, Ne.symm g6, hi, hi, ne_nil hi, Nat.sub_pos_of_lt hi, load_cP hi, hS, hsi, (show q.i * 2 + 2 ≤ q.xs.length * 2 + q.j by omega)]) (by simp [-List.getD_eq_getElem?_getD, -List.drop_one, ↓splitB_true, ↓splitB_false, go_sem, g8, g9, g6, Ne.symm g6, hi, hi, ne_nil hi, Nat.sub_pos_of_lt hi, load_cP hi, hS, hsi, (show q.i * 2 + 2 ≤ q.xs.length * 2 + q.j by omega)]) ?_; simp  [-List.getD_eq_getElem?_getD, -List.drop_one, ↓splitB_true, ↓splitB_false, go_sem, g8, g9, g6, Ne.symm g6, hi, hi, ne_nil hi, Nat.sub_pos_of_lt hi, load_cP hi, hS, hsi, (show q.i * 2 + 2 ≤ q.xs.length * 2 + q.j by omega)]; try ((intro c8); (have h8 := l3Steps_ok init ps (nth q.xs q.i).1 (nth q.xs q.i).2 hS hsi c8); (generalize l3Steps_sel init ps (nth q.xs q.i).1 (nth q.xs q.i).2 c8 = zz at *); (simp only [l3Steps_good] at h8); (have hz := h8.1); (refine AW_shut 8 ?_); (simp [go_sem]))
    | refine AW_region (id := 9) Γe28_ok [] (by kernel_rfl) ?_; simp  [-List.getD_eq_getElem?_getD, -List.drop_one, ↓splitB_true, ↓splitB_false, go_sem, g8]; try ((refine AW_mat 9 rfl fun lb cl jl hlb hcl hdl => ?_); (have n2 : ¬ gb = lb := (by rintro rfl; simp [upd, g8] at hlb)); (have n3 : ¬ q.xb = lb := (by intro e; rw [← e] at hlb; simp [upd, g9] at hlb)); (clear hlb); (refine AW_gen (fun H2 => H2 gb = some [.sl q.xb 2 0 q.xs.length q.cp, .fr 1 q.nx.length (cat cL q.nx)] ∧ H2 q.xb = some (cat cP q.xs ++ List.replicate q.j .any) ∧ H2 lb = some (cat cI ([] : List Int) ++ List.replicate jl .any)) ⟨by simp [upd, g8, n2], by simp [upd, g9, n3], by simp [upd, cat_nil]⟩ fun H2 ⟨w1, w2, w3⟩ => ?_))
    | refine AW_region (id := 10) Γe28_ok [] (by kernel_rfl) ?_; simp  [-List.getD_eq_getElem?_getD, -List.drop_one, ↓splitB_true, ↓splitB_false, go_sem]
    | ((have hr0 := hr); (obtain ⟨⟨r1, r2, r3, r4, r5, r6, r7, r8, r9⟩, i1, i2, i3, i4, i5, i6, i7⟩ := hr); (have i8 := nextLe i3 i2 hz)); refine AW_region (id := 11) Γe28_ok [] (by kernel_rfl) ?_; simp  [-List.getD_eq_getElem?_getD, -List.drop_one, ↓splitB_true, ↓splitB_false, go_sem]
    | ((have hi2 : q.i < r.xs.length := (by omega)); (have hs2 := r4 _ (nth_mem hi2)); (have hst := h8.2 _ (nth_mem c42))); refine AW_region_snap (id := 13) Γe28_ok mixed [(gb, [.sl r.xb 2 0 r.xs.length r.cp, .fr 1 r.nx.length (cat cL r.nx)]), (r.xb, cat cP r.xs ++ List.replicate r.j .any)] [] [] (by kernel_rfl) (by kernel_rfl) (by simp [-List.getD_eq_getElem?_getD, -List.drop_one, ↓splitB_true, ↓splitB_false, go_sem, r8, r9, r6, Ne.symm r6, i4, i5, Ne.symm i4, Ne.symm i5, hi2, hi2, ne_nil hi2, Nat.sub_pos_of_lt hi2, c42, ne_nil c42, Nat.sub_pos_of_lt c42, load_cP hi2, hS, hs2, (show q.i * 2 + 2 ≤ r.xs.length * 2 + r.j by omega), (show StepF ps ((nth zz r.c).1, (nth zz r.c).2.1, (nth zz r.c).2.2.1, (nth zz r.c).2.2.2) from hst)]) (by simp [-List.getD_eq_getElem?_getD, -List.drop_one, ↓splitB_true, ↓splitB_false, go_sem, r8, r9, r6, Ne.symm r6, i4, i5, Ne.symm i4, Ne.symm i5, hi2, hi2, ne_nil hi2, Nat.sub_pos_of_lt hi2, c42, ne_nil c42, Nat.sub_pos_of_lt c42, load_cP hi2, hS, hs2, (show q.i * 2 + 2 ≤ r.xs.length * 2 + r.j by omega), (show StepF ps ((nth zz r.c).1, (nth zz r.c).2.1, (nth zz r.c).2.2.1, (nth zz r.c).2.2.2) from hst)]) ?_; simp  [-List.getD_eq_getElem?_getD, -List.drop_one, ↓splitB_true, ↓splitB_false, go_sem, r8, r9, r6, Ne.symm r6, i4, i5, Ne.symm i4, Ne.symm i5, hi2, hi2, ne_nil hi2, Nat.sub_pos_of_lt hi2, c42, ne_nil c42, Nat.sub_pos_of_lt c42, load_cP hi2, hS, hs2, (show q.i * 2 + 2 ≤ r.xs.length * 2 + r.j by omega), (show StepF ps ((nth zz r.c).1, (nth zz r.c).2.1, (nth zz r.c).2.2.1, (nth zz r.c).2.2.2) from hst)]; try ((intro c13); (have h13 := l3Apply_ok init ps (nth r.xs q.i).1 (nth r.xs q.i).2 (nth zz r.c).1 (nth zz r.c).2.1 (nth zz r.c).2.2.1 (nth zz r.c).2.2.2 hS hs2 hst c13); (generalize l3Apply_sel init ps (nth r.xs q.i).1 (nth r.xs q.i).2 (nth zz r.c).1 (nth zz r.c).2.1 (nth zz r.c).2.2.1 (nth zz r.c).2.2.2 c13 = y at *); (simp only [l3Apply_good] at h13); (obtain ⟨l2, v2⟩ := y); (dsimp only at h13); (refine AW_shut 11 ?_); (simp [go_sem]))
    | refine AW_region (id := 14) Γe28_ok [] (by kernel_rfl) ?_; simp  [-List.getD_eq_getElem?_getD, -List.drop_one, ↓splitB_true, ↓splitB_false, go_sem, r8, r9, r6, Ne.symm r6]; try ((obtain ⟨k1, k2⟩ := findI_range (fun z => decide (z = ((l2, v2) : Ints2))) r.xs); (generalize findI (fun z => decide (z = ((l2, v2) : Ints2))) r.xs = kk at *); (have va : BGi ps gb zz.length ⟨r.xs, r.nx, r.i, r.xb, r.cp, r.j, r.l, r.c + 1, r.lb, r.cl, r.jl, r.H⟩ ∧ r.i = q.i := ⟨⟨⟨r1, r2, r3, r4, r5, r6, r7, r8, r9⟩, i1, c42, Nat.le_succ_of_le i3, i4, i5, i6, i7⟩, hri⟩))
    | refine AW_region (id := 15) Γe28_ok [] (by kernel_rfl) ?_; simp  [-List.getD_eq_getElem?_getD, -List.drop_one, ↓splitB_true, ↓splitB_false, go_sem]
    | refine AW_region (id := 16) Γe28_ok [] (by kernel_rfl) ?_; simp  [-List.getD_eq_getElem?_getD, -List.drop_one, ↓splitB_true, ↓splitB_false, go_sem, r8, r9]
    | refine AW_region (id := 17) Γe28_ok [] (by kernel_rfl) ?_; simp  [-List.getD_eq_getElem?_getD, -List.drop_one, ↓splitB_true, ↓splitB_false, go_sem, r8, r9, r6, Ne.symm r6, i4, i5, Ne.symm i4, Ne.symm i5, r7, (show r.xs.length ≤ 9223372036854775806 by omega), (show 2 * (r.xs.length + 1) * 48 ≤ 281474976710656 by omega)]; try ((refine AW_matCell gb 0 (all := [.fr 2 (r.xs.length + 1) (cat cP r.xs ++ [li cI l2, li cI v2]), .fr 1 r.nx.length (cat cL r.nx)]) (by simp [upd, r6, Ne.symm r6, li]) rfl fun xb2 cp2 jx2 hx2 hcx2 hdx2 => ?_); (have m1 : ¬ gb = xb2 := (by intro e; rw [← e] at hx2; simp [upd] at hx2)); (have m2 : ¬ xb2 = r.lb := (by intro e; rw [e] at hx2; simp [upd, i4, i5, Ne.symm i4, Ne.symm i5, i7] at hx2)); (clear hx2); (refine AW_gen (fun H3 => H3 gb = some [.sl xb2 2 0 (r.xs ++ [((l2, v2) : Ints2)]).length cp2, .fr 1 r.nx.length (cat cL r.nx)] ∧ H3 xb2 = some (cat cP (r.xs ++ [((l2, v2) : Ints2)]) ++ List.replicate jx2 .any) ∧ H3 r.lb = some (cat cI r.l ++ List.replicate r.jl .any)) ⟨by simp [upd, m1], by simp [upd, cat_append, cat_one, cP], by simp [upd, m2, Ne.symm m2, i4, i5, Ne.symm i4, Ne.symm i5, i7]⟩ fun H3 ⟨s1, s2, s3⟩ => ?_); (have fl17 : True ∧ True := ⟨trivial, trivial⟩))
    | refine AW_region (id := 18) Γe28_ok [] (by kernel_rfl) ?_; simp  [-List.getD_eq_getElem?_getD, -List.drop_one, ↓splitB_true, ↓splitB_false, go_sem]
    | refine AW_region (id := 19) Γe28_ok [] (by kernel_rfl) ?_; simp  [-List.getD_eq_getElem?_getD, -List.drop_one, ↓splitB_true, ↓splitB_false, go_sem]
    | (first | (have hlbH := s3) | (have hlbH := i7)); refine AW_region (id := 20) Γe28_ok [] (by kernel_rfl) ?_; simp  [-List.getD_eq_getElem?_getD, -List.drop_one, ↓splitB_true, ↓splitB_false, go_sem, hlbH]; try (first | (rename True ∧ True => k_; have vb : BGi ps gb zz.length ⟨(r.xs ++ [((l2, v2) : Ints2)]), r.nx, r.i, xb2, cp2, jx2, r.l, r.c + 1, r.lb, r.cl, r.jl, H3⟩ ∧ r.i = q.i := ⟨⟨⟨by simp; omega, by simp; omega, r3, (fun s hs => by rcases List.mem_append.1 hs with h | h; exact r4 s h; simp at h; subst h; exact h13), r5, m1, by simp; omega, s1, s2⟩, by simp; omega, c42, Nat.le_succ_of_le i3, i4, m2, i6, s3⟩, hri⟩) | skip)
    | refine AW_region (id := 21) Γe28_ok [] (by kernel_rfl) ?_; simp  [-List.getD_eq_getElem?_getD, -List.drop_one, ↓splitB_true, ↓splitB_false, go_sem, hlbH, i6, (show r.l.length ≤ 9223372036854775806 by omega), (show 2 * (r.l.length + 1) * 8 ≤ 281474976710656 by omega), (show r.l.length ≤ r.l.length + r.jl by omega)]; try (first | (rename True ∧ True => k_; refine AW_mat 9 rfl fun lb2 cl2 jl2 hl2 hc2 hd2 => ?_; have u1 : ¬ gb = lb2 := (by rintro rfl; simp [upd, s1, i4, Ne.symm i4] at hl2); have u2 : ¬ xb2 = lb2 := (by rintro rfl; simp [upd, s2, m2, Ne.symm m2] at hl2); clear hl2; refine AW_gen (fun H4 => H4 gb = some [.sl xb2 2 0 (r.xs ++ [((l2, v2) : Ints2)]).length cp2, .fr 1 r.nx.length (cat cL r.nx)] ∧ H4 xb2 = some (cat cP (r.xs ++ [((l2, v2) : Ints2)]) ++ List.replicate jx2 .any) ∧ H4 lb2 = some (cat cI (r.l ++ [(r.xs.length : Int)]) ++ List.replicate jl2 .any)) ⟨by simp [upd, s1, u1, i4, Ne.symm i4], by simp [upd, s2, u2, m2, Ne.symm m2], by simp [upd, cat_append, cat_one, cI]⟩ fun H4 ⟨t1, t2, t3⟩ => ?_; have vd : BGi ps gb zz.length ⟨(r.xs ++ [((l2, v2) : Ints2)]), r.nx, r.i, xb2, cp2, jx2, (r.l ++ [(r.xs.length : Int)]), r.c + 1, lb2, cl2, jl2, H4⟩ ∧ r.i = q.i := ⟨⟨⟨by simp; omega, by simp; omega, r3, (fun s hs => by rcases List.mem_append.1 hs with h | h; exact r4 s h; simp at h; subst h; exact h13), r5, m1, by simp; omega, t1, t2⟩, by simp; omega, c42, by simp; omega, u1, u2, by simp; omega, t3⟩, hri⟩) | (refine AW_mat 9 rfl fun lb2 cl2 jl2 hl2 hc2 hd2 => ?_; have u1 : ¬ gb = lb2 := (by rintro rfl; simp [upd, r8, i4, Ne.symm i4] at hl2); have u2 : ¬ r.xb = lb2 := (by intro e; rw [← e] at hl2; simp [upd, r9, i5, Ne.symm i5] at hl2); clear hl2; refine AW_gen (fun H4 => H4 gb = some [.sl r.xb 2 0 r.xs.length r.cp, .fr 1 r.nx.length (cat cL r.nx)] ∧ H4 r.xb = some (cat cP r.xs ++ List.replicate r.j .any) ∧ H4 lb2 = some (cat cI (r.l ++ [kk]) ++ List.replicate jl2 .any)) ⟨by simp [upd, r8, u1, i4, Ne.symm i4], by simp [upd, r9, u2, i5, Ne.symm i5], by simp [upd, cat_append, cat_one, cI]⟩ fun H4 ⟨t1, t2, t3⟩ => ?_; have vc : BGi ps gb zz.length ⟨r.xs, r.nx, r.i, r.xb, r.cp, r.j, (r.l ++ [kk]), r.c + 1, lb2, cl2, jl2, H4⟩ ∧ r.i = q.i := ⟨⟨⟨r1, r2, r3, r4, r5, r6, r7, t1, t2⟩, i1, c42, by simp; omega, u1, u2, by simp; omega, t3⟩, hri⟩))
    | refine AW_region (id := 12) Γe28_ok [] (by kernel_rfl) ?_; simp  [-List.getD_eq_getElem?_getD, -List.drop_one, ↓splitB_true, ↓splitB_false, go_sem, wrapS (k := r.c) (by omega)]
    | refine AW_region (id := 22) Γe28_ok [] (by kernel_rfl) ?_; simp  [-List.getD_eq_getElem?_getD, -List.drop_one, ↓splitB_true, ↓splitB_false, go_sem]
    | refine AW_region (id := 23) Γe28_ok [] (by kernel_rfl) ?_; simp  [-List.getD_eq_getElem?_getD, -List.drop_one, ↓splitB_true, ↓splitB_false, go_sem, r8, r9, r6, Ne.symm r6, i4, i5, Ne.symm i4, Ne.symm i5, i6, i7, (show r.l.length ≤ 9223372036854775806 by omega), (show 2 * (r.l.length + 1) * 8 ≤ 281474976710656 by omega), (show r.l.length ≤ r.l.length + r.jl by omega)]; try ((have fl23 : True ∧ True ∧ True := ⟨trivial, trivial, trivial⟩); (refine AW_gen (fun H4 => H4 gb = some [.sl r.xb 2 0 r.xs.length r.cp, .fr 1 r.nx.length (cat cL r.nx)] ∧ H4 r.xb = some (cat cP r.xs ++ List.replicate r.j .any)) ⟨by simp [upd, r8, i4, i5, Ne.symm i4, Ne.symm i5], by simp [upd, r9, i4, i5, Ne.symm i4, Ne.symm i5]⟩ fun H4 ⟨e8, e9⟩ => ?_); (refine AW_shut 9 ?_); (simp [go_sem, dat, datL_map, cat_flat2]))
    | (first | (refine AW_unmat 9 (b := r.lb) (sz := 1) (m := r.l.length) (cp := r.cl) rfl i7 (by omega) (by simp [cat_length]; done) (by simp [cat_length]; omega) ?_; refine AW_gen (fun H4 => H4 gb = some [.sl r.xb 2 0 r.xs.length r.cp, .fr 1 r.nx.length (cat cL r.nx)] ∧ H4 r.xb = some (cat cP r.xs ++ List.replicate r.j .any)) ⟨by simp [upd, r8, i4, i5, Ne.symm i4, Ne.symm i5]; done, by simp [upd, r9, i4, i5, Ne.symm i4, Ne.symm i5]; done⟩ fun H4 ⟨e8, e9⟩ => ?_; refine AW_shut 9 ?_; simp [go_sem, dat, datL_map, cat_flat2]) | skip); refine AW_region (id := 24) Γe28_ok [] (by kernel_rfl) ?_; simp  [-List.getD_eq_getElem?_getD, -List.drop_one, ↓splitB_true, ↓splitB_false, go_sem, e8, e9, r6, Ne.symm r6, (show r.nx.length ≤ 9223372036854775806 by omega), (show 2 * (r.nx.length + 1) * 24 ≤ 281474976710656 by omega)]; try (first | (rename True ∧ True ∧ True => k_; refine AW_gen (fun H5 => H5 gb = some [.sl r.xb 2 0 r.xs.length r.cp, .fr 1 (r.nx ++ [r.l ++ [(q.i : Int)]]).length (cat cL (r.nx ++ [r.l ++ [(q.i : Int)]]))] ∧ H5 r.xb = some (cat cP r.xs ++ List.replicate r.j .any)) ⟨by simp [upd, e8, e9, r6, Ne.symm r6, cat_append, cat_one, cL, li, cI]; done, by simp [upd, e8, e9, r6, Ne.symm r6]; done⟩ fun H5 ⟨f8, f9⟩ => ?_; have v5 : BGo ps gb ⟨r.xs, r.nx ++ [r.l ++ [(q.i : Int)]], q.i + 1, r.xb, r.cp, r.j, [], 0, 0, 0, 0, H5⟩ := ⟨r1, by dsimp only; omega, by simp; omega, r4, (fun l hl => by rcases List.mem_append.1 hl with h | h; exact r5 l h; simp at h; subst h; simp; omega), r6, r7, f8, f9⟩; generalize r.l ++ [(q.i : Int)] = l5 at v5) | (refine AW_gen (fun H5 => H5 gb = some [.sl r.xb 2 0 r.xs.length r.cp, .fr 1 (r.nx ++ [r.l]).length (cat cL (r.nx ++ [r.l]))] ∧ H5 r.xb = some (cat cP r.xs ++ List.replicate r.j .any)) ⟨by simp [upd, e8, e9, r6, Ne.symm r6, cat_append, cat_one, cL, li, cI]; done, by simp [upd, e8, e9, r6, Ne.symm r6]; done⟩ fun H5 ⟨f8, f9⟩ => ?_; have v5 : BGo ps gb ⟨r.xs, r.nx ++ [r.l], q.i + 1, r.xb, r.cp, r.j, [], 0, 0, 0, 0, H5⟩ := ⟨r1, by dsimp only; omega, by simp; omega, r4, (fun l hl => by rcases List.mem_append.1 hl with h | h; exact r5 l h; simp at h; subst h; omega), r6, r7, f8, f9⟩; generalize r.l = l5 at v5))
    | refine AW_region (id := 7) Γe28_ok [] (by kernel_rfl) ?_; simp  [-List.getD_eq_getElem?_getD, -List.drop_one, ↓splitB_true, ↓splitB_false, go_sem, wrapS (k := q.i) (by omega)]
    | ((refine AW_unmatCell gb 0 (b' := q.xb) (sz := 2) (m := q.xs.length) (cp := q.cp) (all := [.sl q.xb 2 0 q.xs.length q.cp, .fr 1 q.nx.length (cat cL q.nx)]) (cs := cat cP q.xs ++ List.replicate q.j .any) g8 rfl g6 g9 (by omega) (by simp [cat_length]) (by simp [cat_length]; omega) ?_)); refine AW_region (id := 25) Γe28_ok [] (by kernel_rfl) ?_; simp  [-List.getD_eq_getElem?_getD, -List.drop_one, ↓splitB_true, ↓splitB_false, go_sem, g6, Ne.symm g6]
    | refine AW_condA (c := .tmp 19) ?_; simp [-List.getD_eq_getElem?_getD, -List.drop_one, ↓splitB_true, ↓splitB_false, go_sem]; try first | (refine ⟨?_, ?_⟩ <;> change AW _ _ _ _ _ _) | (refine ⟨fun c19 => ?_, fun c19 => ?_⟩ <;> (try simp [B_iff, B_not] at c19))
    | refine AW_condA (c := .tmp 28) ?_; simp [-List.getD_eq_getElem?_getD, -List.drop_one, ↓splitB_true, ↓splitB_false, go_sem]; try first | (refine ⟨?_, ?_⟩ <;> change AW _ _ _ _ _ _) | (refine ⟨fun c28 => ?_, fun c28 => ?_⟩ <;> (try simp [B_iff, B_not] at c28))
    | refine AW_condA (c := .tmp 42) ?_; simp [-List.getD_eq_getElem?_getD, -List.drop_one, ↓splitB_true, ↓splitB_false, go_sem]; try first | (refine ⟨?_, ?_⟩ <;> change AW _ _ _ _ _ _) | (refine ⟨fun c42 => ?_, fun c42 => ?_⟩ <;> (try simp [B_iff, B_not] at c42))
    | refine AW_condA (c := .tmp 61) ?_; simp [-List.getD_eq_getElem?_getD, -List.drop_one, ↓splitB_true, ↓splitB_false, go_sem]; try first | (refine ⟨?_, ?_⟩ <;> change AW _ _ _ _ _ _) | (refine ⟨fun c61 => ?_, fun c61 => ?_⟩ <;> (try simp [B_iff, B_not] at c61))
    | refine AW_condA (c := .tmp 72) ?_; simp [-List.getD_eq_getElem?_getD, -List.drop_one, ↓splitB_true, ↓splitB_false, go_sem]; try first | (refine ⟨?_, ?_⟩ <;> change AW _ _ _ _ _ _) | (refine ⟨fun c72 => ?_, fun c72 => ?_⟩ <;> (try simp [B_iff, B_not] at c72))
    | refine AW_condA (c := .tmp 77) ?_; simp [-List.getD_eq_getElem?_getD, -List.drop_one, ↓splitB_true, ↓splitB_false, go_sem]; try first | (refine ⟨?_, ?_⟩ <;> change AW _ _ _ _ _ _) | (refine ⟨fun c77 => ?_, fun c77 => ?_⟩ <;> (try simp [B_iff, B_not] at c77))
    | refine AW_condA (c := .tmp 84) ?_; simp [-List.getD_eq_getElem?_getD, -List.drop_one, ↓splitB_true, ↓splitB_false, go_sem]; try first | (refine ⟨?_, ?_⟩ <;> change AW _ _ _ _ _ _) | (refine ⟨fun c84 => ?_, fun c84 => ?_⟩ <;> (try simp [B_iff, B_not] at c84))
    | (refine AW_block (id := 0) (AW_loop (ι := BG) (fun q : BG => ⟨(upd (upd (upd (upd (upd (fun _ => .any) 1 (.pd [li cI init, li cR ps])) 2 (.box [.nil, .nil])) 3 (.bool false)) 6 (.ptr gb 0)) 7 (.int .i64 q.i)), q.H⟩) (fun q => BGo ps gb q) (fun q => 61 - q.i) (⟨[((lo, va) : Ints2)], [], 0, xb, cp, jx, [], 0, 0, 0, 0, H1⟩) ?_ ?_ ?_); exact ⟨by simp, by simp, rfl, by simpa using hT, by simp, n1, by simpa using hdx, by simpa [cat_nil] using w1, w2⟩; ((repeat' (first | exact sub_noneH (by assumption) | exact sub_none | refine sub_upd ?_ ?_ | refine sub_noneE ?_)) <;> simp [-List.getD_eq_getElem?_getD, -List.drop_one, ↓splitB_true, ↓splitB_false, go_sem]); rintro q hq)
    | (refine ⟨⟨r.xs, r.nx ++ [l5], q.i + 1, r.xb, r.cp, r.j, [], 0, 0, 0, 0, H5⟩, v5, by first | omega | (simp; done) | (simp; omega), ?_⟩; ((repeat' (first | exact sub_noneH (by assumption) | exact sub_none | refine sub_upd ?_ ?_ | refine sub_noneE ?_)) <;> simp [-List.getD_eq_getElem?_getD, -List.drop_one, ↓splitB_true, ↓splitB_false, go_sem, ]); done)
    | (refine AW_block (id := 2) (AW_loop (ι := BG) (fun r : BG => ⟨(upd (upd (upd (upd (upd (upd (upd (upd (fun _ => .any) 1 (.pd [li cI init, li cR ps])) 2 (.box [.nil, .nil])) 3 (.bool false)) 6 (.ptr gb 0)) 7 (.int .i64 q.i)) 8 (li cT zz)) 9 (.sl r.lb 1 0 r.l.length r.cl)) 10 (.int .i64 r.c)), r.H⟩) (fun r => BGi ps gb zz.length r ∧ r.i = q.i) (fun r => zz.length - r.c) (⟨q.xs, q.nx, q.i, q.xb, q.cp, q.j, [], 0, lb, cl, jl, H2⟩) ?_ ?_ ?_); exact ⟨⟨⟨g1, g2, g3, g4, g5, g6, g7, w1, w2⟩, hi, Nat.zero_le _, Nat.le_refl _, n2, n3, by simpa using hdl, w3⟩, rfl⟩; ((repeat' (first | exact sub_noneH (by assumption) | exact sub_none | refine sub_upd ?_ ?_ | refine sub_noneE ?_)) <;> simp [-List.getD_eq_getElem?_getD, -List.drop_one, ↓splitB_true, ↓splitB_false, go_sem]); rintro r ⟨hr, hri⟩)
    | (refine ⟨⟨r.xs, r.nx, r.i, r.xb, r.cp, r.j, r.l, r.c + 1, r.lb, r.cl, r.jl, r.H⟩, va, by first | omega | (simp; done) | (simp; omega), ?_⟩; ((repeat' (first | exact sub_noneH (by assumption) | exact sub_none | refine sub_upd ?_ ?_ | refine sub_noneE ?_)) <;> simp [-List.getD_eq_getElem?_getD, -List.drop_one, ↓splitB_true, ↓splitB_false, go_sem, ]); done)
    | (refine AW_block ?_)
    | (refine AW_exit ?_; simp [-List.getD_eq_getElem?_getD, -List.drop_one, ↓splitB_true, ↓splitB_false, go_sem])
    | (refine AW_skip ?_; simp [-List.getD_eq_getElem?_getD, -List.drop_one, ↓splitB_true, ↓splitB_false, go_sem])
    | (refine AW_ret ?_; try simp [-List.getD_eq_getElem?_getD, -List.drop_one, ↓splitB_true, ↓splitB_false, go_sem, Try.results199])
    | (intro hx; change AW _ _ _ _ _ _)
    | (intro hx; change retR _ _ _ _ _)
    | (refine ⟨?_, ?_⟩ <;> change AW _ _ _ _ _ _)
    | (intro hx; refine ⟨fun hs => ?_, fun hs => ?_⟩)
    | (refine ⟨fun hs => ?_, fun hs => ?_⟩)
    | (refine ⟨?_, fun hs => ?_⟩; change AW _ _ _ _ _ _)
    | (refine ⟨fun hs => ?_, ?_⟩; rotate_left; change AW _ _ _ _ _ _; rotate_left)
    | ((fail_if_success change retR _ _ _ _ _); (refine ⟨⟨(r.xs ++ [((l2, v2) : Ints2)]), r.nx, r.i, xb2, cp2, jx2, (r.l ++ [(r.xs.length : Int)]), r.c + 1, lb2, cl2, jl2, H4⟩, vd, by dsimp only; omega, ?_⟩; ((repeat' (first | exact sub_noneH (by assumption) | exact sub_none | refine sub_upd ?_ ?_ | refine sub_noneE ?_)) <;> simp [-List.getD_eq_getElem?_getD, -List.drop_one, go_sem]); done))
    | ((fail_if_success change retR _ _ _ _ _); (refine ⟨⟨r.xs, r.nx, r.i, r.xb, r.cp, r.j, (r.l ++ [kk]), r.c + 1, lb2, cl2, jl2, H4⟩, vc, by dsimp only; omega, ?_⟩; ((repeat' (first | exact sub_noneH (by assumption) | exact sub_none | refine sub_upd ?_ ?_ | refine sub_noneE ?_)) <;> simp [-List.getD_eq_getElem?_getD, -List.drop_one, go_sem]); done))
    | ((fail_if_success change retR _ _ _ _ _); (refine ⟨⟨(r.xs ++ [((l2, v2) : Ints2)]), r.nx, r.i, xb2, cp2, jx2, r.l, r.c + 1, r.lb, r.cl, r.jl, H3⟩, vb, by dsimp only; omega, ?_⟩; ((repeat' (first | exact sub_noneH (by assumption) | exact sub_none | refine sub_upd ?_ ?_ | refine sub_noneE ?_)) <;> simp [-List.getD_eq_getElem?_getD, -List.drop_one, go_sem]); done))))
  all_goals (first
    | (refine BuildGraph_ret _ _ ((([], []), false)) ?_ ?_ ?_; (first | exact Or.inl rfl | exact Or.inr rfl); (focus (simp [-List.getD_eq_getElem?_getD, -List.drop_one, ↓splitB_true, ↓splitB_false, go_sem, Try.results199, dat, datL, li, cat_nil]; done)); (focus ((simp [BuildGraph_good, SmallG]); done)))
    | (refine BuildGraph_ret _ _ (((q.xs, q.nx), true)) ?_ ?_ ?_; (first | exact Or.inl rfl | exact Or.inr rfl); (focus (simp [-List.getD_eq_getElem?_getD, -List.drop_one, ↓splitB_true, ↓splitB_false, go_sem, Try.results199, dat, datL_map, li, cat_flat2, g6, Ne.symm g6]; done)); (focus ((exact ⟨BGo.small hS ⟨g1, g2, g3, g4, g5, g6, g7, g8, g9⟩, fun _ => ⟨g1.1, by dsimp only; omega⟩⟩); done)))
    | skip)
noncomputable def BuildGraphC : Con := .rel fun args H => match args with
  | [.st [.list n_init c_init, .list n_ps c_ps]] => ((Is cI n_init c_init) ∧ (Is cR n_ps c_ps), fun c => (BuildGraph_enc (BuildGraph_sel (de cI c_init) (de cR c_ps) c), H))
  | _ => (False, fun _ => (.any, H))
attribute [go_sem] BuildGraphC
theorem BuildGraphC_ok : ConOk Try.prog 199 BuildGraphC := by
  refine ⟨callable Try.func199 (by decide) rfl, fun args H h => ?_⟩
  revert h
  dsimp only
  split
  · intro h
    obtain ⟨⟨init, rfl, rfl⟩, ⟨ps, rfl, rfl⟩⟩ := h
    try simp only [de_cat] at *
    exact SpecR.enc ((SpecR.frame0 (BuildGraph_pure init ps ) (H := H)).shut) fun c => Prod.ext (BuildGraph_okD _ _  c).2.symm rfl
  · intro h
    exact h.elim
noncomputable def Γe29 : FuncId → Con := ext Γe28 199 BuildGraphC
attribute [go_sem] Γe29
theorem Γe29_ok : ∀ g, ConOk Try.prog g (Γe29 g) := ext_ok Γe28_ok BuildGraphC_ok

end Go.Proofs.Ytoklpofekcclhaa.Vm


/-
  Draws: graphs. No conditions.
-/
namespace Go.Proofs.Ytoklpofekcclhaa.Vm
open Go
set_option linter.unusedVariables false
set_option linter.unusedSimpArgs false
set_option maxRecDepth 200000

theorem AW_boxNil0N {P : Program} {B : Base} {n : Nat} {S : St} {c : Code} {Q : Exit → St → Prop} (t sz : Nat) {d : D} (hT : S.T t = .box [.nil, d]) (h : AW P B n c Q ⟨upd S.T t (.box [.fr sz 0 [], d]), S.H⟩) : AW P B n c Q S :=
  AW_rebox t hT (fun μ I w vs f hr => by
    simp only [RepL] at hr ⊢
    obtain ⟨v, vs', f1, f2, e1, e2, r1, r2⟩ := hr
    exact ⟨v, vs', f1, f2, e1, e2, rep_nilfrN r1, r2⟩) (fun N hb => by simp only [bndL, bnd] at hb ⊢; exact ⟨trivial, hb.2⟩) h
theorem oP_dat : ∀ xs : List Ints2, (cat oP xs).map dat = cat cP xs
  | [] => rfl
  | x :: xs => by rw [cat_cons, cat_cons, List.map_append, oP_dat xs]; simp [oP, cP, fr, dat, datL_map, cat_flat2, li]
structure LG where
  xs : List Ints2
  i : Int
  q : Int
  xb : Nat
  cp : Nat
  j : Nat
  H : Hp
def LGi (ys : List UInt8) (b gb : Nat) (p0 : Int) (q : LG) : Prop := 0 ≤ q.i ∧ q.i ≤ 6 ∧ ((q.xs.length : Int) + q.i ≤ 6 ∧ 1 ≤ (q.xs.length : Int) + q.i) ∧ p0 + 1 ≤ q.q ∧ q.q ≤ p0 + 1 + (6 - q.i) * 2 ∧ (∀ s ∈ q.xs, s.1.length ≤ 3 ∧ s.2.length ≤ 3) ∧ ¬ gb = q.xb ∧ ¬ b = q.xb ∧ q.cp * 2 ≤ q.xs.length * 2 + q.j ∧ q.H b = some [.list ys.length (cat cY ys), .int .i64 q.q] ∧ q.H gb = some [.sl q.xb 2 0 q.xs.length q.cp, .fr 1 0 []] ∧ q.H q.xb = some (cat oP q.xs ++ List.replicate q.j .any)

noncomputable def l4Graph_enc : List Ints2 × List (List Int) → D := sG
attribute [go_sem] l4Graph_enc
theorem l4Graph_flat (x : List Ints2 × List (List Int)) : dat (l4Graph_enc x) = l4Graph_enc x := by simp [go_sem]
def l4Graph_good  : List Ints2 × List (List Int) → Prop := fun x => SmallG x ∧ 1 ≤ x.1.length ∧ x.2.length = x.1.length
def l4Graph_gd  (x : (List Ints2 × List (List Int)) × D) : Prop := l4Graph_good x.1 ∧ dat x.2 = l4Graph_enc x.1
noncomputable def l4Graph_selD  (p : Int) (c : Any) : ((List Ints2 × List (List Int)) × D) × Int := dsel (l4Graph_gd) ((([([], [])], [[]]) : List Ints2 × List (List Int)), l4Graph_enc (([([], [])], [[]]))) 2100 p c
noncomputable def l4Graph_sel  (p : Int) (c : Any) : (List Ints2 × List (List Int)) × Int := ((l4Graph_selD p c).1.1, (l4Graph_selD p c).2)
theorem l4Graph_okD   (p : Int) (c : Any) : (l4Graph_good (l4Graph_sel p c).1 ∧ p ≤ (l4Graph_sel p c).2 ∧ (l4Graph_sel p c).2 ≤ p + 2100) ∧ dat (l4Graph_selD p c).1.2 = l4Graph_enc (l4Graph_sel p c).1 := by
  have hx : l4Graph_good (([([], [])], [[]])) := by simp [l4Graph_good, SmallG]
  have h := dsel_ok (good := l4Graph_gd) (x0 := ((([([], [])], [[]]) : List Ints2 × List (List Int)), l4Graph_enc (([([], [])], [[]])))) ⟨hx, l4Graph_flat _⟩ (K := 2100) (by omega) (p := p) c
  exact ⟨⟨h.1.1, h.2.1, h.2.2⟩, h.1.2⟩
theorem l4Graph_ok   (p : Int) (c : Any) : l4Graph_good (l4Graph_sel p c).1 ∧ p ≤ (l4Graph_sel p c).2 ∧ (l4Graph_sel p c).2 ≤ p + 2100 := (l4Graph_okD  p c).1
theorem l4Graph_ret  (ys : List UInt8) (p : Int) (b : Nat) {e_ : Exit} {S_ : St} (x : List Ints2 × List (List Int)) (p' : Int) (he_ : e_ = .ret ∨ e_ = .normal)
    (h1 : (takeRes Try.prog S_ Try.f175.results.toList).1 ∧ dat (resD (takeRes Try.prog S_ Try.f175.results.toList).2.1) = l4Graph_enc x ∧ (takeRes Try.prog S_ Try.f175.results.toList).2.2.H b = some [li cY ys, .int .i64 p']) (hg : l4Graph_good x) (h2 : p ≤ p' ∧ p' ≤ p + 2100) :
    retR Try.prog Try.f175 (fun c => ((l4Graph_selD p c).1.2, one b [li cY ys, .int .i64 (l4Graph_selD p c).2])) e_ S_ :=
  ret_draw (good := l4Graph_gd) (enc := fun x : (List Ints2 × List (List Int)) × D => x.2) (cells := fun q => [li cY ys, .int .i64 q]) (x, resD (takeRes Try.prog S_ Try.f175.results.toList).2.1) p' he_ ⟨h1.1, rfl, h1.2.2⟩ ⟨hg, h1.2.1⟩ h2
set_option maxHeartbeats 8000000 in
theorem l4Graph_spec (ys : List UInt8) (p : Int) (b : Nat)  (hl : ys.length ≤ 2000) (h0_ : 0 ≤ p) (hp_ : p + 2100 ≤ 1000000)  : SpecR Try.prog 175 [.ptr b 0] (one b [li cY ys, .int .i64 p]) (fun c => ((l4Graph_selD p c).1.2, one b [li cY ys, .int .i64 (l4Graph_selD p c).2])) := by
  refine SpecR.of_walk Try.func175 rfl (by simp [Try.f175]) fun B => ?_
  (repeat' (first
    | refine AW_seq ?_
    | refine AW_region (id := 0) Γe29_ok [] (by kernel_rfl) ?_; simp  [-List.getD_eq_getElem?_getD, -List.drop_one, ↓splitB_true, ↓splitB_false, go_sem]
    | refine AW_region (id := 1) Γe29_ok [] (by kernel_rfl) ?_; simp  [-List.getD_eq_getElem?_getD, -List.drop_one, ↓splitB_true, ↓splitB_false, go_sem, hl, (show 0 ≤ p by omega), (show p ≤ 1000000 by omega), (show 0 ≤ p + 1 by omega), (show p + 1 ≤ 1000000 by omega)]
    | refine AW_region (id := 2) Γe29_ok [] (by kernel_rfl) ?_; simp  [-List.getD_eq_getElem?_getD, -List.drop_one, ↓splitB_true, ↓splitB_false, go_sem, hl, (show 0 ≤ p + 1 by omega), (show p + 1 ≤ 1000000 by omega), (show 0 ≤ p + 1 + 1 by omega), (show p + 1 + 1 ≤ 1000000 by omega), (show p + 1 + 2000 ≤ 1000000 by omega)]; try ((intro c2 c2'); (have z0 := l2System_ok (p + 1) c2); (generalize l2System_sel (p + 1) c2 = z at *); (obtain ⟨-, z1, z2⟩ := z0); (obtain ⟨⟨init, ps⟩, p2⟩ := z); (dsimp only at z1 z2); (have y0 := BuildGraph_ok init ps c2'); (generalize BuildGraph_sel init ps c2' = y at *); (obtain ⟨⟨ga, gc⟩, gk⟩ := y); (simp only [BuildGraph_good] at y0); (refine AW_shut 3 ?_); (simp [go_sem]); (have fl2 : True ∧ True := ⟨trivial, trivial⟩))
    | refine AW_region (id := 3) Γe29_ok [20] (by kernel_rfl) ?_; simp  [-List.getD_eq_getElem?_getD, -List.drop_one, ↓splitB_true, ↓splitB_false, go_sem]; try (refine ⟨fun s3a => ?_, fun s3a => ?_⟩ <;> (try simp [B_iff, B_not] at s3a) <;> try (refine ⟨fun s3b => ?_, fun s3b => ?_⟩ <;> (try simp [B_iff, B_not] at s3b)))
    | refine AW_region (id := 4) Γe29_ok [] (by kernel_rfl) ?_; simp  [-List.getD_eq_getElem?_getD, -List.drop_one, ↓splitB_true, ↓splitB_false, go_sem]
    | refine AW_region (id := 5) Γe29_ok [] (by kernel_rfl) ?_; simp  [-List.getD_eq_getElem?_getD, -List.drop_one, ↓splitB_true, ↓splitB_false, go_sem]; try ((refine AW_boxNil0N 5 2 rfl ?_); (refine AW_boxNil1N 5 1 rfl ?_); (refine AW_matBox 5 rfl fun gb hgb => ?_); (have hbg : ¬ b = gb := (by rintro rfl; simp [upd] at hgb)); (clear hgb); (refine AW_matCell gb 0 (all := [.fr 2 0 [], .fr 1 0 []]) (by simp [upd]) rfl fun xb cp jx hx hcx hdx => ?_); (have n1 : ¬ gb = xb := (by rintro rfl; simp [upd] at hx)); (have n2 : ¬ b = xb := (by rintro rfl; simp [upd, hbg] at hx)); (clear hx); first | (rename True ∧ True => k_; refine AW_gen (fun H1 => H1 b = some [.list ys.length (cat cY ys), .int .i64 (p2)] ∧ H1 gb = some [.sl xb 2 0 0 cp, .fr 1 0 []] ∧ H1 xb = some (cat oP ([] : List Ints2) ++ List.replicate jx .any)) ⟨by simp [upd, hbg, n2, Ne.symm n2], by simp [upd, n1, Ne.symm n1], by simp [upd, cat_nil]⟩ fun H1 ⟨w1, w2, w3⟩ => ?_; obtain ⟨p0, hp0⟩ : ∃ p0, p2 = p0 := ⟨_, rfl⟩; rw [hp0] at w1; have hq0 : p + 1 ≤ p0 ∧ p0 ≤ p + 2001 := (by omega)) | (refine AW_gen (fun H1 => H1 b = some [.list ys.length (cat cY ys), .int .i64 (p + 1)] ∧ H1 gb = some [.sl xb 2 0 0 cp, .fr 1 0 []] ∧ H1 xb = some (cat oP ([] : List Ints2) ++ List.replicate jx .any)) ⟨by simp [upd, hbg, n2, Ne.symm n2], by simp [upd, n1, Ne.symm n1], by simp [upd, cat_nil]⟩ fun H1 ⟨w1, w2, w3⟩ => ?_; obtain ⟨p0, hp0⟩ : ∃ p0, p + 1 = p0 := ⟨_, rfl⟩; rw [hp0] at w1; have hq0 : p + 1 ≤ p0 ∧ p0 ≤ p + 2001 := (by omega)))
    | refine AW_region (id := 6) Γe29_ok [] (by kernel_rfl) ?_; simp  [-List.getD_eq_getElem?_getD, -List.drop_one, ↓splitB_true, ↓splitB_false, go_sem, w1, hl, (show 0 ≤ p0 by omega), (show p0 ≤ 1000000 by omega), (show 0 ≤ p0 + 1 by omega), (show p0 + 1 ≤ 1000000 by omega)]; try ((have hr := numI_range ys (p := p0) (by omega) (xs := [3, 4, 2, 5, 1, 6]) (lo := 1) (hi := 6) (by simp) (by simp)); (generalize numI ys p0 [3, 4, 2, 5, 1, 6] = kk at *))
    | ((obtain ⟨f0, f1, f2, f3, f4, f5, g7, g8, g9, ga1, gb1, gc1⟩ := hq)); refine AW_region (id := 7) Γe29_ok [] (by kernel_rfl) ?_; simp  [-List.getD_eq_getElem?_getD, -List.drop_one, ↓splitB_true, ↓splitB_false, go_sem]
    | refine AW_region_snap (id := 9) Γe29_ok mixed [(gb, [.sl q.xb 2 0 q.xs.length q.cp, .fr 1 0 []])] [] [0] (by kernel_rfl) (by kernel_rfl) (by simp [-List.getD_eq_getElem?_getD, -List.drop_one, ↓splitB_true, ↓splitB_false, go_sem, ga1, gb1, gc1, hl, hbg, Ne.symm hbg, g7, Ne.symm g7, g8, Ne.symm g8, (show 0 ≤ q.q by omega), (show q.q ≤ 1000000 by omega), (show 0 ≤ q.q + 1 by omega), (show q.q + 1 ≤ 1000000 by omega), (show 0 ≤ q.q + 1 + 1 by omega), (show q.q + 1 + 1 ≤ 1000000 by omega), g9, (show q.xs.length ≤ 9223372036854775806 by omega), (show 2 * (q.xs.length + 1) * 48 ≤ 281474976710656 by omega)]) (by simp [-List.getD_eq_getElem?_getD, -List.drop_one, ↓splitB_true, ↓splitB_false, go_sem, ga1, gb1, gc1, hl, hbg, Ne.symm hbg, g7, Ne.symm g7, g8, Ne.symm g8, (show 0 ≤ q.q by omega), (show q.q ≤ 1000000 by omega), (show 0 ≤ q.q + 1 by omega), (show q.q + 1 ≤ 1000000 by omega), (show 0 ≤ q.q + 1 + 1 by omega), (show q.q + 1 + 1 ≤ 1000000 by omega), g9, (show q.xs.length ≤ 9223372036854775806 by omega), (show 2 * (q.xs.length + 1) * 48 ≤ 281474976710656 by omega)]) ?_; simp  [-List.getD_eq_getElem?_getD, -List.drop_one, ↓splitB_true, ↓splitB_false, go_sem, ga1, gb1, gc1, hl, hbg, Ne.symm hbg, g7, Ne.symm g7, g8, Ne.symm g8, (show 0 ≤ q.q by omega), (show q.q ≤ 1000000 by omega), (show 0 ≤ q.q + 1 by omega), (show q.q + 1 ≤ 1000000 by omega), (show 0 ≤ q.q + 1 + 1 by omega), (show q.q + 1 + 1 ≤ 1000000 by omega), g9, (show q.xs.length ≤ 9223372036854775806 by omega), (show 2 * (q.xs.length + 1) * 48 ≤ 281474976710656 by omega)]; try ((refine AW_matCell gb 0 (all := [.fr 2 (q.xs.length + 1) (cat oP q.xs ++ [.fr 1 1 [.int .i64 (q.i.tmod 3)], .fr 1 3 [.int .i64 (pkI ys q.q 3), .int .i64 (pkI ys (q.q + 1) 2), .int .i64 0]]), .fr 1 0 []]) (by simp [upd, hbg, Ne.symm hbg, g7, Ne.symm g7, g8, Ne.symm g8]) rfl fun xb2 cp2 jx2 hx2 hcx2 hdx2 => ?_); (have m1 : ¬ gb = xb2 := (by intro e; rw [← e] at hx2; simp [upd] at hx2)); (have m2 : ¬ b = xb2 := (by intro e; rw [← e] at hx2; simp [upd, hbg, Ne.symm hbg, g7, Ne.symm g7, g8, Ne.symm g8] at hx2)); (clear hx2); (refine AW_gen (fun H2 => H2 b = some [.list ys.length (cat cY ys), .int .i64 (q.q + 1 + 1)] ∧ H2 gb = some [.sl xb2 2 0 (q.xs ++ [((([q.i.tmod 3], [pkI ys q.q 3, pkI ys (q.q + 1) 2, 0])) : Ints2)]).length cp2, .fr 1 0 []] ∧ H2 xb2 = some (cat oP (q.xs ++ [((([q.i.tmod 3], [pkI ys q.q 3, pkI ys (q.q + 1) 2, 0])) : Ints2)]) ++ List.replicate jx2 .any)) ⟨by simp [upd, m1, m2, hbg, Ne.symm hbg, g7, Ne.symm g7, g8, Ne.symm g8], by simp [upd, m1], by simp [upd, cat_append, cat_one, oP, fr, cat_cons, cat_nil, cI]⟩ fun H2 ⟨s1, s2, s3⟩ => ?_); (have v2 : LGi ys b gb p0 ⟨q.xs ++ [((([q.i.tmod 3], [pkI ys q.q 3, pkI ys (q.q + 1) 2, 0])) : Ints2)], q.i - 1, q.q + 1 + 1, xb2, cp2, jx2, H2⟩ := ⟨by dsimp only; omega, by dsimp only; omega, by simp; omega, by dsimp only; omega, by dsimp only; omega, (fun s hs => by rcases List.mem_append.1 hs with h | h; exact f5 s h; simp at h; subst h; simp), m1, m2, by simp; omega, s1, s2, s3⟩))
    | refine AW_region (id := 8) Γe29_ok [] (by kernel_rfl) ?_; simp  [-List.getD_eq_getElem?_getD, -List.drop_one, ↓splitB_true, ↓splitB_false, go_sem, wrap_in (x := q.i - 1) (by omega) (by omega)]
    | refine AW_region (id := 10) Γe29_ok [] (by kernel_rfl) ?_; simp  [-List.getD_eq_getElem?_getD, -List.drop_one, ↓splitB_true, ↓splitB_false, go_sem]
    | refine AW_region (id := 11) Γe29_ok [] (by kernel_rfl) ?_; simp  [-List.getD_eq_getElem?_getD, -List.drop_one, ↓splitB_true, ↓splitB_false, go_sem, r7, hbg, Ne.symm hbg, g7, Ne.symm g7, g8, Ne.symm g8]
    | refine AW_region (id := 13) Γe29_ok [] (by kernel_rfl) ?_; simp  [-List.getD_eq_getElem?_getD, -List.drop_one, ↓splitB_true, ↓splitB_false, go_sem, r6, r7, hl, hbg, Ne.symm hbg, g7, Ne.symm g7, g8, Ne.symm g8, (show 0 ≤ r.2.2.1 by omega), (show r.2.2.1 ≤ 1000000 by omega), (show 0 ≤ r.2.2.1 + 1 by omega), (show r.2.2.1 + 1 ≤ 1000000 by omega), (show (q.xs.length : Int) ≤ 1000000 by omega)]; try ((generalize pkI ys r.2.2.1 q.xs.length = yy at *); (refine AW_mat 8 rfl fun lb cl jl hlb hcl hdl => ?_); (have u1 : ¬ gb = lb := (by intro e; rw [← e] at hlb; simp [upd, hbg, Ne.symm hbg, g7, Ne.symm g7, g8, Ne.symm g8, r7] at hlb)); (have u2 : ¬ b = lb := (by intro e; rw [← e] at hlb; simp [upd, hbg, Ne.symm hbg, g7, Ne.symm g7, g8, Ne.symm g8] at hlb)); (have u3 : ¬ q.xb = lb := (by intro e; rw [← e] at hlb; simp [upd, hbg, Ne.symm hbg, g7, Ne.symm g7, g8, Ne.symm g8, r8] at hlb)); (clear hlb); (refine AW_gen (fun H3 => H3 b = some [.list ys.length (cat cY ys), .int .i64 (r.2.2.1 + 1)] ∧ H3 gb = some [.sl q.xb 2 0 q.xs.length q.cp, .fr 1 r.1.length (cat cL r.1)] ∧ H3 q.xb = some (cat oP q.xs ++ List.replicate q.j .any) ∧ H3 lb = some (cat cI [yy] ++ List.replicate jl .any)) ⟨by simp [upd, hbg, Ne.symm hbg, g7, Ne.symm g7, g8, Ne.symm g8, u2], by simp [upd, hbg, Ne.symm hbg, g7, Ne.symm g7, g8, Ne.symm g8, u1, r7], by simp [upd, hbg, Ne.symm hbg, g7, Ne.symm g7, g8, Ne.symm g8, u3, r8], by simp [upd, cat_one, cI]⟩ fun H3 ⟨h1, h2, h3, h4⟩ => ?_))
    | refine AW_region (id := 14) Γe29_ok [] (by kernel_rfl) ?_; simp  [-List.getD_eq_getElem?_getD, -List.drop_one, ↓splitB_true, ↓splitB_false, go_sem, h1, h2, hl, hbg, Ne.symm hbg, g7, Ne.symm g7, g8, Ne.symm g8, (show 0 ≤ r.2.2.1 + 1 by omega), (show r.2.2.1 + 1 ≤ 1000000 by omega), (show 0 ≤ r.2.2.1 + 1 + 1 by omega), (show r.2.2.1 + 1 + 1 ≤ 1000000 by omega), (show (q.xs.length : Int) ≤ 1000000 by omega)]; try ((generalize pkI ys (r.2.2.1 + 1) q.xs.length = xx at *))
    | refine AW_region (id := 15) Γe29_ok [70] (by kernel_rfl) ?_; simp  [-List.getD_eq_getElem?_getD, -List.drop_one, ↓splitB_true, ↓splitB_false, go_sem, h1, h2, h3, h4, hl, hbg, Ne.symm hbg, g7, Ne.symm g7, g8, Ne.symm g8, u1, u2, u3, Ne.symm u1, Ne.symm u2, Ne.symm u3, (show 0 ≤ r.2.2.1 + 1 + 1 by omega), (show r.2.2.1 + 1 + 1 ≤ 1000000 by omega), (show 0 ≤ r.2.2.1 + 1 + 1 + 1 by omega), (show r.2.2.1 + 1 + 1 + 1 ≤ 1000000 by omega), cat_one, cI]; try (refine ⟨fun s15a => ?_, fun s15a => ?_⟩ <;> (try simp [B_iff, B_not] at s15a) <;> try (refine ⟨fun s15b => ?_, fun s15b => ?_⟩ <;> (try simp [B_iff, B_not] at s15b)))
    | refine AW_region (id := 16) Γe29_ok [] (by kernel_rfl) ?_; simp  [-List.getD_eq_getElem?_getD, -List.drop_one, ↓splitB_true, ↓splitB_false, go_sem, h1, h2, h3, h4, hbg, Ne.symm hbg, g7, Ne.symm g7, g8, Ne.symm g8, u1, u2, u3, Ne.symm u1, Ne.symm u2, Ne.symm u3, cat_one, cI, (show cl ≤ jl + 1 by omega)]; try ((have fl16 : True ∧ True ∧ True := ⟨trivial, trivial, trivial⟩); (refine AW_gen (fun H4 => H4 b = some [.list ys.length (cat cY ys), .int .i64 (r.2.2.1 + 1 + 1 + 1)] ∧ H4 gb = some [.sl q.xb 2 0 q.xs.length q.cp, .fr 1 r.1.length (cat cL r.1)] ∧ H4 q.xb = some (cat oP q.xs ++ List.replicate q.j .any)) ⟨by simp [upd, hbg, Ne.symm hbg, g7, Ne.symm g7, g8, Ne.symm g8, u2, Ne.symm u2], by simp [upd, hbg, Ne.symm hbg, g7, Ne.symm g7, g8, Ne.symm g8, u1, Ne.symm u1, h2], by simp [upd, hbg, Ne.symm hbg, g7, Ne.symm g7, g8, Ne.symm g8, u3, Ne.symm u3, h3]⟩ fun H4 ⟨k1, k2, k3⟩ => ?_); (refine AW_shut 8 ?_); (simp [go_sem, dat, datL_map]))
    | (first | (refine AW_unmat 8 (b := lb) (sz := 1) (m := 1) (cp := cl) (all := cat cI [yy] ++ List.replicate jl .any) rfl (by simp [upd, Ne.symm u2, h4]) (by omega) (by simp [cat_length]) (by simp [cat_length]; omega) ?_; refine AW_gen (fun H4 => H4 b = some [.list ys.length (cat cY ys), .int .i64 (r.2.2.1 + 1 + 1 + 1)] ∧ H4 gb = some [.sl q.xb 2 0 q.xs.length q.cp, .fr 1 r.1.length (cat cL r.1)] ∧ H4 q.xb = some (cat oP q.xs ++ List.replicate q.j .any)) ⟨by simp [upd, hbg, Ne.symm hbg, g7, Ne.symm g7, g8, Ne.symm g8, u2, Ne.symm u2], by simp [upd, hbg, Ne.symm hbg, g7, Ne.symm g7, g8, Ne.symm g8, u1, Ne.symm u1, h2], by simp [upd, hbg, Ne.symm hbg, g7, Ne.symm g7, g8, Ne.symm g8, u3, Ne.symm u3, h3]⟩ fun H4 ⟨k1, k2, k3⟩ => ?_; refine AW_shut 8 ?_; simp [go_sem, dat, datL_map, cat_one, cI]) | skip); refine AW_region (id := 17) Γe29_ok [] (by kernel_rfl) ?_; simp  [-List.getD_eq_getElem?_getD, -List.drop_one, ↓splitB_true, ↓splitB_false, go_sem, k1, k2, k3, hbg, Ne.symm hbg, g7, Ne.symm g7, g8, Ne.symm g8, (show r.1.length ≤ 9223372036854775806 by omega), (show 2 * (r.1.length + 1) * 24 ≤ 281474976710656 by omega)]; try (first | (rename True ∧ True ∧ True => k_; refine AW_gen (fun H5 => H5 b = some [.list ys.length (cat cY ys), .int .i64 (r.2.2.1 + 1 + 1 + 1)] ∧ H5 gb = some [.sl q.xb 2 0 q.xs.length q.cp, .fr 1 (r.1 ++ [[yy, xx]]).length (cat cL (r.1 ++ [[yy, xx]]))] ∧ H5 q.xb = some (cat oP q.xs ++ List.replicate q.j .any)) ⟨by simp [upd, k1, hbg, Ne.symm hbg, g7, Ne.symm g7, g8, Ne.symm g8], by simp [upd, hbg, Ne.symm hbg, g7, Ne.symm g7, g8, Ne.symm g8, cat_append, cat_one, cL, li, cat_cons, cI, cat_nil], by simp [upd, k3, hbg, Ne.symm hbg, g7, Ne.symm g7, g8, Ne.symm g8]⟩ fun H5 ⟨e1, e2, e3⟩ => ?_; have v5 : ∀ l ∈ r.1 ++ [[yy, xx]], l.length ≤ 2 := (fun l hl => by rcases List.mem_append.1 hl with h | h; exact r3 l h; simp at h; subst h; simp); generalize [yy, xx] = l5 at *) | (refine AW_gen (fun H5 => H5 b = some [.list ys.length (cat cY ys), .int .i64 (r.2.2.1 + 1 + 1 + 1)] ∧ H5 gb = some [.sl q.xb 2 0 q.xs.length q.cp, .fr 1 (r.1 ++ [[yy]]).length (cat cL (r.1 ++ [[yy]]))] ∧ H5 q.xb = some (cat oP q.xs ++ List.replicate q.j .any)) ⟨by simp [upd, k1, hbg, Ne.symm hbg, g7, Ne.symm g7, g8, Ne.symm g8], by simp [upd, hbg, Ne.symm hbg, g7, Ne.symm g7, g8, Ne.symm g8, cat_append, cat_one, cL, li, cat_cons, cI, cat_nil], by simp [upd, k3, hbg, Ne.symm hbg, g7, Ne.symm g7, g8, Ne.symm g8]⟩ fun H5 ⟨e1, e2, e3⟩ => ?_; have v5 : ∀ l ∈ r.1 ++ [[yy]], l.length ≤ 2 := (fun l hl => by rcases List.mem_append.1 hl with h | h; exact r3 l h; simp at h; subst h; simp); generalize [yy] = l5 at *))
    | refine AW_region (id := 12) Γe29_ok [] (by kernel_rfl) ?_; simp  [-List.getD_eq_getElem?_getD, -List.drop_one, ↓splitB_true, ↓splitB_false, go_sem, wrapS (k := r.2.1) (by omega)]
    | ((refine AW_unmatCell gb 0 (b' := q.xb) (sz := 2) (m := q.xs.length) (cp := q.cp) (all := [.sl q.xb 2 0 q.xs.length q.cp, .fr 1 r.1.length (cat cL r.1)]) (cs := cat oP q.xs ++ List.replicate q.j .any) r7 rfl g7 r8 (by omega) (by simp [cat_length]) (by simp [cat_length]; omega) ?_)); refine AW_region (id := 18) Γe29_ok [] (by kernel_rfl) ?_; simp  [-List.getD_eq_getElem?_getD, -List.drop_one, ↓splitB_true, ↓splitB_false, go_sem, hbg, Ne.symm hbg, g7, Ne.symm g7, g8, Ne.symm g8]
    | refine AW_condA (c := .tmp 12) ?_; simp [-List.getD_eq_getElem?_getD, -List.drop_one, ↓splitB_true, ↓splitB_false, go_sem]; try first | (refine ⟨?_, ?_⟩ <;> change AW _ _ _ _ _ _) | (refine ⟨fun c12 => ?_, fun c12 => ?_⟩ <;> (try simp [B_iff, B_not] at c12))
    | refine AW_condA (c := .tmp 25) ?_; simp [-List.getD_eq_getElem?_getD, -List.drop_one, ↓splitB_true, ↓splitB_false, go_sem]; try first | (refine ⟨?_, ?_⟩ <;> change AW _ _ _ _ _ _) | (refine ⟨fun c25 => ?_, fun c25 => ?_⟩ <;> (try simp [B_iff, B_not] at c25))
    | refine AW_condA (c := .tmp 32) ?_; simp [-List.getD_eq_getElem?_getD, -List.drop_one, ↓splitB_true, ↓splitB_false, go_sem]; try first | (refine ⟨?_, ?_⟩ <;> change AW _ _ _ _ _ _) | (refine ⟨fun c32 => ?_, fun c32 => ?_⟩ <;> (try simp [B_iff, B_not] at c32))
    | refine AW_condA (c := .tmp 53) ?_; simp [-List.getD_eq_getElem?_getD, -List.drop_one, ↓splitB_true, ↓splitB_false, go_sem]; try first | (refine ⟨?_, ?_⟩ <;> change AW _ _ _ _ _ _) | (refine ⟨fun c53 => ?_, fun c53 => ?_⟩ <;> (try simp [B_iff, B_not] at c53))
    | refine AW_condA (c := .tmp 76) ?_; simp [-List.getD_eq_getElem?_getD, -List.drop_one, ↓splitB_true, ↓splitB_false, go_sem]; try first | (refine ⟨?_, ?_⟩ <;> change AW _ _ _ _ _ _) | (refine ⟨fun c76 => ?_, fun c76 => ?_⟩ <;> (try simp [B_iff, B_not] at c76))
    | (refine AW_block (id := 0) (AW_loop (ι := LG) (fun q : LG => ⟨(upd (upd (upd (upd (fun _ => .any) 0 (.ptr b 0)) 2 (.box [.nil, .nil])) 5 (.ptr gb 0)) 6 (.int .i64 q.i)), q.H⟩) (fun q => LGi ys b gb p0 q) (fun q => q.i.toNat) (⟨[], kk, p0 + 1, xb, cp, jx, upd H1 b (some [.list ys.length (cat cY ys), .int .i64 (p0 + 1)])⟩) ?_ ?_ ?_); exact ⟨by dsimp only; omega, by dsimp only; omega, by simp; omega, by dsimp only; omega, by dsimp only; omega, by simp, n1, n2, by simpa using hdx, by simp [upd], by simp [upd, Ne.symm hbg, w2], by simp [upd, Ne.symm n2, w3]⟩; ((repeat' (first | exact sub_noneH (by assumption) | exact sub_none | refine sub_upd ?_ ?_ | refine sub_noneE ?_)) <;> simp [-List.getD_eq_getElem?_getD, -List.drop_one, ↓splitB_true, ↓splitB_false, go_sem]); rintro q hq)
    | (refine ⟨⟨q.xs ++ [((([q.i.tmod 3], [pkI ys q.q 3, pkI ys (q.q + 1) 2, 0])) : Ints2)], q.i - 1, q.q + 1 + 1, xb2, cp2, jx2, H2⟩, v2, by first | omega | (simp; done) | (simp; omega), ?_⟩; ((repeat' (first | exact sub_noneH (by assumption) | exact sub_none | refine sub_upd ?_ ?_ | refine sub_noneE ?_)) <;> simp [-List.getD_eq_getElem?_getD, -List.drop_one, ↓splitB_true, ↓splitB_false, go_sem, ]))
    | (refine AW_block (id := 2) (AW_loop (ι := List (List Int) × Nat × Int × Hp) (fun r : List (List Int) × Nat × Int × Hp => ⟨(upd (upd (upd (upd (fun _ => .any) 0 (.ptr b 0)) 2 (.box [.nil, .nil])) 5 (.ptr gb 0)) 7 (.int .i64 r.2.1)), r.2.2.2⟩) (fun r => r.2.1 ≤ q.xs.length ∧ r.1.length = r.2.1 ∧ (∀ l ∈ r.1, l.length ≤ 2) ∧ q.q ≤ r.2.2.1 ∧ r.2.2.1 ≤ q.q + r.2.1 * 3 ∧ r.2.2.2 b = some [.list ys.length (cat cY ys), .int .i64 r.2.2.1] ∧ r.2.2.2 gb = some [.sl q.xb 2 0 q.xs.length q.cp, .fr 1 r.1.length (cat cL r.1)] ∧ r.2.2.2 q.xb = some (cat oP q.xs ++ List.replicate q.j .any)) (fun r => q.xs.length - r.2.1) (([], 0, q.q, q.H)) ?_ ?_ ?_); exact ⟨Nat.zero_le _, rfl, by simp, by dsimp only; omega, by dsimp only; omega, ga1, by simpa [cat_nil] using gb1, gc1⟩; ((repeat' (first | exact sub_noneH (by assumption) | exact sub_none | refine sub_upd ?_ ?_ | refine sub_noneE ?_)) <;> simp [-List.getD_eq_getElem?_getD, -List.drop_one, ↓splitB_true, ↓splitB_false, go_sem]); rintro r ⟨r1, r2, r3, r4, r5, r6, r7, r8⟩)
    | (refine ⟨(r.1 ++ [l5], r.2.1 + 1, r.2.2.1 + 1 + 1 + 1, H5), ⟨by dsimp only; omega, by simp; omega, v5, by dsimp only; omega, by dsimp only; omega, e1, e2, e3⟩, by first | omega | (simp; done) | (simp; omega), ?_⟩; ((repeat' (first | exact sub_noneH (by assumption) | exact sub_none | refine sub_upd ?_ ?_ | refine sub_noneE ?_)) <;> simp [-List.getD_eq_getElem?_getD, -List.drop_one, ↓splitB_true, ↓splitB_false, go_sem, ]))
    | (refine AW_block ?_)
    | (refine AW_exit ?_; simp [-List.getD_eq_getElem?_getD, -List.drop_one, ↓splitB_true, ↓splitB_false, go_sem])
    | (refine AW_skip ?_; simp [-List.getD_eq_getElem?_getD, -List.drop_one, ↓splitB_true, ↓splitB_false, go_sem])
    | (refine AW_ret ?_; try simp [-List.getD_eq_getElem?_getD, -List.drop_one, ↓splitB_true, ↓splitB_false, go_sem, Try.results175])
    | (intro hx; change AW _ _ _ _ _ _)
    | (intro hx; change retR _ _ _ _ _)
    | (refine ⟨?_, ?_⟩ <;> change AW _ _ _ _ _ _)
    | (intro hx; refine ⟨fun hs => ?_, fun hs => ?_⟩)
    | (refine ⟨fun hs => ?_, fun hs => ?_⟩)
    | (refine ⟨?_, fun hs => ?_⟩; change AW _ _ _ _ _ _)
    | (refine ⟨fun hs => ?_, ?_⟩; rotate_left; change AW _ _ _ _ _ _; rotate_left)
    | ((fail_if_success change retR _ _ _ _ _); (exfalso; omega))))
  all_goals (first
    | (refine l4Graph_ret _ _ _ ((ga, gc)) (p2) ?_ ?_ ?_ ?_; (first | exact Or.inl rfl | exact Or.inr rfl); (focus (simp [-List.getD_eq_getElem?_getD, -List.drop_one, ↓splitB_true, ↓splitB_false, go_sem, Try.results175, dat, datL_map, li, cat_flat2]; done)); (focus ((exact ⟨y0.1, y0.2 (by assumption)⟩); done)); (focus (refine ⟨?_, ?_⟩ <;> omega)))
    | (refine l4Graph_ret _ _ _ ((q.xs, r.1)) (r.2.2.1) ?_ ?_ ?_ ?_; (first | exact Or.inl rfl | exact Or.inr rfl); (focus (simp [-List.getD_eq_getElem?_getD, -List.drop_one, ↓splitB_true, ↓splitB_false, go_sem, Try.results175, dat, datL_map, li, cat_flat2, oP_dat, r6, hbg, Ne.symm hbg, g7, Ne.symm g7, g8, Ne.symm g8]; done)); (focus ((exact ⟨⟨by dsimp only; omega, by dsimp only; omega, fun s hs => by have := f5 s hs; omega, fun l hl => by have := r3 l hl; omega⟩, by dsimp only; omega, by dsimp only; omega⟩); done)); (focus (refine ⟨?_, ?_⟩ <;> omega)))
    | skip)
noncomputable def l4GraphC : Con := .rel fun args H => match args with
  | [.ptr b 0] => match H b with
    | some [.list m cs, .int .i64 p] => ((Is cY m cs) ∧ (m ≤ 2000) ∧ (0 ≤ p) ∧ (p + 2100 ≤ 1000000), fun c => (l4Graph_enc (l4Graph_sel p c).1, upd H b (some [.list m cs, .int .i64 (l4Graph_sel p c).2])))
    | _ => (False, fun _ => (.any, H))
  | _ => (False, fun _ => (.any, H))
attribute [go_sem] l4GraphC
theorem l4GraphC_ok : ConOk Try.prog 175 l4GraphC := by
  refine ⟨callable Try.func175 (by decide) rfl, fun args H h => ?_⟩
  revert h
  dsimp only
  split
  · split
    · rename_i hH
      intro h
      obtain ⟨⟨ys, rfl, rfl⟩, hl, h0_, hp_⟩ := h
      try simp only [de_cat] at *
      exact SpecR.enc ((l4Graph_spec ys _ _ hl h0_ hp_ ).frame hH).shut fun c => Prod.ext (l4Graph_okD  _ _).2.symm rfl
    · intro h; exact h.elim
  · intro h
    exact h.elim
noncomputable def Γe30 : FuncId → Con := ext Γe29 175 l4GraphC
attribute [go_sem] Γe30
theorem Γe30_ok : ∀ g, ConOk Try.prog g (Γe30 g) := ext_ok Γe29_ok l4GraphC_ok

end Go.Proofs.Ytoklpofekcclhaa.Vm


/-
  Graphs copied. No conditions.
-/
namespace Go.Proofs.Ytoklpofekcclhaa.Vm
open Go
set_option linter.unusedVariables false
set_option linter.unusedSimpArgs false
set_option maxRecDepth 200000

theorem oL_dat : ∀ xs : List (List Int), (cat oL xs).map dat = cat cL xs
  | [] => rfl
  | x :: xs => by rw [cat_cons, cat_cons, List.map_append, oL_dat xs]; simp [oL, cL, fr, dat, datL_map, cat_flat2, li]
/-- 0, 1, .., n - 1. -/
def upto (n : Nat) : List Int := (List.range n).map Int.ofNat
theorem upto_len (n : Nat) : (upto n).length = n := by simp [upto]
theorem upto_succ (n : Nat) : upto (n + 1) = upto n ++ [(n : Int)] := by simp [upto, List.range_succ]
theorem upto_places (n : Nat) : Places n (upto n) := fun i hi => by
  rw [upto_len] at hi
  rw [nth_lt (by rw [upto_len]; exact hi)]
  simp [upto]; omega
theorem upto_cat (n : Nat) : cat cI (upto n) ++ [D.int .i64 (n : Int)] = cat cI (upto (n + 1)) := by rw [upto_succ, cat_append, cat_one]; rfl

theorem l4Count_pure (n : Int) (h0 : 0 ≤ n) (h1 : n ≤ 1000000) : Pure Try.prog 208 [.int .i64 n] (fr 1 cI (upto n.toNat)) := by
  refine Pure.of_walk Try.func208 rfl (by simp [Try.f208]) (by simp [-List.drop_one, go_sem]) fun B hK => ?_
  (repeat' (first
    | refine AW_seq ?_
    | refine AW_region (id := 0) Γe30_ok [] (by kernel_rfl) ?_; simp  [-List.getD_eq_getElem?_getD, -List.drop_one, ↓splitB_true, ↓splitB_false, go_sem]
    | refine AW_region (id := 1) Γe30_ok [] (by kernel_rfl) ?_; simp  [-List.getD_eq_getElem?_getD, -List.drop_one, ↓splitB_true, ↓splitB_false, go_sem]
    | refine AW_region (id := 2) Γe30_ok [] (by kernel_rfl) ?_; simp  [-List.getD_eq_getElem?_getD, -List.drop_one, ↓splitB_true, ↓splitB_false, go_sem]
    | refine AW_region (id := 3) Γe30_ok [] (by kernel_rfl) ?_; simp  [-List.getD_eq_getElem?_getD, -List.drop_one, ↓splitB_true, ↓splitB_false, go_sem]
    | refine AW_region (id := 5) Γe30_ok [] (by kernel_rfl) ?_; simp  [-List.getD_eq_getElem?_getD, -List.drop_one, ↓splitB_true, ↓splitB_false, go_sem, (show i ≤ 9223372036854775806 by omega), (show 2 * (i + 1) * 8 ≤ 281474976710656 by omega), (show i + 1 ≤ 9223372036854775807 by omega), upto_cat, upto_len]
    | refine AW_region (id := 4) Γe30_ok [] (by kernel_rfl) ?_; simp  [-List.getD_eq_getElem?_getD, -List.drop_one, ↓splitB_true, ↓splitB_false, go_sem, wrapS (k := i) (by omega)]
    | ((obtain rfl : i = n.toNat := by omega)); refine AW_region (id := 6) Γe30_ok [] (by kernel_rfl) ?_; simp  [-List.getD_eq_getElem?_getD, -List.drop_one, ↓splitB_true, ↓splitB_false, go_sem, upto_len]
    | refine AW_condA (c := .tmp 8) ?_; simp [-List.getD_eq_getElem?_getD, -List.drop_one, ↓splitB_true, ↓splitB_false, go_sem]; try first | (refine ⟨?_, ?_⟩ <;> change AW _ _ _ _ _ _) | (refine ⟨fun c8 => ?_, fun c8 => ?_⟩ <;> (try simp [B_iff, B_not] at c8))
    | (refine AW_block (id := 0) (AW_loop (ι := Nat) (fun i : Nat => ⟨(upd (upd (upd (fun _ => .any) 0 (.int .i64 n)) 3 (.fr 1 i (cat cI (upto i)))) 4 (.int .i64 i)), fun _ => none⟩) (fun i => (i : Int) ≤ n) (fun i => n.toNat - i) (0) ?_ ?_ ?_); exact (by omega); ((repeat' (first | exact sub_noneH (by assumption) | exact sub_none | refine sub_upd ?_ ?_ | refine sub_noneE ?_)) <;> simp [-List.getD_eq_getElem?_getD, -List.drop_one, ↓splitB_true, ↓splitB_false, go_sem, upto]); rintro i hi)
    | (refine ⟨i + 1, (by omega), by first | omega | (simp; done) | (simp; omega), ?_⟩; ((repeat' (first | exact sub_noneH (by assumption) | exact sub_none | refine sub_upd ?_ ?_ | refine sub_noneE ?_)) <;> simp [-List.getD_eq_getElem?_getD, -List.drop_one, ↓splitB_true, ↓splitB_false, go_sem, upto_cat]))
    | (refine AW_block ?_)
    | (refine AW_exit ?_; simp [-List.getD_eq_getElem?_getD, -List.drop_one, ↓splitB_true, ↓splitB_false, go_sem])
    | (refine AW_skip ?_; simp [-List.getD_eq_getElem?_getD, -List.drop_one, ↓splitB_true, ↓splitB_false, go_sem])
    | (refine AW_ret ?_; simp [-List.getD_eq_getElem?_getD, -List.drop_one, ↓splitB_true, ↓splitB_false, go_sem, Try.results208])
    | (intro hx; change AW _ _ _ _ _ _)
    | (refine ⟨?_, ?_⟩ <;> change AW _ _ _ _ _ _)
    | (intro hx; refine ⟨fun hs => ?_, fun hs => ?_⟩)
    | (refine ⟨fun hs => ?_, fun hs => ?_⟩)
    | (refine ⟨?_, fun hs => ?_⟩; change AW _ _ _ _ _ _)
    | (refine ⟨fun hs => ?_, ?_⟩; rotate_left; change AW _ _ _ _ _ _; rotate_left)))
noncomputable def l4Count_pureC : Con := .pure fun
  | [.int .i64 n] => ((0 ≤ n) ∧ (n ≤ 1000000), fr 1 cI (upto n.toNat))
  | _ => (False, .any)
attribute [go_sem] l4Count_pureC
theorem l4Count_pureC_ok : ConOk Try.prog 208 l4Count_pureC := by
  refine ⟨callable Try.func208 (by decide) rfl, fun args h => ?_⟩
  revert h
  dsimp only
  split
  · intro h
    obtain ⟨h0, h1⟩ := h
    skip
    exact ⟨l4Count_pure _ h0 h1, by simp [go_sem]⟩
  · intro h
    exact h.elim
noncomputable def Γe31 : FuncId → Con := ext Γe30 208 l4Count_pureC
attribute [go_sem] Γe31
theorem Γe31_ok : ∀ g, ConOk Try.prog g (Γe31 g) := ext_ok Γe30_ok l4Count_pureC_ok

def SubL {α : Type} (a xs : List α) : Prop := ∀ s ∈ xs, s ∈ a
theorem SubL.snoc {α : Type} {a xs : List α} {s : α} (h : SubL a xs) (hs : s ∈ a) : SubL a (xs ++ [s]) := fun x hx => by
  rcases List.mem_append.1 hx with h1 | h1
  · exact h x h1
  · simp at h1; subst h1; exact hs
def SubL.pick (a : List Ints2) (ys : List Int) : List Ints2 := ys.map fun y => nth a y.toNat
theorem SubL.map {a : List Ints2} {ys : List Int} (hp : Places a.length ys) : SubL a (SubL.pick a ys) := fun s h => by
  obtain ⟨y, hy, rfl⟩ := List.mem_map.1 h
  obtain ⟨i, hi, e⟩ := List.getElem_of_mem hy
  have := (hp.at hi).2.2
  rw [nth_lt hi, e] at this
  exact nth_mem this
def LenS (N : Nat) (a : List Ints2) : Prop := ∀ s ∈ a, s.1.length ≤ N ∧ s.2.length ≤ N
def LenL (N : Nat) (b : List (List Int)) : Prop := ∀ l ∈ b, l.length ≤ N
/-- A graph that can be copied. -/
def CopyOk (a : List Ints2) (b : List (List Int)) : Prop := a.length ≤ 1000 ∧ b.length ≤ 1000 ∧ LenS 100000 a ∧ LenL 100000 b

noncomputable def l4States_enc : List Ints2 → D := fun x => fr 2 oP x
attribute [go_sem] l4States_enc
def l4States_good (a : List Ints2) (bb : List (List Int)) (ys : List Int) : List Ints2 → Prop := fun x => x.length = ys.length ∧ SubL a x
noncomputable def l4States_sel (a : List Ints2) (bb : List (List Int)) (ys : List Int) (c : Any) : List Ints2 := sel (l4States_good a bb ys) (SubL.pick a ys) c
theorem l4States_ok (a : List Ints2) (bb : List (List Int)) (ys : List Int) (hn : ys.length ≤ 1000) (hp : Places a.length ys) (hs : LenS 100000 a) (c : Any) : l4States_good a bb ys (l4States_sel a bb ys c) := sel_ok (p := l4States_good a bb ys) (x0 := SubL.pick a ys) (⟨by simp [SubL.pick], SubL.map hp⟩) c
theorem l4States_ret (a : List Ints2) (bb : List (List Int)) (ys : List Int) {e_ : Exit} {S_ : St} (x : List Ints2) (he_ : e_ = .ret ∨ e_ = .normal)
    (h1 : (takeRes Try.prog S_ Try.f93.results.toList).1 ∧ resD (takeRes Try.prog S_ Try.f93.results.toList).2.1 = l4States_enc x) (hg : l4States_good a bb ys x) :
    retR Try.prog Try.f93 (fun c => (l4States_enc (l4States_sel a bb ys c), fun _ => none)) e_ S_ := ret_prel (enc := l4States_enc) x he_ h1 hg
theorem l4States_retE (a : List Ints2) (bb : List (List Int)) (ys : List Int) {e_ : Exit} {S_ : St} (he_ : e_ = .ret ∨ e_ = .normal)
    (h : ∃ x, (takeRes Try.prog S_ Try.f93.results.toList).1 ∧ resD (takeRes Try.prog S_ Try.f93.results.toList).2.1 = l4States_enc x ∧ l4States_good a bb ys x) :
    retR Try.prog Try.f93 (fun c => (l4States_enc (l4States_sel a bb ys c), fun _ => none)) e_ S_ := by
  obtain ⟨x, h1, h2, h3⟩ := h
  exact l4States_ret _ _ _ x he_ ⟨h1, h2⟩ h3
set_option maxHeartbeats 4000000 in
theorem l4States_pure (a : List Ints2) (bb : List (List Int)) (ys : List Int) (hn : ys.length ≤ 1000) (hp : Places a.length ys) (hs : LenS 100000 a) : PureR Try.prog 93 [.st [li cP a, li cL bb], li cI ys] (fun c => l4States_enc (l4States_sel a bb ys c)) := by
  refine PureR.of_walk Try.func93 rfl (by simp [Try.f93]) (fun c => by simp [-List.drop_one, go_sem]) fun B hK => ?_
  (repeat' (first
    | refine AW_seq ?_
    | refine AW_region (id := 0) Γe31_ok [] (by kernel_rfl) ?_; simp  [-List.getD_eq_getElem?_getD, -List.drop_one, ↓splitB_true, ↓splitB_false, go_sem]; try (refine AW_shut 2 ?_; simp [go_sem])
    | refine AW_region (id := 1) Γe31_ok [] (by kernel_rfl) ?_; simp  [-List.getD_eq_getElem?_getD, -List.drop_one, ↓splitB_true, ↓splitB_false, go_sem]
    | refine AW_region (id := 2) Γe31_ok [] (by kernel_rfl) ?_; simp  [-List.getD_eq_getElem?_getD, -List.drop_one, ↓splitB_true, ↓splitB_false, go_sem]
    | refine AW_region (id := 3) Γe31_ok [] (by kernel_rfl) ?_; simp  [-List.getD_eq_getElem?_getD, -List.drop_one, ↓splitB_true, ↓splitB_false, go_sem]
    | ((obtain ⟨p1, p2, p3⟩ := hp.at c12); (have hsi := hs _ (nth_mem p3))); refine AW_region_draw (id := 5) Γe31_ok mixed [] [] (by kernel_rfl) (by kernel_rfl) (by simp [-List.getD_eq_getElem?_getD, -List.drop_one, ↓splitB_true, ↓splitB_false, go_sem, c12, ne_nil c12, Nat.sub_pos_of_lt c12, p1, p2, p3, ne_nil p3, Nat.sub_pos_of_lt p3]) ?_; simp  [-List.getD_eq_getElem?_getD, -List.drop_one, ↓splitB_true, ↓splitB_false, go_sem, c12, ne_nil c12, Nat.sub_pos_of_lt c12, p1, p2, p3, ne_nil p3, Nat.sub_pos_of_lt p3]; try (refine AW_shut 7 ?_; simp [go_sem])
    | refine AW_region_draw (id := 6) Γe31_ok mixed [] [7] (by kernel_rfl) (by kernel_rfl) (by simp [-List.getD_eq_getElem?_getD, -List.drop_one, ↓splitB_true, ↓splitB_false, go_sem, (show (nth a (nth ys q.2).toNat).1.length ≤ 9223372036854775807 by omega), (show 2 * (nth a (nth ys q.2).toNat).1.length * 8 ≤ 281474976710656 by omega), (show (nth a (nth ys q.2).toNat).2.length ≤ 9223372036854775807 by omega), (show 2 * (nth a (nth ys q.2).toNat).2.length * 8 ≤ 281474976710656 by omega), (show q.1.length ≤ 9223372036854775806 by omega), (show 2 * (q.1.length + 1) * 48 ≤ 281474976710656 by omega), (show q.1.length + 1 ≤ 9223372036854775807 by omega)]) ?_; simp  [-List.getD_eq_getElem?_getD, -List.drop_one, ↓splitB_true, ↓splitB_false, go_sem, (show (nth a (nth ys q.2).toNat).1.length ≤ 9223372036854775807 by omega), (show 2 * (nth a (nth ys q.2).toNat).1.length * 8 ≤ 281474976710656 by omega), (show (nth a (nth ys q.2).toNat).2.length ≤ 9223372036854775807 by omega), (show 2 * (nth a (nth ys q.2).toNat).2.length * 8 ≤ 281474976710656 by omega), (show q.1.length ≤ 9223372036854775806 by omega), (show 2 * (q.1.length + 1) * 48 ≤ 281474976710656 by omega), (show q.1.length + 1 ≤ 9223372036854775807 by omega)]
    | refine AW_region (id := 4) Γe31_ok [] (by kernel_rfl) ?_; simp  [-List.getD_eq_getElem?_getD, -List.drop_one, ↓splitB_true, ↓splitB_false, go_sem, wrapS (k := q.2) (by omega)]
    | refine AW_region (id := 7) Γe31_ok [] (by kernel_rfl) ?_; simp  [-List.getD_eq_getElem?_getD, -List.drop_one, ↓splitB_true, ↓splitB_false, go_sem]
    | refine AW_condA (c := .tmp 12) ?_; simp [-List.getD_eq_getElem?_getD, -List.drop_one, ↓splitB_true, ↓splitB_false, go_sem]; try first | (refine ⟨?_, ?_⟩ <;> change AW _ _ _ _ _ _) | (refine ⟨fun c12 => ?_, fun c12 => ?_⟩ <;> (try simp [B_iff, B_not] at c12))
    | (refine AW_block (id := 0) (AW_loop (ι := List Ints2 × Nat) (fun q : List Ints2 × Nat => ⟨(upd (upd (upd (upd (fun _ => .any) 1 (li cI ys)) 2 (.pd [li cP a, li cL bb])) 5 (.fr 2 q.1.length (cat oP q.1))) 6 (.int .i64 q.2)), fun _ => none⟩) (fun q => q.2 ≤ ys.length ∧ q.1.length = q.2 ∧ SubL a q.1) (fun q => ys.length - q.2) (([], 0)) ?_ ?_ ?_); exact ⟨Nat.zero_le _, rfl, fun _ h => by cases h⟩; ((repeat' (first | exact sub_noneH (by assumption) | exact sub_none | refine sub_upd ?_ ?_ | refine sub_noneE ?_)) <;> simp [-List.getD_eq_getElem?_getD, -List.drop_one, ↓splitB_true, ↓splitB_false, go_sem, cat]); rintro q ⟨g1, g2, g3⟩)
    | (refine ⟨(q.1 ++ [nth a (nth ys q.2).toNat], q.2 + 1), ⟨by dsimp only; omega, by simp; omega, g3.snoc (nth_mem p3)⟩, by first | omega | (simp; done) | (simp; omega), ?_⟩; ((repeat' (first | exact sub_noneH (by assumption) | exact sub_none | refine sub_upd ?_ ?_ | refine sub_noneE ?_)) <;> simp [-List.getD_eq_getElem?_getD, -List.drop_one, ↓splitB_true, ↓splitB_false, go_sem, cat_append, cat_one, oP, fr]))
    | (refine AW_block ?_)
    | (refine AW_exit ?_; simp [-List.getD_eq_getElem?_getD, -List.drop_one, ↓splitB_true, ↓splitB_false, go_sem])
    | (refine AW_skip ?_; simp [-List.getD_eq_getElem?_getD, -List.drop_one, ↓splitB_true, ↓splitB_false, go_sem])
    | (refine AW_ret ?_; try simp [-List.getD_eq_getElem?_getD, -List.drop_one, ↓splitB_true, ↓splitB_false, go_sem, Try.results93])
    | (intro hx; change AW _ _ _ _ _ _)
    | (intro hx; change retR _ _ _ _ _)
    | (refine ⟨?_, ?_⟩ <;> change AW _ _ _ _ _ _)
    | (intro hx; refine ⟨fun hs => ?_, fun hs => ?_⟩)
    | (refine ⟨fun hs => ?_, fun hs => ?_⟩)
    | (refine ⟨?_, fun hs => ?_⟩; change AW _ _ _ _ _ _)
    | (refine ⟨fun hs => ?_, ?_⟩; rotate_left; change AW _ _ _ _ _ _; rotate_left)))
  all_goals (first
    | (refine l4States_ret _ _ _ ((q.1)) ?_ ?_ ?_; (first | exact Or.inl rfl | exact Or.inr rfl); (focus (simp [-List.getD_eq_getElem?_getD, -List.drop_one, ↓splitB_true, ↓splitB_false, go_sem, Try.results93, fr]; done)); (focus ((exact ⟨by omega, g3⟩); done)))
    | skip)
noncomputable def l4StatesC : Con := .prel fun
  | [.st [.list n_a c_a, .list n_bb c_bb], .list n_ys c_ys] => ((Is cP n_a c_a) ∧ (Is cL n_bb c_bb) ∧ (Is cI n_ys c_ys) ∧ ((de cI c_ys).length ≤ 1000) ∧ (Places (de cP c_a).length (de cI c_ys)) ∧ (LenS 100000 (de cP c_a)), fun c => l4States_enc (l4States_sel (de cP c_a) (de cL c_bb) (de cI c_ys) c))
  | _ => (False, fun _ => .any)
attribute [go_sem] l4StatesC
theorem l4StatesC_ok : ConOk Try.prog 93 l4StatesC := by
  refine ⟨callable Try.func93 (by decide) rfl, fun args h => ?_⟩
  revert h
  dsimp only
  split
  · intro h
    obtain ⟨⟨a, rfl, rfl⟩, ⟨bb, rfl, rfl⟩, ⟨ys, rfl, rfl⟩, hn, hp, hs⟩ := h
    try simp only [de_cat] at *
    exact ⟨l4States_pure a bb ys hn hp hs, fun c => by simp [go_sem]⟩
  · intro h
    exact h.elim
noncomputable def Γe32 : FuncId → Con := ext Γe31 93 l4StatesC
attribute [go_sem] Γe32
theorem Γe32_ok : ∀ g, ConOk Try.prog g (Γe32 g) := ext_ok Γe31_ok l4StatesC_ok

structure CG where
  nx : List (List Int)
  i : Nat
  nb : Nat
  cp : Nat
  j : Nat
  H : Hp
def CGi (gb : Nat) (xs : List Ints2) (bb : List (List Int)) (q : CG) : Prop := q.i ≤ bb.length ∧ q.nx.length = q.i ∧ SubL bb q.nx ∧ ¬ gb = q.nb ∧ q.cp ≤ q.nx.length + q.j ∧ q.H gb = some [.fr 2 xs.length (cat oP xs), .sl q.nb 1 0 q.nx.length q.cp] ∧ q.H q.nb = some (cat oL q.nx ++ List.replicate q.j .any)

noncomputable def l4Copy_enc : List Ints2 × List (List Int) → D := fun x => .st [fr 2 oP x.1, fr 1 oL x.2]
attribute [go_sem] l4Copy_enc
def l4Copy_good (a : List Ints2) (bb : List (List Int)) : List Ints2 × List (List Int) → Prop := fun x => x.1.length = a.length ∧ x.2.length = bb.length ∧ SubL a x.1 ∧ SubL bb x.2
noncomputable def l4Copy_sel (a : List Ints2) (bb : List (List Int)) (c : Any) : List Ints2 × List (List Int) := sel (l4Copy_good a bb) ((a, bb)) c
theorem l4Copy_ok (a : List Ints2) (bb : List (List Int)) (hg : CopyOk a bb) (c : Any) : l4Copy_good a bb (l4Copy_sel a bb c) := sel_ok (p := l4Copy_good a bb) (x0 := (a, bb)) (⟨rfl, rfl, fun _ h => h, fun _ h => h⟩) c
theorem l4Copy_ret (a : List Ints2) (bb : List (List Int)) {e_ : Exit} {S_ : St} (x : List Ints2 × List (List Int)) (he_ : e_ = .ret ∨ e_ = .normal)
    (h1 : (takeRes Try.prog S_ Try.f196.results.toList).1 ∧ resD (takeRes Try.prog S_ Try.f196.results.toList).2.1 = l4Copy_enc x) (hg : l4Copy_good a bb x) :
    retR Try.prog Try.f196 (fun c => (l4Copy_enc (l4Copy_sel a bb c), fun _ => none)) e_ S_ := ret_prel (enc := l4Copy_enc) x he_ h1 hg
theorem l4Copy_retE (a : List Ints2) (bb : List (List Int)) {e_ : Exit} {S_ : St} (he_ : e_ = .ret ∨ e_ = .normal)
    (h : ∃ x, (takeRes Try.prog S_ Try.f196.results.toList).1 ∧ resD (takeRes Try.prog S_ Try.f196.results.toList).2.1 = l4Copy_enc x ∧ l4Copy_good a bb x) :
    retR Try.prog Try.f196 (fun c => (l4Copy_enc (l4Copy_sel a bb c), fun _ => none)) e_ S_ := by
  obtain ⟨x, h1, h2, h3⟩ := h
  exact l4Copy_ret _ _ x he_ ⟨h1, h2⟩ h3
set_option maxHeartbeats 4000000 in
theorem l4Copy_pure (a : List Ints2) (bb : List (List Int)) (hg : CopyOk a bb) : PureR Try.prog 196 [.st [li cP a, li cL bb]] (fun c => l4Copy_enc (l4Copy_sel a bb c)) := by
  refine PureR.of_walk Try.func196 rfl (by simp [Try.f196]) (fun c => by simp [-List.drop_one, go_sem]) fun B hK => ?_
  obtain ⟨hg1, hg2, hg3, hg4⟩ := hg
  all_goals (repeat' (first
    | refine AW_seq ?_
    | refine AW_region (id := 0) Γe32_ok [] (by kernel_rfl) ?_; simp  [-List.getD_eq_getElem?_getD, -List.drop_one, ↓splitB_true, ↓splitB_false, go_sem]; try (refine AW_shut 1 ?_; simp [go_sem])
    | refine AW_region_snap (id := 1) Γe32_ok mixed [] [] [1] (by kernel_rfl) (by kernel_rfl) (by simp [-List.getD_eq_getElem?_getD, -List.drop_one, ↓splitB_true, ↓splitB_false, go_sem, upto_len, upto_places, (show (a.length : Int) ≤ 1000000 by omega), (show a.length ≤ 1000 by omega), hg3]) (by simp [-List.getD_eq_getElem?_getD, -List.drop_one, ↓splitB_true, ↓splitB_false, go_sem, upto_len, upto_places, (show (a.length : Int) ≤ 1000000 by omega), (show a.length ≤ 1000 by omega), hg3]) ?_; simp  [-List.getD_eq_getElem?_getD, -List.drop_one, ↓splitB_true, ↓splitB_false, go_sem, upto_len, upto_places, (show (a.length : Int) ≤ 1000000 by omega), (show a.length ≤ 1000 by omega), hg3]; try ((intro c1); (have y0 := l4States_ok a bb (upto a.length) (by rw [upto_len]; omega) (upto_places _) hg3 c1); (generalize l4States_sel a bb (upto a.length) c1 = xs at *); (simp only [l4States_good, upto_len] at y0); (obtain ⟨y1, y2⟩ := y0); (refine AW_boxNil1N 3 1 rfl ?_); (refine AW_matBox 3 rfl fun gb hgb => ?_); (clear hgb); (refine AW_matCell gb 1 (all := [.fr 2 xs.length (cat oP xs), .fr 1 0 []]) (by simp [upd, fr]) rfl fun nb cp jx hx hcx hdx => ?_); (have n1 : ¬ gb = nb := (by rintro rfl; simp [upd] at hx)); (clear hx); (refine AW_gen (fun H1 => H1 gb = some [.fr 2 xs.length (cat oP xs), .sl nb 1 0 0 cp] ∧ H1 nb = some (cat oL ([] : List (List Int)) ++ List.replicate jx .any)) ⟨by simp [upd, n1, fr], by simp [upd, cat_nil]⟩ fun H1 ⟨w1, w2⟩ => ?_))
    | refine AW_region (id := 2) Γe32_ok [] (by kernel_rfl) ?_; simp  [-List.getD_eq_getElem?_getD, -List.drop_one, ↓splitB_true, ↓splitB_false, go_sem]
    | refine AW_region (id := 3) Γe32_ok [] (by kernel_rfl) ?_; simp  [-List.getD_eq_getElem?_getD, -List.drop_one, ↓splitB_true, ↓splitB_false, go_sem]
    | ((have hbl := hg4 _ (nth_mem c16))); refine AW_region_snap (id := 5) Γe32_ok mixed [(gb, [.fr 2 xs.length (cat oP xs), .sl q.nb 1 0 q.nx.length q.cp])] [] [] (by kernel_rfl) (by kernel_rfl) (by simp [-List.getD_eq_getElem?_getD, -List.drop_one, ↓splitB_true, ↓splitB_false, go_sem, c16, ne_nil c16, Nat.sub_pos_of_lt c16, g6, g7, g4, Ne.symm g4, g5, (show (nth bb q.i).length ≤ 9223372036854775807 by omega), (show 2 * (nth bb q.i).length * 8 ≤ 281474976710656 by omega), (show q.nx.length ≤ 9223372036854775806 by omega), (show 2 * (q.nx.length + 1) * 24 ≤ 281474976710656 by omega)]) (by simp [-List.getD_eq_getElem?_getD, -List.drop_one, ↓splitB_true, ↓splitB_false, go_sem, c16, ne_nil c16, Nat.sub_pos_of_lt c16, g6, g7, g4, Ne.symm g4, g5, (show (nth bb q.i).length ≤ 9223372036854775807 by omega), (show 2 * (nth bb q.i).length * 8 ≤ 281474976710656 by omega), (show q.nx.length ≤ 9223372036854775806 by omega), (show 2 * (q.nx.length + 1) * 24 ≤ 281474976710656 by omega)]) ?_; simp  [-List.getD_eq_getElem?_getD, -List.drop_one, ↓splitB_true, ↓splitB_false, go_sem, c16, ne_nil c16, Nat.sub_pos_of_lt c16, g6, g7, g4, Ne.symm g4, g5, (show (nth bb q.i).length ≤ 9223372036854775807 by omega), (show 2 * (nth bb q.i).length * 8 ≤ 281474976710656 by omega), (show q.nx.length ≤ 9223372036854775806 by omega), (show 2 * (q.nx.length + 1) * 24 ≤ 281474976710656 by omega)]; try ((refine AW_matCell gb 1 (all := [.fr 2 xs.length (cat oP xs), .fr 1 (q.nx.length + 1) (cat oL q.nx ++ [.fr 1 (nth bb q.i).length (cat cI (nth bb q.i))])]) (by simp [upd, g4, Ne.symm g4]) rfl fun nb2 cp2 jx2 hx2 hcx2 hdx2 => ?_); (have m1 : ¬ gb = nb2 := (by intro e; rw [← e] at hx2; simp [upd] at hx2)); (clear hx2); (refine AW_gen (fun H2 => H2 gb = some [.fr 2 xs.length (cat oP xs), .sl nb2 1 0 (q.nx ++ [nth bb q.i]).length cp2] ∧ H2 nb2 = some (cat oL (q.nx ++ [nth bb q.i]) ++ List.replicate jx2 .any)) ⟨by simp [upd, m1], by simp [upd, cat_append, cat_one, oL, fr]⟩ fun H2 ⟨s1, s2⟩ => ?_); (have v2 : CGi gb xs bb ⟨q.nx ++ [nth bb q.i], q.i + 1, nb2, cp2, jx2, H2⟩ := ⟨by dsimp only; omega, by simp; omega, g3.snoc (nth_mem c16), m1, by simp; omega, s1, s2⟩))
    | refine AW_region (id := 4) Γe32_ok [] (by kernel_rfl) ?_; simp  [-List.getD_eq_getElem?_getD, -List.drop_one, ↓splitB_true, ↓splitB_false, go_sem, wrapS (k := q.i) (by omega)]
    | ((refine AW_unmatCell gb 1 (b' := q.nb) (sz := 1) (m := q.nx.length) (cp := q.cp) (all := [.fr 2 xs.length (cat oP xs), .sl q.nb 1 0 q.nx.length q.cp]) (cs := cat oL q.nx ++ List.replicate q.j .any) g6 rfl g4 g7 (by omega) (by simp [cat_length]) (by simp [cat_length]; omega) ?_)); refine AW_region (id := 6) Γe32_ok [] (by kernel_rfl) ?_; simp  [-List.getD_eq_getElem?_getD, -List.drop_one, ↓splitB_true, ↓splitB_false, go_sem, g4, Ne.symm g4]
    | refine AW_condA (c := .tmp 16) ?_; simp [-List.getD_eq_getElem?_getD, -List.drop_one, ↓splitB_true, ↓splitB_false, go_sem]; try first | (refine ⟨?_, ?_⟩ <;> change AW _ _ _ _ _ _) | (refine ⟨fun c16 => ?_, fun c16 => ?_⟩ <;> (try simp [B_iff, B_not] at c16))
    | (refine AW_block (id := 0) (AW_loop (ι := CG) (fun q : CG => ⟨(upd (upd (upd (upd (fun _ => .any) 1 (.pd [li cP a, li cL bb])) 2 (.box [.nil, .nil])) 3 (.ptr gb 0)) 4 (.int .i64 q.i)), q.H⟩) (fun q => CGi gb xs bb q) (fun q => bb.length - q.i) (⟨[], 0, nb, cp, jx, H1⟩) ?_ ?_ ?_); exact ⟨Nat.zero_le _, rfl, (fun _ h => by cases h), n1, by simpa using hdx, by simpa using w1, w2⟩; ((repeat' (first | exact sub_noneH (by assumption) | exact sub_none | refine sub_upd ?_ ?_ | refine sub_noneE ?_)) <;> simp [-List.getD_eq_getElem?_getD, -List.drop_one, ↓splitB_true, ↓splitB_false, go_sem]); rintro q ⟨g1, g2, g3, g4, g5, g6, g7⟩)
    | (refine ⟨⟨q.nx ++ [nth bb q.i], q.i + 1, nb2, cp2, jx2, H2⟩, v2, by first | omega | (simp; done) | (simp; omega), ?_⟩; ((repeat' (first | exact sub_noneH (by assumption) | exact sub_none | refine sub_upd ?_ ?_ | refine sub_noneE ?_)) <;> simp [-List.getD_eq_getElem?_getD, -List.drop_one, ↓splitB_true, ↓splitB_false, go_sem, ]))
    | (refine AW_block ?_)
    | (refine AW_exit ?_; simp [-List.getD_eq_getElem?_getD, -List.drop_one, ↓splitB_true, ↓splitB_false, go_sem])
    | (refine AW_skip ?_; simp [-List.getD_eq_getElem?_getD, -List.drop_one, ↓splitB_true, ↓splitB_false, go_sem])
    | (refine AW_ret ?_; try simp [-List.getD_eq_getElem?_getD, -List.drop_one, ↓splitB_true, ↓splitB_false, go_sem, Try.results196])
    | (intro hx; change AW _ _ _ _ _ _)
    | (intro hx; change retR _ _ _ _ _)
    | (refine ⟨?_, ?_⟩ <;> change AW _ _ _ _ _ _)
    | (intro hx; refine ⟨fun hs => ?_, fun hs => ?_⟩)
    | (refine ⟨fun hs => ?_, fun hs => ?_⟩)
    | (refine ⟨?_, fun hs => ?_⟩; change AW _ _ _ _ _ _)
    | (refine ⟨fun hs => ?_, ?_⟩; rotate_left; change AW _ _ _ _ _ _; rotate_left)))
  all_goals (first
    | (refine l4Copy_ret _ _ ((xs, q.nx)) ?_ ?_ ?_; (first | exact Or.inl rfl | exact Or.inr rfl); (focus (simp [-List.getD_eq_getElem?_getD, -List.drop_one, ↓splitB_true, ↓splitB_false, go_sem, Try.results196, fr, g4, Ne.symm g4]; done)); (focus ((exact ⟨y1, by dsimp only; omega, y2, g3⟩); done)))
    | skip)
noncomputable def l4CopyC : Con := .prel fun
  | [.st [.list n_a c_a, .list n_bb c_bb]] => ((Is cP n_a c_a) ∧ (Is cL n_bb c_bb) ∧ (CopyOk (de cP c_a) (de cL c_bb)), fun c => l4Copy_enc (l4Copy_sel (de cP c_a) (de cL c_bb) c))
  | _ => (False, fun _ => .any)
attribute [go_sem] l4CopyC
theorem l4CopyC_ok : ConOk Try.prog 196 l4CopyC := by
  refine ⟨callable Try.func196 (by decide) rfl, fun args h => ?_⟩
  revert h
  dsimp only
  split
  · intro h
    obtain ⟨⟨a, rfl, rfl⟩, ⟨bb, rfl, rfl⟩, hg⟩ := h
    try simp only [de_cat] at *
    exact ⟨l4Copy_pure a bb hg, fun c => by simp [go_sem]⟩
  · intro h
    exact h.elim
noncomputable def Γe33 : FuncId → Con := ext Γe32 196 l4CopyC
attribute [go_sem] Γe33
theorem Γe33_ok : ∀ g, ConOk Try.prog g (Γe33 g) := ext_ok Γe32_ok l4CopyC_ok

end Go.Proofs.Ytoklpofekcclhaa.Vm


/-
  Draws: graphs changed. No conditions.
-/
namespace Go.Proofs.Ytoklpofekcclhaa.Vm
open Go
set_option linter.unusedVariables false
set_option linter.unusedSimpArgs false
set_option maxRecDepth 200000

theorem cat_cutj {α : Type} [Inhabited α] {f : α → List D} {xs : List α} {i : Nat} (h : i < xs.length) (junk : List D) : cat f xs ++ junk = cat f (xs.take i) ++ (f (nth xs i) ++ (cat f (xs.drop (i + 1)) ++ junk)) := by
  have e : xs = xs.take i ++ nth xs i :: xs.drop (i + 1) := by rw [nth_lt h, ← List.drop_eq_getElem_cons h, List.take_append_drop]
  have e2 : cat f xs = cat f (xs.take i) ++ (f (nth xs i) ++ cat f (xs.drop (i + 1))) := by
    have := congrArg (cat f) e
    rw [cat_append, cat_cons] at this
    exact this
  rw [e2]; simp [List.append_assoc]
theorem cat_setj {α : Type} [Inhabited α] {f : α → List D} {xs : List α} {i : Nat} (h : i < xs.length) (y : α) (junk : List D) : cat f (xs.set i y) ++ junk = cat f (xs.take i) ++ (f y ++ (cat f (xs.drop (i + 1)) ++ junk)) := by
  rw [List.set_eq_take_append_cons_drop, if_pos h, cat_append, cat_cons]; simp [List.append_assoc]
theorem take_len {α : Type} {f : α → List D} {sz : Nat} [Wide f sz] {xs : List α} {i : Nat} (h : i < xs.length) : (cat f (xs.take i)).length = i * sz := by
  rw [cat_length]; simp; congr 1; omega
/-- One element's cells are stored. -/
theorem set_cat1 {xs : List (List Int)} {i : Nat} (h : i < xs.length) (y : List Int) (junk : List D) : (cat oL xs ++ junk).set i (.fr 1 y.length (cat cI y)) = cat oL (xs.set i y) ++ junk := by
  have e0 : (cat oL (xs.take i)).length = i := by rw [take_len (f := oL) (sz := 1) h]; omega
  rw [cat_cutj h, cat_setj h, List.set_append, if_neg (by omega), e0, Nat.sub_self]
  rfl
theorem get_cat1 {xs : List (List Int)} {i : Nat} (h : i < xs.length) (junk : List D) : (cat oL xs ++ junk)[i]? = some (.fr 1 (nth xs i).length (cat cI (nth xs i))) := by
  have e0 : (cat oL (xs.take i)).length = i := by rw [take_len (f := oL) (sz := 1) h]; omega
  rw [cat_cutj h, List.getElem?_append_right (by omega), e0, Nat.sub_self]
  rfl
theorem set_cat2 {xs : List Ints2} {i : Nat} (h : i < xs.length) (y : List Int) (junk : List D) : (cat oP xs ++ junk).set (i * 2 + 1) (.fr 1 y.length (cat cI y)) = cat oP (xs.set i ((nth xs i).1, y)) ++ junk := by
  have e0 : (cat oP (xs.take i)).length = i * 2 := take_len (f := oP) (sz := 2) h
  rw [cat_cutj h, cat_setj h, List.set_append, if_neg (by omega), e0, Nat.add_sub_cancel_left]
  rfl
@[go_sem] theorem stSeg_one (l : List D) (i : Nat) (d : D) : stSeg l i [d] = l.set i d := rfl
/-- What a changed graph is like. -/
def Mut (a : List Ints2) (bb : List (List Int)) (x : List Ints2 × List (List Int)) : Prop :=
  (x.1.length = 0 ∨ x.1.length = a.length ∧ a.length ≤ x.2.length) ∧ x.1.length ≤ a.length ∧ x.2.length ≤ bb.length + 1 ∧ (∀ N, 3 ≤ N → LenS N a → LenS N x.1) ∧ ∀ N, 1 ≤ N → LenL N bb → LenL (N + 1) x.2
theorem SubL.lenS {N : Nat} {a xs : List Ints2} (h : SubL a xs) (k : LenS N a) : LenS N xs := fun s hs => k s (h s hs)
theorem SubL.lenL {N : Nat} {a xs : List (List Int)} (h : SubL a xs) (k : LenL N a) : LenL N xs := fun s hs => k s (h s hs)
theorem LenL.succ {N : Nat} {xs : List (List Int)} (k : LenL N xs) : LenL (N + 1) xs := fun s hs => Nat.le_succ_of_le (k s hs)
theorem LenL.snoc {N : Nat} {xs : List (List Int)} {l : List Int} (k : LenL N xs) (h : l.length ≤ N) : LenL N (xs ++ [l]) := fun s hs => by
  rcases List.mem_append.1 hs with h1 | h1
  · exact k s h1
  · simp at h1; subst h1; exact h
theorem LenL.set {N : Nat} {xs : List (List Int)} {l : List Int} {i : Nat} (k : LenL N xs) (h : l.length ≤ N) : LenL N (xs.set i l) := fun s hs => by
  rcases List.mem_or_eq_of_mem_set hs with h1 | h1
  · exact k s h1
  · subst h1; exact h
theorem LenS.set {N : Nat} {xs : List Ints2} {l : Ints2} {i : Nat} (k : LenS N xs) (h : l.1.length ≤ N ∧ l.2.length ≤ N) : LenS N (xs.set i l) := fun s hs => by
  rcases List.mem_or_eq_of_mem_set hs with h1 | h1
  · exact k s h1
  · subst h1; exact h
theorem set_same {l : List D} {i : Nat} {x y : D} : (l.set i x).set i y = l.set i y := List.set_set ..
theorem getD_same {l : List D} {i : Nat} (h : i < l.length) (x y : D) : (l.set i x).getD i y = x := by simp [h]

noncomputable def l4Mutate_enc : List Ints2 × List (List Int) → D := sG
attribute [go_sem] l4Mutate_enc
theorem l4Mutate_flat (x : List Ints2 × List (List Int)) : dat (l4Mutate_enc x) = l4Mutate_enc x := by simp [go_sem]
def l4Mutate_good (a : List Ints2) (bb : List (List Int)) : List Ints2 × List (List Int) → Prop := fun x => Mut a bb x
def l4Mutate_gd (a : List Ints2) (bb : List (List Int)) (x : (List Ints2 × List (List Int)) × D) : Prop := l4Mutate_good a bb x.1 ∧ dat x.2 = l4Mutate_enc x.1
noncomputable def l4Mutate_selD (a : List Ints2) (bb : List (List Int)) (p : Int) (c : Any) : ((List Ints2 × List (List Int)) × D) × Int := dsel (l4Mutate_gd a bb) ((([], []) : List Ints2 × List (List Int)), l4Mutate_enc (([], []))) 4 p c
noncomputable def l4Mutate_sel (a : List Ints2) (bb : List (List Int)) (p : Int) (c : Any) : (List Ints2 × List (List Int)) × Int := ((l4Mutate_selD a bb p c).1.1, (l4Mutate_selD a bb p c).2)
theorem l4Mutate_okD (a : List Ints2) (bb : List (List Int)) (hg : CopyOk a bb) (ha : 1 ≤ a.length) (hab : a.length ≤ bb.length) (p : Int) (c : Any) : (l4Mutate_good a bb (l4Mutate_sel a bb p c).1 ∧ p ≤ (l4Mutate_sel a bb p c).2 ∧ (l4Mutate_sel a bb p c).2 ≤ p + 4) ∧ dat (l4Mutate_selD a bb p c).1.2 = l4Mutate_enc (l4Mutate_sel a bb p c).1 := by
  have hx : l4Mutate_good a bb (([], [])) := ⟨.inl rfl, Nat.zero_le _, Nat.zero_le _, (fun _ _ _ _ h => by cases h), (fun _ _ _ _ h => by cases h)⟩
  have h := dsel_ok (good := l4Mutate_gd a bb) (x0 := ((([], []) : List Ints2 × List (List Int)), l4Mutate_enc (([], [])))) ⟨hx, l4Mutate_flat _⟩ (K := 4) (by omega) (p := p) c
  exact ⟨⟨h.1.1, h.2.1, h.2.2⟩, h.1.2⟩
theorem l4Mutate_ok (a : List Ints2) (bb : List (List Int)) (hg : CopyOk a bb) (ha : 1 ≤ a.length) (hab : a.length ≤ bb.length) (p : Int) (c : Any) : l4Mutate_good a bb (l4Mutate_sel a bb p c).1 ∧ p ≤ (l4Mutate_sel a bb p c).2 ∧ (l4Mutate_sel a bb p c).2 ≤ p + 4 := (l4Mutate_okD a bb hg ha hab p c).1
theorem l4Mutate_ret (a : List Ints2) (bb : List (List Int)) (ys : List UInt8) (p : Int) (b : Nat) {e_ : Exit} {S_ : St} (x : List Ints2 × List (List Int)) (p' : Int) (he_ : e_ = .ret ∨ e_ = .normal)
    (h1 : (takeRes Try.prog S_ Try.f174.results.toList).1 ∧ dat (resD (takeRes Try.prog S_ Try.f174.results.toList).2.1) = l4Mutate_enc x ∧ (takeRes Try.prog S_ Try.f174.results.toList).2.2.H b = some [li cY ys, .int .i64 p']) (hg : l4Mutate_good a bb x) (h2 : p ≤ p' ∧ p' ≤ p + 4) :
    retR Try.prog Try.f174 (fun c => ((l4Mutate_selD a bb p c).1.2, one b [li cY ys, .int .i64 (l4Mutate_selD a bb p c).2])) e_ S_ :=
  ret_draw (good := l4Mutate_gd a bb) (enc := fun x : (List Ints2 × List (List Int)) × D => x.2) (cells := fun q => [li cY ys, .int .i64 q]) (x, resD (takeRes Try.prog S_ Try.f174.results.toList).2.1) p' he_ ⟨h1.1, rfl, h1.2.2⟩ ⟨hg, h1.2.1⟩ h2
set_option maxHeartbeats 4000000 in
theorem l4Mutate_spec (ys : List UInt8) (p : Int) (b : Nat) (a : List Ints2) (bb : List (List Int)) (hl : ys.length ≤ 2000) (h0_ : 0 ≤ p) (hp_ : p + 4 ≤ 1000000) (hg : CopyOk a bb) (ha : 1 ≤ a.length) (hab : a.length ≤ bb.length) : SpecR Try.prog 174 [.ptr b 0, .st [li cP a, li cL bb]] (one b [li cY ys, .int .i64 p]) (fun c => ((l4Mutate_selD a bb p c).1.2, one b [li cY ys, .int .i64 (l4Mutate_selD a bb p c).2])) := by
  refine SpecR.of_walk Try.func174 rfl (by simp [Try.f174]) fun B => ?_
  obtain ⟨hg1, hg2, hg3, hg4⟩ := hg; have hg : CopyOk a bb := ⟨hg1, hg2, hg3, hg4⟩
  all_goals (repeat' (first
    | refine AW_seq ?_
    | refine AW_region (id := 0) Γe33_ok [] (by kernel_rfl) ?_; simp  [-List.getD_eq_getElem?_getD, -List.drop_one, ↓splitB_true, ↓splitB_false, go_sem]; try (refine AW_shut 3 ?_; simp [go_sem])
    | refine AW_region (id := 1) Γe33_ok [] (by kernel_rfl) ?_; simp  [-List.getD_eq_getElem?_getD, -List.drop_one, ↓splitB_true, ↓splitB_false, go_sem, hg]; try ((intro c1); (have y0 := l4Copy_ok a bb hg c1); (generalize l4Copy_sel a bb c1 = y at *); (obtain ⟨xs, nx⟩ := y); (simp only [l4Copy_good] at y0); (obtain ⟨y1, y2, y3, y4⟩ := y0); (refine AW_box2z 5 rfl fun gb xb nb j1 j2 c1' c2' hgb hx hy n1 n2 n3 hc1 hd1 hc2 hd2 => ?_); (have hbg : ¬ b = gb := (by rintro rfl; simp [upd] at hgb)); (have m2 : ¬ xb = b := (by rintro rfl; simp [upd] at hx)); (have m3 : ¬ nb = b := (by rintro rfl; simp [upd] at hy)); (clear hgb hx hy); (try dsimp only at hc1 hd1 hc2 hd2 y1 y2 y3 y4); (refine AW_gen (fun H1 => H1 b = some [.list ys.length (cat cY ys), .int .i64 p] ∧ H1 gb = some [.sl xb 2 0 xs.length c1', .sl nb 1 0 nx.length c2'] ∧ H1 xb = some (cat oP xs ++ List.replicate j1 .any) ∧ H1 nb = some (cat oL nx ++ List.replicate j2 .any)) ⟨by simp [upd, hbg, Ne.symm hbg, n1, n2, n3, Ne.symm n1, Ne.symm n2, Ne.symm n3, m2, m3, Ne.symm m2, Ne.symm m3], by simp [upd, hbg, Ne.symm hbg, n1, n2, n3, Ne.symm n1, Ne.symm n2, Ne.symm n3, m2, m3, Ne.symm m2, Ne.symm m3], by simp [upd, hbg, Ne.symm hbg, n1, n2, n3, Ne.symm n1, Ne.symm n2, Ne.symm n3, m2, m3, Ne.symm m2, Ne.symm m3], by simp [upd, hbg, Ne.symm hbg, n1, n2, n3, Ne.symm n1, Ne.symm n2, Ne.symm n3, m2, m3, Ne.symm m2, Ne.symm m3]⟩ fun H1 ⟨w1, w2, w3, w4⟩ => ?_))
    | ((obtain ⟨hk1, hk2⟩ := pkI_range ys (p := p) (by omega) (n := (xs.length : Int)) (by omega)); (have hkz : (pkI ys p xs.length).toNat < xs.length := (by omega)); (have hkn : (pkI ys p xs.length).toNat < nx.length := (by omega))); refine AW_region (id := 2) Γe33_ok [] (by kernel_rfl) ?_; simp  [-List.getD_eq_getElem?_getD, -List.drop_one, ↓splitB_true, ↓splitB_false, go_sem, w1, w2, hbg, Ne.symm hbg, n1, n2, n3, Ne.symm n1, Ne.symm n2, Ne.symm n3, m2, m3, Ne.symm m2, Ne.symm m3, hl, (show 0 ≤ p by omega), (show p ≤ 1000000 by omega), (show 0 ≤ p + 1 by omega), (show p + 1 ≤ 1000000 by omega), (show (xs.length : Int) ≤ 1000000 by omega)]; try ((obtain ⟨ii, hii⟩ : ∃ ii : Nat, pkI ys p xs.length = ii := ⟨(pkI ys p xs.length).toNat, by omega⟩); (rw [hii] at hkz hkn ⊢); (simp only [Int.toNat_natCast] at hkz hkn))
    | refine AW_region (id := 3) Γe33_ok [] (by kernel_rfl) ?_; simp  [-List.getD_eq_getElem?_getD, -List.drop_one, ↓splitB_true, ↓splitB_false, go_sem, w1, hl, hbg, Ne.symm hbg, n1, n2, n3, Ne.symm n1, Ne.symm n2, Ne.symm n3, m2, m3, Ne.symm m2, Ne.symm m3, (show 0 ≤ p + 1 by omega), (show p + 1 ≤ 1000000 by omega), (show 0 ≤ p + 1 + 1 by omega), (show p + 1 + 1 ≤ 1000000 by omega)]; try ((obtain ⟨kk, hkk⟩ : ∃ kk, pkI ys (p + 1) 50 = kk := ⟨_, rfl⟩); (rw [hkk]); (refine AW_gen (fun H2 => H2 b = some [.list ys.length (cat cY ys), .int .i64 (p + 1 + 1)] ∧ H2 gb = some [.sl xb 2 0 xs.length c1', .sl nb 1 0 nx.length c2'] ∧ H2 xb = some (cat oP xs ++ List.replicate j1 D.any) ∧ H2 nb = some (cat oL nx ++ List.replicate j2 D.any)) ⟨by simp [upd, hbg, Ne.symm hbg, n1, n2, n3, Ne.symm n1, Ne.symm n2, Ne.symm n3, m2, m3, Ne.symm m2, Ne.symm m3], by simp [upd, hbg, Ne.symm hbg, n1, n2, n3, Ne.symm n1, Ne.symm n2, Ne.symm n3, m2, m3, Ne.symm m2, Ne.symm m3, w2], by simp [upd, hbg, Ne.symm hbg, n1, n2, n3, Ne.symm n1, Ne.symm n2, Ne.symm n3, m2, m3, Ne.symm m2, Ne.symm m3, w3], by simp [upd, hbg, Ne.symm hbg, n1, n2, n3, Ne.symm n1, Ne.symm n2, Ne.symm n3, m2, m3, Ne.symm m2, Ne.symm m3, w4]⟩ fun H2 ⟨w1, w2, w3, w4⟩ => ?_))
    | refine AW_region (id := 4) Γe33_ok [] (by kernel_rfl) ?_; simp  [-List.getD_eq_getElem?_getD, -List.drop_one, ↓splitB_true, ↓splitB_false, go_sem]
    | refine AW_region (id := 5) Γe33_ok [] (by kernel_rfl) ?_; simp  [-List.getD_eq_getElem?_getD, -List.drop_one, ↓splitB_true, ↓splitB_false, go_sem, w1, w2, w4, hbg, Ne.symm hbg, n1, n2, n3, Ne.symm n1, Ne.symm n2, Ne.symm n3, m2, m3, Ne.symm m2, Ne.symm m3, (show nx.length ≤ 9223372036854775806 by omega), (show 2 * (nx.length + 1) * 24 ≤ 281474976710656 by omega), (show c2' ≤ nx.length + j2 by omega)]; try ((refine AW_gen (fun H5 => H5 b = some [.list ys.length (cat cY ys), .int .i64 (p + 1 + 1)] ∧ H5 gb = some [.sl xb 2 0 xs.length c1', .fr 1 (nx ++ [[0]]).length (cat oL (nx ++ [[0]]))] ∧ H5 xb = some (cat oP xs ++ List.replicate j1 D.any)) ⟨by simp [upd, hbg, Ne.symm hbg, n1, n2, n3, Ne.symm n1, Ne.symm n2, Ne.symm n3, m2, m3, Ne.symm m2, Ne.symm m3, w1], by simp [upd, hbg, Ne.symm hbg, n1, n2, n3, Ne.symm n1, Ne.symm n2, Ne.symm n3, m2, m3, Ne.symm m2, Ne.symm m3, w2, cat_append, cat_one, oL, fr, cI], by simp [upd, hbg, Ne.symm hbg, n1, n2, n3, Ne.symm n1, Ne.symm n2, Ne.symm n3, m2, m3, Ne.symm m2, Ne.symm m3, w3]⟩ fun H5 ⟨t1, t2, t3⟩ => ?_); (have t4 : nx ++ [[0]] = nx ++ [[0]] := rfl); (obtain ⟨X, hX⟩ : ∃ X, X = xs := ⟨_, rfl⟩); (obtain ⟨Y, hY⟩ : ∃ Y, Y = nx ++ [[0]] := ⟨_, rfl⟩); (rw [← hX] at t3); (first | rw [← hY] at t4 | skip); (have hXl : X.length = xs.length := (by simp [hX])); (have hYl : Y.length = nx.length + 1 := (by simp [hY])); (obtain ⟨qq, hqq⟩ : ∃ qq, qq = p + 1 + 1 := ⟨_, rfl⟩); (rw [← hqq] at t1); (have hM : Mut a bb (X, Y) := (by rw [hX, hY]; exact ⟨.inr ⟨by (try dsimp only); (try simp only [List.length_set, List.length_append, List.length_singleton]); omega, by (try dsimp only); (try simp only [List.length_set, List.length_append, List.length_singleton]); omega⟩, by (try dsimp only); (try simp only [List.length_set, List.length_append, List.length_singleton]); omega, by (try dsimp only); (try simp only [List.length_set, List.length_append, List.length_singleton]); omega, fun N _ h => y3.lenS h, fun N hN h => ((y4.lenL h).snoc (by simpa using hN)).succ⟩)); (rw [← hY] at t2); (refine AW_unmatCell gb 0 (b' := xb) (sz := 2) (m := xs.length) (cp := c1') (all := [.sl xb 2 0 xs.length c1', .fr 1 Y.length (cat oL Y)]) (cs := cat oP X ++ List.replicate j1 D.any) t2 rfl n1 t3 (by omega) (by simp [cat_length, hXl]) (by simp [cat_length, hXl]; omega) ?_); (refine AW_gen (fun H3 => H3 b = some [.list ys.length (cat cY ys), .int .i64 (qq)] ∧ H3 gb = some [.fr 2 X.length (cat oP X), .fr 1 Y.length (cat oL Y)]) ⟨by simp [upd, hbg, Ne.symm hbg, n1, n2, n3, Ne.symm n1, Ne.symm n2, Ne.symm n3, m2, m3, Ne.symm m2, Ne.symm m3, t1], by rw [hXl]; simp only [hYl]; simp [upd, hbg, Ne.symm hbg, n1, n2, n3, Ne.symm n1, Ne.symm n2, Ne.symm n3, m2, m3, Ne.symm m2, Ne.symm m3, (show (cat oP X ++ List.replicate j1 D.any).take (xs.length * 2) = cat oP X from by rw [← hXl]; exact cat_take_app X _)]⟩ fun H3 ⟨v1, v2⟩ => ?_))
    | refine AW_region (id := 6) Γe33_ok [] (by kernel_rfl) ?_; simp  [-List.getD_eq_getElem?_getD, -List.drop_one, ↓splitB_true, ↓splitB_false, go_sem]
    | ((have hll : (nth nx ii).length ≤ 100000 := y4.lenL hg4 _ (nth_mem hkn)); (refine AW_matCell nb ii (all := cat oL nx ++ List.replicate j2 D.any) w4 (get_cat1 hkn _) fun lb lc lj hlb hlc hld => ?_); (dsimp only at hlb); (have l1 : ¬ b = lb := (by rintro rfl; rw [w1] at hlb; cases hlb)); (have l2 : ¬ gb = lb := (by rintro rfl; rw [w2] at hlb; cases hlb)); (have l3 : ¬ xb = lb := (by rintro rfl; rw [w3] at hlb; cases hlb)); (have l4 : ¬ nb = lb := (by rintro rfl; rw [w4] at hlb; cases hlb)); (obtain ⟨ZZ, hZZ⟩ : ∃ ZZ, ZZ = (cat oL nx ++ List.replicate j2 D.any).set ii (.sl lb 1 0 (nth nx ii).length lc) := ⟨_, rfl⟩); (have z1 : ZZ.getD ii .any = .sl lb 1 0 (nth nx ii).length lc := (by rw [hZZ]; exact getD_same (by simp [cat_length]; omega) _ _)); (have z2 : ZZ.length = nx.length + j2 := (by rw [hZZ]; simp [cat_length])); (refine AW_gen (fun H4 => H4 b = some [.list ys.length (cat cY ys), .int .i64 (p + 1 + 1)] ∧ H4 gb = some [.sl xb 2 0 xs.length c1', .sl nb 1 0 nx.length c2'] ∧ H4 xb = some (cat oP xs ++ List.replicate j1 D.any) ∧ H4 nb = some ZZ ∧ H4 lb = some (cat cI (nth nx ii) ++ List.replicate lj .any)) ⟨by simp [upd, hbg, Ne.symm hbg, n1, n2, n3, Ne.symm n1, Ne.symm n2, Ne.symm n3, m2, m3, Ne.symm m2, Ne.symm m3, l1, w1], by simp [upd, hbg, Ne.symm hbg, n1, n2, n3, Ne.symm n1, Ne.symm n2, Ne.symm n3, m2, m3, Ne.symm m2, Ne.symm m3, l2, w2], by simp [upd, hbg, Ne.symm hbg, n1, n2, n3, Ne.symm n1, Ne.symm n2, Ne.symm n3, m2, m3, Ne.symm m2, Ne.symm m3, l3, w3], by simp only [hZZ]; simp [upd, hbg, Ne.symm hbg, n1, n2, n3, Ne.symm n1, Ne.symm n2, Ne.symm n3, m2, m3, Ne.symm m2, Ne.symm m3, l4], by simp [upd, hbg, Ne.symm hbg, n1, n2, n3, Ne.symm n1, Ne.symm n2, Ne.symm n3, m2, m3, Ne.symm m2, Ne.symm m3, Ne.symm l4]⟩ fun H4 ⟨w1, w2, w3, w4, w5⟩ => ?_)); refine AW_region_snap (id := 7) Γe33_ok mixed [(gb, [.sl xb 2 0 xs.length c1', .sl nb 1 0 nx.length c2']), (nb, ZZ)] [] [5, 6] (by kernel_rfl) (by kernel_rfl) (by simp [-List.getD_eq_getElem?_getD, -List.drop_one, ↓splitB_true, ↓splitB_false, go_sem, w1, w2, w4, w5, hbg, Ne.symm hbg, n1, n2, n3, Ne.symm n1, Ne.symm n2, Ne.symm n3, m2, m3, Ne.symm m2, Ne.symm m3, l1, l2, l3, l4, Ne.symm l1, Ne.symm l2, Ne.symm l3, Ne.symm l4, hkn, hl, (show 0 ≤ p + 1 + 1 by omega), (show p + 1 + 1 ≤ 1000000 by omega), (show 0 ≤ p + 1 + 1 + 1 by omega), (show p + 1 + 1 + 1 ≤ 1000000 by omega), (show ii < nx.length + j2 by omega), (show ii + 1 ≤ nx.length + j2 by omega), (show (nth nx ii).length ≤ 9223372036854775806 by omega), (show 2 * ((nth nx ii).length + 1) * 8 ≤ 281474976710656 by omega), (show lc ≤ (nth nx ii).length + lj by omega), z1, z2]) (by simp [-List.getD_eq_getElem?_getD, -List.drop_one, ↓splitB_true, ↓splitB_false, go_sem, w1, w2, w4, w5, hbg, Ne.symm hbg, n1, n2, n3, Ne.symm n1, Ne.symm n2, Ne.symm n3, m2, m3, Ne.symm m2, Ne.symm m3, l1, l2, l3, l4, Ne.symm l1, Ne.symm l2, Ne.symm l3, Ne.symm l4, hkn, hl, (show 0 ≤ p + 1 + 1 by omega), (show p + 1 + 1 ≤ 1000000 by omega), (show 0 ≤ p + 1 + 1 + 1 by omega), (show p + 1 + 1 + 1 ≤ 1000000 by omega), (show ii < nx.length + j2 by omega), (show ii + 1 ≤ nx.length + j2 by omega), (show (nth nx ii).length ≤ 9223372036854775806 by omega), (show 2 * ((nth nx ii).length + 1) * 8 ≤ 281474976710656 by omega), (show lc ≤ (nth nx ii).length + lj by omega), z1, z2]) ?_; simp  [-List.getD_eq_getElem?_getD, -List.drop_one, ↓splitB_true, ↓splitB_false, go_sem, w1, w2, w4, w5, hbg, Ne.symm hbg, n1, n2, n3, Ne.symm n1, Ne.symm n2, Ne.symm n3, m2, m3, Ne.symm m2, Ne.symm m3, l1, l2, l3, l4, Ne.symm l1, Ne.symm l2, Ne.symm l3, Ne.symm l4, hkn, hl, (show 0 ≤ p + 1 + 1 by omega), (show p + 1 + 1 ≤ 1000000 by omega), (show 0 ≤ p + 1 + 1 + 1 by omega), (show p + 1 + 1 + 1 ≤ 1000000 by omega), (show ii < nx.length + j2 by omega), (show ii + 1 ≤ nx.length + j2 by omega), (show (nth nx ii).length ≤ 9223372036854775806 by omega), (show 2 * ((nth nx ii).length + 1) * 8 ≤ 281474976710656 by omega), (show lc ≤ (nth nx ii).length + lj by omega), z1, z2]; try ((obtain ⟨vv, hvv⟩ : ∃ vv, numI ys (p + 1 + 1) [0, -1, 60, 9223372036854775807] = vv := ⟨_, rfl⟩); (rw [hvv]); (refine AW_gen (fun H5 => H5 b = some [.list ys.length (cat cY ys), .int .i64 (p + 1 + 1 + 1)] ∧ H5 gb = some [.sl xb 2 0 xs.length c1', .sl nb 1 0 nx.length c2'] ∧ H5 xb = some (cat oP xs ++ List.replicate j1 D.any) ∧ H5 nb = some (cat oL (nx.set ii (nth nx ii ++ [vv])) ++ List.replicate j2 D.any)) ⟨by simp [upd, hbg, Ne.symm hbg, n1, n2, n3, Ne.symm n1, Ne.symm n2, Ne.symm n3, m2, m3, Ne.symm m2, Ne.symm m3, l1, l2, l3, l4, Ne.symm l1, Ne.symm l2, Ne.symm l3, Ne.symm l4], by simp [upd, hbg, Ne.symm hbg, n1, n2, n3, Ne.symm n1, Ne.symm n2, Ne.symm n3, m2, m3, Ne.symm m2, Ne.symm m3, l1, l2, l3, l4, Ne.symm l1, Ne.symm l2, Ne.symm l3, Ne.symm l4, w2], by simp [upd, hbg, Ne.symm hbg, n1, n2, n3, Ne.symm n1, Ne.symm n2, Ne.symm n3, m2, m3, Ne.symm m2, Ne.symm m3, l1, l2, l3, l4, Ne.symm l1, Ne.symm l2, Ne.symm l3, Ne.symm l4, w3], by have := set_cat1 hkn (nth nx ii ++ [vv]) (List.replicate j2 D.any); simpa [upd, hbg, Ne.symm hbg, n1, n2, n3, Ne.symm n1, Ne.symm n2, Ne.symm n3, m2, m3, Ne.symm m2, Ne.symm m3, l1, l2, l3, l4, Ne.symm l1, Ne.symm l2, Ne.symm l3, Ne.symm l4, w4, cat_append, cat_one, cI, hZZ, List.set_set] using this⟩ fun H5 ⟨t1, t2, t3, t4⟩ => ?_); (obtain ⟨X, hX⟩ : ∃ X, X = xs := ⟨_, rfl⟩); (obtain ⟨Y, hY⟩ : ∃ Y, Y = nx.set ii (nth nx ii ++ [vv]) := ⟨_, rfl⟩); (rw [← hX] at t3); (first | rw [← hY] at t4 | skip); (have hXl : X.length = xs.length := (by simp [hX])); (have hYl : Y.length = nx.length := (by simp [hY])); (obtain ⟨qq, hqq⟩ : ∃ qq, qq = p + 1 + 1 + 1 := ⟨_, rfl⟩); (rw [← hqq] at t1); (have hM : Mut a bb (X, Y) := (by rw [hX, hY]; exact ⟨.inr ⟨by (try dsimp only); (try simp only [List.length_set, List.length_append, List.length_singleton]); omega, by (try dsimp only); (try simp only [List.length_set, List.length_append, List.length_singleton]); omega⟩, by (try dsimp only); (try simp only [List.length_set, List.length_append, List.length_singleton]); omega, by (try dsimp only); (try simp only [List.length_set, List.length_append, List.length_singleton]); omega, fun N _ h => y3.lenS h, fun N hN h => ((y4.lenL h).succ).set (by rw [List.length_append, List.length_singleton]; exact Nat.succ_le_succ (y4.lenL h _ (nth_mem hkn)))⟩)); (refine AW_unmatCell gb 1 (b' := nb) (sz := 1) (m := nx.length) (cp := c2') (all := [.sl xb 2 0 xs.length c1', .sl nb 1 0 nx.length c2']) (cs := cat oL Y ++ List.replicate j2 D.any) t2 rfl n2 t4 (by omega) (by simp [cat_length, hYl]) (by simp [cat_length, hYl]; omega) ?_); (refine AW_unmatCell gb 0 (b' := xb) (sz := 2) (m := xs.length) (cp := c1') (all := [.sl xb 2 0 xs.length c1', .fr 1 nx.length ((cat oL Y ++ List.replicate j2 D.any).take (nx.length * 1))]) (cs := cat oP X ++ List.replicate j1 D.any) (by simp [upd, hbg, Ne.symm hbg, n1, n2, n3, Ne.symm n1, Ne.symm n2, Ne.symm n3, m2, m3, Ne.symm m2, Ne.symm m3]) rfl n1 (by simp [upd, hbg, Ne.symm hbg, n1, n2, n3, Ne.symm n1, Ne.symm n2, Ne.symm n3, m2, m3, Ne.symm m2, Ne.symm m3, t3]) (by omega) (by simp [cat_length, hXl]) (by simp [cat_length, hXl]; omega) ?_); (refine AW_gen (fun H3 => H3 b = some [.list ys.length (cat cY ys), .int .i64 (qq)] ∧ H3 gb = some [.fr 2 X.length (cat oP X), .fr 1 Y.length (cat oL Y)]) ⟨by simp [upd, hbg, Ne.symm hbg, n1, n2, n3, Ne.symm n1, Ne.symm n2, Ne.symm n3, m2, m3, Ne.symm m2, Ne.symm m3, t1], by rw [hXl]; simp only [hYl]; simp [upd, hbg, Ne.symm hbg, n1, n2, n3, Ne.symm n1, Ne.symm n2, Ne.symm n3, m2, m3, Ne.symm m2, Ne.symm m3, (show (cat oP X ++ List.replicate j1 D.any).take (xs.length * 2) = cat oP X from by rw [← hXl]; exact cat_take_app X _), (show (cat oL Y ++ List.replicate j2 D.any).take nx.length = cat oL Y from by rw [← hYl]; exact cat_take_app1 Y _)]⟩ fun H3 ⟨v1, v2⟩ => ?_))
    | refine AW_region (id := 8) Γe33_ok [] (by kernel_rfl) ?_; simp  [-List.getD_eq_getElem?_getD, -List.drop_one, ↓splitB_true, ↓splitB_false, go_sem]
    | refine AW_region (id := 9) Γe33_ok [] (by kernel_rfl) ?_; simp  [-List.getD_eq_getElem?_getD, -List.drop_one, ↓splitB_true, ↓splitB_false, go_sem, w1, w2, w4, hbg, Ne.symm hbg, n1, n2, n3, Ne.symm n1, Ne.symm n2, Ne.symm n3, m2, m3, Ne.symm m2, Ne.symm m3, hkn, (show ii < nx.length + j2 by omega), (show ii + 1 ≤ nx.length + j2 by omega)]; try ((refine AW_gen (fun H5 => H5 b = some [.list ys.length (cat cY ys), .int .i64 (p + 1 + 1)] ∧ H5 gb = some [.sl xb 2 0 xs.length c1', .sl nb 1 0 nx.length c2'] ∧ H5 xb = some (cat oP xs ++ List.replicate j1 D.any) ∧ H5 nb = some (cat oL (nx.set ii []) ++ List.replicate j2 D.any)) ⟨by simp [upd, hbg, Ne.symm hbg, n1, n2, n3, Ne.symm n1, Ne.symm n2, Ne.symm n3, m2, m3, Ne.symm m2, Ne.symm m3, w1], by simp [upd, hbg, Ne.symm hbg, n1, n2, n3, Ne.symm n1, Ne.symm n2, Ne.symm n3, m2, m3, Ne.symm m2, Ne.symm m3, w2], by simp [upd, hbg, Ne.symm hbg, n1, n2, n3, Ne.symm n1, Ne.symm n2, Ne.symm n3, m2, m3, Ne.symm m2, Ne.symm m3, w3], by have := set_cat1 hkn [] ([] : List D); simpa [upd, hbg, Ne.symm hbg, n1, n2, n3, Ne.symm n1, Ne.symm n2, Ne.symm n3, m2, m3, Ne.symm m2, Ne.symm m3, w4, cat_nil] using this⟩ fun H5 ⟨t1, t2, t3, t4⟩ => ?_); (obtain ⟨X, hX⟩ : ∃ X, X = xs := ⟨_, rfl⟩); (obtain ⟨Y, hY⟩ : ∃ Y, Y = nx.set ii [] := ⟨_, rfl⟩); (rw [← hX] at t3); (first | rw [← hY] at t4 | skip); (have hXl : X.length = xs.length := (by simp [hX])); (have hYl : Y.length = nx.length := (by simp [hY])); (obtain ⟨qq, hqq⟩ : ∃ qq, qq = p + 1 + 1 := ⟨_, rfl⟩); (rw [← hqq] at t1); (have hM : Mut a bb (X, Y) := (by rw [hX, hY]; exact ⟨.inr ⟨by (try dsimp only); (try simp only [List.length_set, List.length_append, List.length_singleton]); omega, by (try dsimp only); (try simp only [List.length_set, List.length_append, List.length_singleton]); omega⟩, by (try dsimp only); (try simp only [List.length_set, List.length_append, List.length_singleton]); omega, by (try dsimp only); (try simp only [List.length_set, List.length_append, List.length_singleton]); omega, fun N _ h => y3.lenS h, fun N hN h => ((y4.lenL h).succ).set (Nat.zero_le _)⟩)); (refine AW_unmatCell gb 1 (b' := nb) (sz := 1) (m := nx.length) (cp := c2') (all := [.sl xb 2 0 xs.length c1', .sl nb 1 0 nx.length c2']) (cs := cat oL Y ++ List.replicate j2 D.any) t2 rfl n2 t4 (by omega) (by simp [cat_length, hYl]) (by simp [cat_length, hYl]; omega) ?_); (refine AW_unmatCell gb 0 (b' := xb) (sz := 2) (m := xs.length) (cp := c1') (all := [.sl xb 2 0 xs.length c1', .fr 1 nx.length ((cat oL Y ++ List.replicate j2 D.any).take (nx.length * 1))]) (cs := cat oP X ++ List.replicate j1 D.any) (by simp [upd, hbg, Ne.symm hbg, n1, n2, n3, Ne.symm n1, Ne.symm n2, Ne.symm n3, m2, m3, Ne.symm m2, Ne.symm m3]) rfl n1 (by simp [upd, hbg, Ne.symm hbg, n1, n2, n3, Ne.symm n1, Ne.symm n2, Ne.symm n3, m2, m3, Ne.symm m2, Ne.symm m3, t3]) (by omega) (by simp [cat_length, hXl]) (by simp [cat_length, hXl]; omega) ?_); (refine AW_gen (fun H3 => H3 b = some [.list ys.length (cat cY ys), .int .i64 (qq)] ∧ H3 gb = some [.fr 2 X.length (cat oP X), .fr 1 Y.length (cat oL Y)]) ⟨by simp [upd, hbg, Ne.symm hbg, n1, n2, n3, Ne.symm n1, Ne.symm n2, Ne.symm n3, m2, m3, Ne.symm m2, Ne.symm m3, t1], by rw [hXl]; simp only [hYl]; simp [upd, hbg, Ne.symm hbg, n1, n2, n3, Ne.symm n1, Ne.symm n2, Ne.symm n3, m2, m3, Ne.symm m2, Ne.symm m3, (show (cat oP X ++ List.replicate j1 D.any).take (xs.length * 2) = cat oP X from by rw [← hXl]; exact cat_take_app X _), (show (cat oL Y ++ List.replicate j2 D.any).take nx.length = cat oL Y from by rw [← hYl]; exact cat_take_app1 Y _)]⟩ fun H3 ⟨v1, v2⟩ => ?_))
    | refine AW_region (id := 10) Γe33_ok [] (by kernel_rfl) ?_; simp  [-List.getD_eq_getElem?_getD, -List.drop_one, ↓splitB_true, ↓splitB_false, go_sem]
    | refine AW_region_snap (id := 11) Γe33_ok mixed [(gb, [.sl xb 2 0 xs.length c1', .sl nb 1 0 nx.length c2'])] [] [] (by kernel_rfl) (by kernel_rfl) (by simp [-List.getD_eq_getElem?_getD, -List.drop_one, ↓splitB_true, ↓splitB_false, go_sem, w1, w2, w3, hbg, Ne.symm hbg, n1, n2, n3, Ne.symm n1, Ne.symm n2, Ne.symm n3, m2, m3, Ne.symm m2, Ne.symm m3, hkz, hl, (show 0 ≤ p + 1 + 1 by omega), (show p + 1 + 1 ≤ 1000000 by omega), (show 0 ≤ p + 1 + 1 + 1 by omega), (show p + 1 + 1 + 1 ≤ 1000000 by omega), (show ii * 2 + 2 ≤ xs.length * 2 + j1 by omega), (show ii * 2 + 1 < xs.length * 2 + j1 by omega)]) (by simp [-List.getD_eq_getElem?_getD, -List.drop_one, ↓splitB_true, ↓splitB_false, go_sem, w1, w2, w3, hbg, Ne.symm hbg, n1, n2, n3, Ne.symm n1, Ne.symm n2, Ne.symm n3, m2, m3, Ne.symm m2, Ne.symm m3, hkz, hl, (show 0 ≤ p + 1 + 1 by omega), (show p + 1 + 1 ≤ 1000000 by omega), (show 0 ≤ p + 1 + 1 + 1 by omega), (show p + 1 + 1 + 1 ≤ 1000000 by omega), (show ii * 2 + 2 ≤ xs.length * 2 + j1 by omega), (show ii * 2 + 1 < xs.length * 2 + j1 by omega)]) ?_; simp  [-List.getD_eq_getElem?_getD, -List.drop_one, ↓splitB_true, ↓splitB_false, go_sem, w1, w2, w3, hbg, Ne.symm hbg, n1, n2, n3, Ne.symm n1, Ne.symm n2, Ne.symm n3, m2, m3, Ne.symm m2, Ne.symm m3, hkz, hl, (show 0 ≤ p + 1 + 1 by omega), (show p + 1 + 1 ≤ 1000000 by omega), (show 0 ≤ p + 1 + 1 + 1 by omega), (show p + 1 + 1 + 1 ≤ 1000000 by omega), (show ii * 2 + 2 ≤ xs.length * 2 + j1 by omega), (show ii * 2 + 1 < xs.length * 2 + j1 by omega)]; try ((obtain ⟨vv, hvv⟩ : ∃ vv, numI ys (p + 1 + 1) [4, -1, 0] = vv := ⟨_, rfl⟩); (rw [hvv]); (refine AW_gen (fun H5 => H5 b = some [.list ys.length (cat cY ys), .int .i64 (p + 1 + 1 + 1)] ∧ H5 gb = some [.sl xb 2 0 xs.length c1', .sl nb 1 0 nx.length c2'] ∧ H5 xb = some (cat oP (xs.set ii ((nth xs ii).1, [0, 0, vv])) ++ List.replicate j1 D.any) ∧ H5 nb = some (cat oL nx ++ List.replicate j2 D.any)) ⟨by simp [upd, hbg, Ne.symm hbg, n1, n2, n3, Ne.symm n1, Ne.symm n2, Ne.symm n3, m2, m3, Ne.symm m2, Ne.symm m3], by simp [upd, hbg, Ne.symm hbg, n1, n2, n3, Ne.symm n1, Ne.symm n2, Ne.symm n3, m2, m3, Ne.symm m2, Ne.symm m3, w2], by have := set_cat2 hkz [0, 0, vv] (List.replicate j1 D.any); simpa [upd, hbg, Ne.symm hbg, n1, n2, n3, Ne.symm n1, Ne.symm n2, Ne.symm n3, m2, m3, Ne.symm m2, Ne.symm m3, w3, cat_nil, cat_cons, cI] using this, by simp [upd, hbg, Ne.symm hbg, n1, n2, n3, Ne.symm n1, Ne.symm n2, Ne.symm n3, m2, m3, Ne.symm m2, Ne.symm m3, w4]⟩ fun H5 ⟨t1, t2, t3, t4⟩ => ?_); (obtain ⟨X, hX⟩ : ∃ X, X = xs.set ii ((nth xs ii).1, [0, 0, vv]) := ⟨_, rfl⟩); (obtain ⟨Y, hY⟩ : ∃ Y, Y = nx := ⟨_, rfl⟩); (rw [← hX] at t3); (first | rw [← hY] at t4 | skip); (have hXl : X.length = xs.length := (by simp [hX])); (have hYl : Y.length = nx.length := (by simp [hY])); (obtain ⟨qq, hqq⟩ : ∃ qq, qq = p + 1 + 1 + 1 := ⟨_, rfl⟩); (rw [← hqq] at t1); (have hM : Mut a bb (X, Y) := (by rw [hX, hY]; exact ⟨.inr ⟨by (try dsimp only); (try simp only [List.length_set, List.length_append, List.length_singleton]); omega, by (try dsimp only); (try simp only [List.length_set, List.length_append, List.length_singleton]); omega⟩, by (try dsimp only); (try simp only [List.length_set, List.length_append, List.length_singleton]); omega, by (try dsimp only); (try simp only [List.length_set, List.length_append, List.length_singleton]); omega, fun N hN h => (y3.lenS h).set ⟨((y3.lenS h) _ (nth_mem hkz)).1, hN⟩, fun N _ h => (y4.lenL h).succ⟩)); (refine AW_unmatCell gb 1 (b' := nb) (sz := 1) (m := nx.length) (cp := c2') (all := [.sl xb 2 0 xs.length c1', .sl nb 1 0 nx.length c2']) (cs := cat oL Y ++ List.replicate j2 D.any) t2 rfl n2 t4 (by omega) (by simp [cat_length, hYl]) (by simp [cat_length, hYl]; omega) ?_); (refine AW_unmatCell gb 0 (b' := xb) (sz := 2) (m := xs.length) (cp := c1') (all := [.sl xb 2 0 xs.length c1', .fr 1 nx.length ((cat oL Y ++ List.replicate j2 D.any).take (nx.length * 1))]) (cs := cat oP X ++ List.replicate j1 D.any) (by simp [upd, hbg, Ne.symm hbg, n1, n2, n3, Ne.symm n1, Ne.symm n2, Ne.symm n3, m2, m3, Ne.symm m2, Ne.symm m3]) rfl n1 (by simp [upd, hbg, Ne.symm hbg, n1, n2, n3, Ne.symm n1, Ne.symm n2, Ne.symm n3, m2, m3, Ne.symm m2, Ne.symm m3, t3]) (by omega) (by simp [cat_length, hXl]) (by simp [cat_length, hXl]; omega) ?_); (refine AW_gen (fun H3 => H3 b = some [.list ys.length (cat cY ys), .int .i64 (qq)] ∧ H3 gb = some [.fr 2 X.length (cat oP X), .fr 1 Y.length (cat oL Y)]) ⟨by simp [upd, hbg, Ne.symm hbg, n1, n2, n3, Ne.symm n1, Ne.symm n2, Ne.symm n3, m2, m3, Ne.symm m2, Ne.symm m3, t1], by rw [hXl]; simp only [hYl]; simp [upd, hbg, Ne.symm hbg, n1, n2, n3, Ne.symm n1, Ne.symm n2, Ne.symm n3, m2, m3, Ne.symm m2, Ne.symm m3, (show (cat oP X ++ List.replicate j1 D.any).take (xs.length * 2) = cat oP X from by rw [← hXl]; exact cat_take_app X _), (show (cat oL Y ++ List.replicate j2 D.any).take nx.length = cat oL Y from by rw [← hYl]; exact cat_take_app1 Y _)]⟩ fun H3 ⟨v1, v2⟩ => ?_))
    | refine AW_region (id := 12) Γe33_ok [] (by kernel_rfl) ?_; simp  [-List.getD_eq_getElem?_getD, -List.drop_one, ↓splitB_true, ↓splitB_false, go_sem]
    | refine AW_region (id := 13) Γe33_ok [] (by kernel_rfl) ?_; simp  [-List.getD_eq_getElem?_getD, -List.drop_one, ↓splitB_true, ↓splitB_false, go_sem]
    | (first | (rename Mut a bb _ => hM; skip) | ((have t1 := w1); (have t2 := w2); (have t3 := w3); (have t4 := w4); (obtain ⟨X, hX⟩ : ∃ X, X = xs := ⟨_, rfl⟩); (obtain ⟨Y, hY⟩ : ∃ Y, Y = nx := ⟨_, rfl⟩); (rw [← hX] at t3); (first | rw [← hY] at t4 | skip); (have hXl : X.length = xs.length := (by simp [hX])); (have hYl : Y.length = nx.length := (by simp [hY])); (obtain ⟨qq, hqq⟩ : ∃ qq, qq = p + 1 + 1 := ⟨_, rfl⟩); (rw [← hqq] at t1); (have hM : Mut a bb (X, Y) := (by rw [hX, hY]; exact ⟨.inr ⟨by (try dsimp only); (try simp only [List.length_set, List.length_append, List.length_singleton]); omega, by (try dsimp only); (try simp only [List.length_set, List.length_append, List.length_singleton]); omega⟩, by (try dsimp only); (try simp only [List.length_set, List.length_append, List.length_singleton]); omega, by (try dsimp only); (try simp only [List.length_set, List.length_append, List.length_singleton]); omega, fun N _ h => y3.lenS h, fun N _ h => (y4.lenL h).succ⟩)); (refine AW_unmatCell gb 1 (b' := nb) (sz := 1) (m := nx.length) (cp := c2') (all := [.sl xb 2 0 xs.length c1', .sl nb 1 0 nx.length c2']) (cs := cat oL Y ++ List.replicate j2 D.any) t2 rfl n2 t4 (by omega) (by simp [cat_length, hYl]) (by simp [cat_length, hYl]; omega) ?_); (refine AW_unmatCell gb 0 (b' := xb) (sz := 2) (m := xs.length) (cp := c1') (all := [.sl xb 2 0 xs.length c1', .fr 1 nx.length ((cat oL Y ++ List.replicate j2 D.any).take (nx.length * 1))]) (cs := cat oP X ++ List.replicate j1 D.any) (by simp [upd, hbg, Ne.symm hbg, n1, n2, n3, Ne.symm n1, Ne.symm n2, Ne.symm n3, m2, m3, Ne.symm m2, Ne.symm m3]) rfl n1 (by simp [upd, hbg, Ne.symm hbg, n1, n2, n3, Ne.symm n1, Ne.symm n2, Ne.symm n3, m2, m3, Ne.symm m2, Ne.symm m3, t3]) (by omega) (by simp [cat_length, hXl]) (by simp [cat_length, hXl]; omega) ?_); (refine AW_gen (fun H3 => H3 b = some [.list ys.length (cat cY ys), .int .i64 (qq)] ∧ H3 gb = some [.fr 2 X.length (cat oP X), .fr 1 Y.length (cat oL Y)]) ⟨by simp [upd, hbg, Ne.symm hbg, n1, n2, n3, Ne.symm n1, Ne.symm n2, Ne.symm n3, m2, m3, Ne.symm m2, Ne.symm m3, t1], by rw [hXl]; simp only [hYl]; simp [upd, hbg, Ne.symm hbg, n1, n2, n3, Ne.symm n1, Ne.symm n2, Ne.symm n3, m2, m3, Ne.symm m2, Ne.symm m3, (show (cat oP X ++ List.replicate j1 D.any).take (xs.length * 2) = cat oP X from by rw [← hXl]; exact cat_take_app X _), (show (cat oL Y ++ List.replicate j2 D.any).take nx.length = cat oL Y from by rw [← hYl]; exact cat_take_app1 Y _)]⟩ fun H3 ⟨v1, v2⟩ => ?_))); refine AW_region (id := 14) Γe33_ok [] (by kernel_rfl) ?_; simp  [-List.getD_eq_getElem?_getD, -List.drop_one, ↓splitB_true, ↓splitB_false, go_sem, v2, hbg, Ne.symm hbg, n1, n2, n3, Ne.symm n1, Ne.symm n2, Ne.symm n3, m2, m3, Ne.symm m2, Ne.symm m3]
    | refine AW_condA (c := .tmp 16) ?_; simp [-List.getD_eq_getElem?_getD, -List.drop_one, ↓splitB_true, ↓splitB_false, go_sem]; try first | (refine ⟨?_, ?_⟩ <;> change AW _ _ _ _ _ _) | (refine ⟨fun c16 => ?_, fun c16 => ?_⟩ <;> (try simp [B_iff, B_not] at c16))
    | refine AW_condA (c := .tmp 24) ?_; simp [-List.getD_eq_getElem?_getD, -List.drop_one, ↓splitB_true, ↓splitB_false, go_sem]; try first | (refine ⟨?_, ?_⟩ <;> change AW _ _ _ _ _ _) | (refine ⟨fun c24 => ?_, fun c24 => ?_⟩ <;> (try simp [B_iff, B_not] at c24))
    | refine AW_condA (c := .tmp 40) ?_; simp [-List.getD_eq_getElem?_getD, -List.drop_one, ↓splitB_true, ↓splitB_false, go_sem]; try first | (refine ⟨?_, ?_⟩ <;> change AW _ _ _ _ _ _) | (refine ⟨fun c40 => ?_, fun c40 => ?_⟩ <;> (try simp [B_iff, B_not] at c40))
    | refine AW_condA (c := .tmp 47) ?_; simp [-List.getD_eq_getElem?_getD, -List.drop_one, ↓splitB_true, ↓splitB_false, go_sem]; try first | (refine ⟨?_, ?_⟩ <;> change AW _ _ _ _ _ _) | (refine ⟨fun c47 => ?_, fun c47 => ?_⟩ <;> (try simp [B_iff, B_not] at c47))
    | refine AW_condA (c := .tmp 58) ?_; simp [-List.getD_eq_getElem?_getD, -List.drop_one, ↓splitB_true, ↓splitB_false, go_sem]; try first | (refine ⟨?_, ?_⟩ <;> change AW _ _ _ _ _ _) | (refine ⟨fun c58 => ?_, fun c58 => ?_⟩ <;> (try simp [B_iff, B_not] at c58))
    | (refine AW_block ?_)
    | (refine AW_exit ?_; simp [-List.getD_eq_getElem?_getD, -List.drop_one, ↓splitB_true, ↓splitB_false, go_sem])
    | (refine AW_skip ?_; simp [-List.getD_eq_getElem?_getD, -List.drop_one, ↓splitB_true, ↓splitB_false, go_sem])
    | (refine AW_ret ?_; try simp [-List.getD_eq_getElem?_getD, -List.drop_one, ↓splitB_true, ↓splitB_false, go_sem, Try.results174])
    | (intro hx; change AW _ _ _ _ _ _)
    | (intro hx; change retR _ _ _ _ _)
    | (refine ⟨?_, ?_⟩ <;> change AW _ _ _ _ _ _)
    | (intro hx; refine ⟨fun hs => ?_, fun hs => ?_⟩)
    | (refine ⟨fun hs => ?_, fun hs => ?_⟩)
    | (refine ⟨?_, fun hs => ?_⟩; change AW _ _ _ _ _ _)
    | (refine ⟨fun hs => ?_, ?_⟩; rotate_left; change AW _ _ _ _ _ _; rotate_left)
    | ((fail_if_success change retR _ _ _ _ _); (exfalso; omega))))
  all_goals (first
    | (refine l4Mutate_ret _ _ _ _ _ (([], [])) (p + 1 + 1) ?_ ?_ ?_ ?_; (first | exact Or.inl rfl | exact Or.inr rfl); (focus (simp [-List.getD_eq_getElem?_getD, -List.drop_one, ↓splitB_true, ↓splitB_false, go_sem, Try.results174, dat, datL, datL_map, li, cat_nil, w1]; done)); (focus ((exact ⟨.inl rfl, Nat.zero_le _, Nat.zero_le _, (fun _ _ _ _ h => by cases h), (fun _ _ _ _ h => by cases h)⟩); done)); (focus (refine ⟨?_, ?_⟩ <;> omega)))
    | (refine l4Mutate_ret _ _ _ _ _ ((X, Y)) (qq) ?_ ?_ ?_ ?_; (first | exact Or.inl rfl | exact Or.inr rfl); (focus (simp [-List.getD_eq_getElem?_getD, -List.drop_one, ↓splitB_true, ↓splitB_false, go_sem, Try.results174, dat, datL_map, li, oP_dat, oL_dat, v1, v2, hbg, Ne.symm hbg, n1, n2, n3, Ne.symm n1, Ne.symm n2, Ne.symm n3, m2, m3, Ne.symm m2, Ne.symm m3]; done)); (focus ((exact hM); done)); (focus (refine ⟨?_, ?_⟩ <;> omega)))
    | skip)
noncomputable def l4MutateC : Con := .rel fun args H => match args with
  | [.ptr b 0, .st [.list n_a c_a, .list n_bb c_bb]] => match H b with
    | some [.list m cs, .int .i64 p] => ((Is cY m cs) ∧ (m ≤ 2000) ∧ (0 ≤ p) ∧ (p + 4 ≤ 1000000) ∧ (Is cP n_a c_a) ∧ (Is cL n_bb c_bb) ∧ (CopyOk (de cP c_a) (de cL c_bb)) ∧ (1 ≤ (de cP c_a).length) ∧ ((de cP c_a).length ≤ (de cL c_bb).length), fun c => (l4Mutate_enc (l4Mutate_sel (de cP c_a) (de cL c_bb) p c).1, upd H b (some [.list m cs, .int .i64 (l4Mutate_sel (de cP c_a) (de cL c_bb) p c).2])))
    | _ => (False, fun _ => (.any, H))
  | _ => (False, fun _ => (.any, H))
attribute [go_sem] l4MutateC
theorem l4MutateC_ok : ConOk Try.prog 174 l4MutateC := by
  refine ⟨callable Try.func174 (by decide) rfl, fun args H h => ?_⟩
  revert h
  dsimp only
  split
  · split
    · rename_i hH
      intro h
      obtain ⟨⟨ys, rfl, rfl⟩, hl, h0_, hp_, ⟨a, rfl, rfl⟩, ⟨bb, rfl, rfl⟩, hg, ha, hab⟩ := h
      try simp only [de_cat] at *
      exact SpecR.enc ((l4Mutate_spec ys _ _ a bb hl h0_ hp_ hg ha hab).frame hH).shut fun c => Prod.ext (l4Mutate_okD _ _ hg ha hab _ _).2.symm rfl
    · intro h; exact h.elim
  · intro h
    exact h.elim
noncomputable def Γe34 : FuncId → Con := ext Γe33 174 l4MutateC
attribute [go_sem] Γe34
theorem Γe34_ok : ∀ g, ConOk Try.prog g (Γe34 g) := ext_ok Γe33_ok l4MutateC_ok

end Go.Proofs.Ytoklpofekcclhaa.Vm


/-
  Draws: pairs of graphs. No conditions.
-/
namespace Go.Proofs.Ytoklpofekcclhaa.Vm
open Go
set_option linter.unusedVariables false
set_option linter.unusedSimpArgs false
set_option maxRecDepth 200000

theorem SmallG.copy {x : List Ints2 × List (List Int)} (h : SmallG x) : CopyOk x.1 x.2 := ⟨by have := h.1; omega, by have := h.2.1; omega, fun s hs => by have := h.2.2.1 s hs; omega, fun l hl => by have := h.2.2.2 l hl; omega⟩
theorem Mut.copy {a : List Ints2} {bb : List (List Int)} {x : List Ints2 × List (List Int)} (h : Mut a bb x) (hs : SmallG (a, bb)) : CopyOk x.1 x.2 :=
  ⟨by have := h.2.1; have := hs.1; dsimp only at *; omega, by have := h.2.2.1; have := hs.2.1; dsimp only at *; omega,
   h.2.2.2.1 100000 (by omega) (SmallG.copy hs).2.2.1, h.2.2.2.2 99999 (by omega) fun l hl => by have := hs.2.2.2 l hl; omega⟩
noncomputable def Γe35 : FuncId → Con := Γe34
attribute [go_sem] Γe35
theorem Γe35_ok : ∀ g, ConOk Try.prog g (Γe35 g) := Γe34_ok
end Go.Proofs.Ytoklpofekcclhaa.Vm


/-
  Draws: a graph and two numbers. No conditions.
-/
namespace Go.Proofs.Ytoklpofekcclhaa.Vm
open Go
set_option linter.unusedVariables false
set_option linter.unusedSimpArgs false
set_option maxRecDepth 200000

theorem drawn_copy (p : Int) (c : Any) : CopyOk (l4Graph_sel p c).1.1 (l4Graph_sel p c).1.2 ∧ 1 ≤ (l4Graph_sel p c).1.1.length ∧ (l4Graph_sel p c).1.1.length ≤ (l4Graph_sel p c).1.2.length ∧ p ≤ (l4Graph_sel p c).2 ∧ (l4Graph_sel p c).2 ≤ p + 2100 := by
  have h := l4Graph_ok p c
  simp only [l4Graph_good] at h
  obtain ⟨⟨h1, h2, h3⟩, h4, h5⟩ := h
  exact ⟨h1.copy, h2, by omega, h4, h5⟩
theorem drawn_pos (c : Any) : 0 ≤ (l4Graph_sel 0 c).2 ∧ (l4Graph_sel 0 c).2 + 4 ≤ 1000000 := by
  obtain ⟨_, _, _, h4, h5⟩ := drawn_copy 0 c
  omega
noncomputable def Γe36 : FuncId → Con := Γe35
attribute [go_sem] Γe36
theorem Γe36_ok : ∀ g, ConOk Try.prog g (Γe36 g) := Γe35_ok
theorem Pure.nilfr {P : Program} {f : FuncId} {args : List D} {xs : List Int} (h : Pure P f args (if xs = [] then .nil else fr 1 cI xs)) : Pure P f args (fr 1 cI xs) := by
  by_cases e : xs = []
  · subst e
    intro μ w vs hb hr
    refine (h μ w vs hb hr).mono fun ex w' hq => ?_
    obtain ⟨v, fl, h1, h2, h3⟩ := hq
    rw [if_pos rfl] at h2
    exact ⟨v, fl, h1, rep_nilfrN h2, h3⟩
  · rw [if_neg e] at h; exact h
theorem implSpF (a : List Ints2) (b : List (List Int)) (x y : Int) : Pure Try.prog 56 [.st [li cP a, li cL b], .int .i64 x, .int .i64 y] (fr 1 cI (spL a b x y)) := (implSp_pure a b x y).nilfr

noncomputable def implSpFC : Con := .pure fun
  | [.st [.list n_a c_a, .list n_b c_b], .int .i64 x, .int .i64 y] => ((Is cP n_a c_a) ∧ (Is cL n_b c_b), fr 1 cI (spL (de cP c_a) (de cL c_b) x y))
  | _ => (False, .any)
attribute [go_sem] implSpFC
theorem implSpFC_ok : ConOk Try.prog 56 implSpFC := by
  refine ⟨callable Try.func56 (by decide) rfl, fun args h => ?_⟩
  revert h
  dsimp only
  split
  · intro h
    obtain ⟨⟨a, rfl, rfl⟩, ⟨b, rfl, rfl⟩⟩ := h
    try simp only [de_cat] at *
    exact ⟨implSpF a b _ _, by simp [go_sem]⟩
  · intro h
    exact h.elim
noncomputable def Γe36f : FuncId → Con := ext Γe36 56 implSpFC
attribute [go_sem] Γe36f
theorem Γe36f_ok : ∀ g, ConOk Try.prog g (Γe36f g) := ext_ok Γe36_ok implSpFC_ok

end Go.Proofs.Ytoklpofekcclhaa.Vm

