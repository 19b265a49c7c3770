/-
  Formulas translated to automata. No conditions.
-/
import Derived.Test.YtkjimmkemnmajaaY5
namespace Go.Proofs.Ytkjimmkemnmajaa.Vm
open Go
set_option linter.unusedVariables false
set_option linter.unusedSimpArgs false
set_option maxRecDepth 200000

section
variable {P : Program} {B : Base} {n : Nat} {S : St} {c : Code} {Q : Exit → St → Prop}
theorem AW_boxNils3 (t : Nat) (hT : S.T t = .box [.nil, .nil, .nil]) (h : AW P B n c Q ⟨upd S.T t (.box [.fr 1 0 [], .fr 1 0 [], .fr 4 0 []]), S.H⟩) : AW P B n c Q S :=
  AW_rebox t hT (fun μ I w vs f hr => by
    simp only [RepL] at hr ⊢
    obtain ⟨v, vs', f1, f2, e1, e2, r1, v2, vs2, g1, g2, e3, e4, r2, v3, vs3, g3, g4, e5, e6, r3, r4⟩ := hr
    exact ⟨v, vs', f1, f2, e1, e2, rep_nilfrN r1, v2, vs2, g1, g2, e3, e4, rep_nilfrN r2, v3, vs3, g3, g4, e5, e6, rep_nilfrN r3, r4⟩) (fun N hb => by simp only [bndL, bnd]; exact ⟨trivial, trivial, trivial, trivial⟩) h
theorem AW_matL (t : Nat) {ls : List (List Int)} {x y : Int} (hT : S.T t = .fr 1 (ls.length + 1) (cat cL ls ++ [.fr 1 2 [.int .i64 x, .int .i64 y]]))
    (h : ∀ b cp k, S.H b = none → ls.length + 1 ≤ cp → cp ≤ ls.length + 1 + k → AW P B n c Q ⟨upd S.T t (.sl b 1 0 (ls.length + 1) cp), upd S.H b (some (cat cL (ls ++ [[x, y]]) ++ List.replicate k .any))⟩) : AW P B n c Q S := by
  refine AW_mat t hT fun b cp k hb h1 h2 => ?_
  have hl : (cat cL ls).length = ls.length := by rw [zaaj]; omega
  refine AW_shutCell b ls.length (all := (cat cL ls ++ [.fr 1 2 [.int .i64 x, .int .i64 y]]) ++ List.replicate k .any) (d := .fr 1 2 [.int .i64 x, .int .i64 y]) (by dsimp only; rw [upd_eq]) ?_ rfl ?_
  · rw [List.append_assoc, List.getElem?_append_right (by omega), hl, Nat.sub_self]; rfl
  · have e : ((cat cL ls ++ [D.fr 1 2 [.int .i64 x, .int .i64 y]]) ++ List.replicate k D.any).set ls.length (dat (.fr 1 2 [.int .i64 x, .int .i64 y])) = cat cL (ls ++ [[x, y]]) ++ List.replicate k .any := by
      rw [List.append_assoc, cat_append, cat_one, List.append_assoc, List.set_append, if_neg (by omega), hl, Nat.sub_self]; rfl
    rw [e]
    have e2 : upd (upd S.H b (some (cat cL ls ++ [D.fr 1 2 [.int .i64 x, .int .i64 y]] ++ List.replicate k D.any))) b (some (cat cL (ls ++ [[x, y]]) ++ List.replicate k .any)) = upd S.H b (some (cat cL (ls ++ [[x, y]]) ++ List.replicate k .any)) := upd_upd ..
    dsimp only
    rw [e2]
    exact h b cp k hb h1 (by omega)
end
@[go_sem] theorem is_lit2 (x0 x1 : Int) : Is cI 2 [D.int .i64 x0, D.int .i64 x1] = True := eq_true ⟨[x0, x1], rfl, rfl⟩
@[go_sem] theorem de_lit2 (x0 x1 : Int) : de cI [D.int .i64 x0, D.int .i64 x1] = [x0, x1] := de_cat (f := cI) [x0, x1]
theorem snoc_cT (xs : List Tr4) (a b c d : Int) : cat cT xs ++ [.int .i64 a, .int .i64 b, .int .i64 c, .int .i64 d] = cat cT (xs ++ [(a, b, c, d)]) := by rw [cat_append, cat_one]; rfl
def SmallT (xs : List Tr4) : Prop := ∀ i, i < xs.length → (nth xs i).2.2.1 ≤ 9223372036854775807
theorem SmallT.nil : SmallT [] := fun i h => by simp at h
theorem SmallT.snoc {xs : List Tr4} (h : SmallT xs) {e : Tr4} (he : e.2.2.1 ≤ 9223372036854775807) : SmallT (xs ++ [e]) := fun i hi => by
  rw [List.length_append, List.length_singleton] at hi
  by_cases q : i < xs.length
  · simp only [nth, List.getD_eq_getElem?_getD, List.getElem?_append_left q]
    have := h i q
    simpa only [nth, List.getD_eq_getElem?_getD] using this
  · have : i = xs.length := by omega
    subst this
    simp only [nth, List.getD_eq_getElem?_getD, List.getElem?_append_right (Nat.le_refl _), Nat.sub_self]
    exact he
def PairsOk (us : List Int) (ls : List (List Int)) : Prop := ∀ p, p ∈ ls → ∃ s ph, p = [s, ph] ∧ PhOk us ph
theorem PairsOk.nil (us : List Int) : PairsOk us [] := fun p h => nomatch h
theorem PairsOk.snoc {us : List Int} {ls : List (List Int)} (h : PairsOk us ls) {s ph : Int} (hp : PhOk us ph) : PairsOk us (ls ++ [[s, ph]]) := fun p hp2 => by
  rcases List.mem_append.1 hp2 with q | q
  · exact h p q
  · exact ⟨s, ph, by simpa using q, hp⟩
structure TA where
  ls : List (List Int)
  js : List Int
  qs : List Bool
  es : List Tr4
  nb : Nat
  cp : Nat
  j : Nat
  H : Hp
def TAi (ab : Nat) (us : List Int) (q : TA) : Prop := PairsOk us q.ls ∧ SmallT q.es ∧ ¬ q.nb = ab ∧ q.ls.length ≤ q.cp ∧ q.cp ≤ q.ls.length + q.j ∧ q.H ab = some [.fr 1 q.js.length (cat cI q.js), .fr 1 q.qs.length (cat cB q.qs), .fr 4 q.es.length (cat cT q.es)] ∧ q.H q.nb = some (cat cL q.ls ++ List.replicate q.j .any)
def T1 (ab : Nat) (us : List Int) (cn : Nat) (q : Nat × TA) : Prop := q.1 ≤ cn ∧ TAi ab us q.2 ∧ q.2.ls.length ≤ q.1 ∧ q.2.js.length ≤ q.1 ∧ q.2.qs.length = 0 ∧ q.2.es.length = 0
def T2 (ab : Nat) (us : List Int) (q : Nat × TA) : Prop := q.1 ≤ q.2.ls.length ∧ TAi ab us q.2 ∧ q.2.ls.length ≤ 96 ∧ q.2.js.length ≤ 32 ∧ q.2.qs.length = q.1 ∧ q.2.es.length ≤ q.1 * 32
def T3 (ab : Nat) (us : List Int) (cn : Nat) (i n0 : Nat) (y : Nat × TA) : Prop := y.1 ≤ cn ∧ TAi ab us y.2 ∧ y.2.ls.length ≤ n0 + y.1 ∧ i + 1 ≤ y.2.ls.length ∧ y.2.js.length ≤ 32 ∧ y.2.qs.length = i + 1 ∧ y.2.es.length ≤ i * 32 + y.1
theorem pow_cn {n : Nat} (h : n ≤ 5) : ∃ cn : Nat, cn ≤ 32 ∧ IntKind.i64.wrap (2 ^ min (IntKind.u64.wrap (n : Int)).toNat 64) = (cn : Int) := by
  have : n = 0 ∨ n = 1 ∨ n = 2 ∨ n = 3 ∨ n = 4 ∨ n = 5 := by omega
  rcases this with e | e | e | e | e | e <;> subst e
  · exact ⟨1, by omega, by decide⟩
  · exact ⟨2, by omega, by decide⟩
  · exact ⟨4, by omega, by decide⟩
  · exact ⟨8, by omega, by decide⟩
  · exact ⟨16, by omega, by decide⟩
  · exact ⟨32, by omega, by decide⟩

noncomputable def TranslateFormula_enc : (List Int × List Bool × List Tr4) × Bool → D := fun x => .tup [.st [li cI x.1.1, li cB x.1.2.1, li cT x.1.2.2], .bool x.2]
attribute [go_sem] TranslateFormula_enc
theorem TranslateFormula_flat (x : (List Int × List Bool × List Tr4) × Bool) : dat (TranslateFormula_enc x) = TranslateFormula_enc x := by simp [go_sem]
def TranslateFormula_good (k : Int) (v : Int) (ks : List Tree) : (List Int × List Bool × List Tr4) × Bool → Prop := fun x => x.1.1.length ≤ 3000 ∧ x.1.2.1.length ≤ 3000 ∧ x.1.2.2.length ≤ 4000 ∧ SmallT x.1.2.2
def TranslateFormula_gd (k : Int) (v : Int) (ks : List Tree) (x : ((List Int × List Bool × List Tr4) × Bool) × D) : Prop := TranslateFormula_good k v ks x.1 ∧ dat x.2 = TranslateFormula_enc x.1
noncomputable def TranslateFormula_selD (k : Int) (v : Int) (ks : List Tree) (c : Any) : ((List Int × List Bool × List Tr4) × Bool) × D := sel (TranslateFormula_gd k v ks) (((([], [], []), false) : (List Int × List Bool × List Tr4) × Bool), TranslateFormula_enc ((([], [], []), false))) c
noncomputable def TranslateFormula_sel (k : Int) (v : Int) (ks : List Tree) (c : Any) : (List Int × List Bool × List Tr4) × Bool := (TranslateFormula_selD k v ks c).1
theorem TranslateFormula_okD (k : Int) (v : Int) (ks : List Tree)  (c : Any) : TranslateFormula_gd k v ks (TranslateFormula_selD k v ks c) := by
  have hx : TranslateFormula_good k v ks ((([], [], []), false)) := ⟨by simp, by simp, by simp, SmallT.nil⟩
  exact sel_ok (p := TranslateFormula_gd k v ks) (x0 := (((([], [], []), false) : (List Int × List Bool × List Tr4) × Bool), TranslateFormula_enc ((([], [], []), false)))) ⟨hx, TranslateFormula_flat _⟩ c
theorem TranslateFormula_ok (k : Int) (v : Int) (ks : List Tree)  (c : Any) : TranslateFormula_good k v ks (TranslateFormula_sel k v ks c) := (TranslateFormula_okD k v ks  c).1
theorem TranslateFormula_ret (k : Int) (v : Int) (ks : List Tree) {e_ : Exit} {S_ : St} (x : (List Int × List Bool × List Tr4) × Bool) (he_ : e_ = .ret ∨ e_ = .normal)
    (h1 : (zaak Try.prog S_ Try.f183.results.toList).1 ∧ dat (resD (zaak Try.prog S_ Try.f183.results.toList).2.1) = TranslateFormula_enc x) (hg : TranslateFormula_good k v ks x) :
    retR Try.prog Try.f183 (fun c => ((TranslateFormula_selD k v ks c).2, fun _ => none)) e_ S_ :=
  ret_prel (good := TranslateFormula_gd k v ks) (enc := fun x : ((List Int × List Bool × List Tr4) × Bool) × D => x.2) (x, resD (zaak Try.prog S_ Try.f183.results.toList).2.1) he_ ⟨h1.1, rfl⟩ ⟨hg, h1.2⟩
set_option maxHeartbeats 16000000 in
theorem TranslateFormula_pure (k : Int) (v : Int) (ks : List Tree)  : SpecR Try.prog 183 [.st [.int .i64 k, .int .i64 v, li cX ks]] (fun _ => none) (fun c => ((TranslateFormula_selD k v ks c).2, fun _ => none)) := by
  refine SpecR.of_walk Try.func183 rfl (by simp [Try.f183]) fun B => ?_
  (repeat' (first
    | refine AW_seq ?_
    | refine zaac (id := 0) Γy23_ok [] (by kernel_rfl) ?_; simp  [-List.getD_eq_getElem?_getD, -List.drop_one, ↓zaab, ↓zaaa, go_sem]; try (refine AW_shut 1 ?_; simp [go_sem])
    | refine zaac (id := 1) Γy23_ok [] (by kernel_rfl) ?_; simp  [-List.getD_eq_getElem?_getD, -List.drop_one, ↓zaab, ↓zaaa, go_sem]; try ((intro c1); (have z0 := BasicFormulas_ok k v ks c1); (generalize BasicFormulas_sel k v ks c1 = z1 at *); (obtain ⟨bs, okb⟩ := z1); (simp only [BasicFormulas_good] at z0); (obtain ⟨hb5, hA⟩ := z0))
    | refine zaac (id := 2) Γy23_ok [] (by kernel_rfl) ?_; simp  [-List.getD_eq_getElem?_getD, -List.drop_one, ↓zaab, ↓zaaa, go_sem]
    | refine zaac (id := 3) Γy23_ok [] (by kernel_rfl) ?_; simp  [-List.getD_eq_getElem?_getD, -List.drop_one, ↓zaab, ↓zaaa, go_sem]
    | refine zaac (id := 4) Γy23_ok [] (by kernel_rfl) ?_; simp  [-List.getD_eq_getElem?_getD, -List.drop_one, ↓zaab, ↓zaaa, go_sem]; try ((intro c4); (have z4 := NormalForm_ok k v ks c4); (generalize NormalForm_sel k v ks c4 = z5 at *); (obtain ⟨⟨gk, gv, gs⟩, okc⟩ := z5); (simp only [NormalForm_good] at z4); (have hV : Valu (.mk gk gv gs) := (by rcases z4.2 with h | h; exact Valu.zero h; exact h.valu)); (clear z4); (refine AW_shut 6 ?_); (simp [go_sem]))
    | refine zaac (id := 5) Γy23_ok [] (by kernel_rfl) ?_; simp  [-List.getD_eq_getElem?_getD, -List.drop_one, ↓zaab, ↓zaaa, go_sem, wrapu_nn (bs.length : Int)]; try ((obtain ⟨cn, hcn, ecn⟩ := pow_cn hb5); (rw [ecn]); (clear ecn))
    | refine zaac (id := 6) Γy23_ok [] (by kernel_rfl) ?_; simp  [-List.getD_eq_getElem?_getD, -List.drop_one, ↓zaab, ↓zaaa, go_sem, (show bs.length ≤ 1000 by omega)]; try ((intro c6); (have hU := l7Untils_ok bs (by omega) c6); (simp only [l7Untils_good] at hU); (generalize l7Untils_sel bs c6 = us at *); (have hul : us.length ≤ 1000 := (by have := hU.1; omega)); (refine AW_shut 9 ?_); (simp [go_sem, dat, datL_map]))
    | refine zaac (id := 7) Γy23_ok [] (by kernel_rfl) ?_; simp  [-List.getD_eq_getElem?_getD, -List.drop_one, ↓zaab, ↓zaaa, go_sem]
    | refine zaac (id := 8) Γy23_ok [] (by kernel_rfl) ?_; simp  [-List.getD_eq_getElem?_getD, -List.drop_one, ↓zaab, ↓zaaa, go_sem]
    | ((refine AW_boxNils3 10 rfl ?_); (refine AW_matBox 10 rfl fun ab hab => ?_); (refine AW_mat 11 rfl fun nb cp j hnb hcp hcj => ?_); (have hna : ¬ nb = ab := (by rintro rfl; simp [upd] at hnb)); (clear hab hnb); (refine AW_gen (fun H1 => TAi ab us ⟨[], [], [], [], nb, cp, j, H1⟩) ⟨PairsOk.nil us, SmallT.nil, hna, Nat.zero_le _, by simpa using hcj, by simp [upd, Ne.symm hna, cat_nil], by simp [upd, cat_nil]⟩ fun H1 hT => ?_)); refine zaac (id := 9) Γy23_ok [] (by kernel_rfl) ?_; simp  [-List.getD_eq_getElem?_getD, -List.drop_one, ↓zaab, ↓zaaa, go_sem]
    | ((have hq1 := hq.1)); refine zaac (id := 10) Γy23_ok [] (by kernel_rfl) ?_; simp  [-List.getD_eq_getElem?_getD, -List.drop_one, ↓zaab, ↓zaaa, go_sem]
    | refine zaac (id := 12) Γy23_ok [] (by kernel_rfl) ?_; simp  [-List.getD_eq_getElem?_getD, -List.drop_one, ↓zaab, ↓zaaa, go_sem, hV]
    | ((obtain ⟨i, zq⟩ := q); (obtain ⟨g1, g2, g3, g4, g5, g6⟩ := hq); (dsimp only at g1 g2 g3 g4 g5 g6); (obtain ⟨ls, js, qs, es, nb, cp, j, H0⟩ := zq); (dsimp only at *); (obtain ⟨t1, t2, t3, t4, t5, t6, t7⟩ := g2); (dsimp only at t1 t2 t3 t4 t5 t6 t7)); refine zaac (id := 13) Γy23_ok [] (by kernel_rfl) ?_; simp  [-List.getD_eq_getElem?_getD, -List.drop_one, ↓zaab, ↓zaaa, go_sem, t6, (show js.length ≤ 9223372036854775806 by omega), (show 2 * (js.length + 1) * 8 ≤ 281474976710656 by omega), snoc_cI]; try ((refine AW_gen (fun H1 => H1 ab = some [.fr 1 (js.length + 1) (cat cI (js ++ [(ls.length : Int)])), .fr 1 qs.length (cat cB qs), .fr 4 es.length (cat cT es)] ∧ H1 nb = some (cat cL ls ++ List.replicate j .any)) ⟨by simp [upd], by simp [upd, t3, t7]⟩ fun H2 ⟨u1, u2⟩ => ?_))
    | refine zaac (id := 14) Γy23_ok [] (by kernel_rfl) ?_; simp  [-List.getD_eq_getElem?_getD, -List.drop_one, ↓zaab, ↓zaaa, go_sem, u1, u2, t3, Ne.symm t3, (show ls.length ≤ 9223372036854775806 by omega), (show 2 * (ls.length + 1) * 24 ≤ 281474976710656 by omega), t5, (show ls.length ≤ ls.length + j by omega)]; try ((refine AW_matL 11 (ls := ls) (x := (i : Int)) (y := 0) rfl fun nb2 cp2 j2 hn2 hc2 hj2 => ?_); (have n2 : ¬ nb2 = ab := (by rintro rfl; simp [upd, t3, Ne.symm t3, u1] at hn2)); (refine AW_gen (fun H1 => TAi ab us ⟨ls ++ [[(i : Int), 0]], js ++ [(ls.length : Int)], qs, es, nb2, cp2, j2, H1⟩) ⟨t1.snoc (PhOk.zero us), t2, n2, by simpa using hc2, by simpa using hj2, by simp [upd, n2, Ne.symm n2, t3, Ne.symm t3, u1], by simp [upd]⟩ fun H3 hT3 => ?_); (have hl3 : (ls ++ [[(i : Int), 0]]).length = ls.length + 1 := (by simp)); (have hz : T1 ab us cn (i + 1, ⟨ls ++ [[(i : Int), 0]], js ++ [(ls.length : Int)], qs, es, nb2, cp2, j2, H3⟩) := ⟨by dsimp only; omega, hT3, by simp; omega, by simp; omega, g5, g6⟩); (rw [← hl3]); (obtain ⟨zz, hzz⟩ : ∃ zz : TA, zz = ⟨ls ++ [[(i : Int), 0]], js ++ [(ls.length : Int)], qs, es, nb2, cp2, j2, H3⟩ := ⟨_, rfl⟩); (rw [← hzz] at hz); (have z1 : ls ++ [[(i : Int), 0]] = zz.ls := (by rw [hzz])); (have z2 : nb2 = zz.nb := (by rw [hzz])); (have z3 : cp2 = zz.cp := (by rw [hzz])); (have z4 : H3 = zz.H := (by rw [hzz])); (rw [z1, z2, z3, z4]); (clear hzz))
    | refine zaac (id := 11) Γy23_ok [] (by kernel_rfl) ?_; simp  [-List.getD_eq_getElem?_getD, -List.drop_one, ↓zaab, ↓zaaa, go_sem, wrapS (k := i) (by omega)]
    | refine zaac (id := 11) Γy23_ok [] (by kernel_rfl) ?_; simp  [-List.getD_eq_getElem?_getD, -List.drop_one, ↓zaab, ↓zaaa, go_sem, wrapS (k := q.1) (by omega)]
    | ((obtain ⟨i0, q1⟩ := q); (obtain ⟨g1, g2, g3, g4, g5, g6⟩ := hq); (dsimp only at *)); refine zaac (id := 15) Γy23_ok [] (by kernel_rfl) ?_; simp  [-List.getD_eq_getElem?_getD, -List.drop_one, ↓zaab, ↓zaaa, go_sem]
    | ((have hr1 := hr.1); (have hr3 := hr.2.2.1)); refine zaac (id := 16) Γy23_ok [] (by kernel_rfl) ?_; simp  [-List.getD_eq_getElem?_getD, -List.drop_one, ↓zaab, ↓zaaa, go_sem]
    | refine zaac (id := 18) Γy23_ok [] (by kernel_rfl) ?_; simp  [-List.getD_eq_getElem?_getD, -List.drop_one, ↓zaab, ↓zaaa, go_sem]
    | refine zaac (id := 19) Γy23_ok [] (by kernel_rfl) ?_; simp  [-List.getD_eq_getElem?_getD, -List.drop_one, ↓zaab, ↓zaaa, go_sem]
    | ((obtain ⟨i, rz⟩ := r); (obtain ⟨h1, h2, h3, h4, h5, h6⟩ := hr); (dsimp only at *); (obtain ⟨ls, js, qs, es, nb, cp, j, H0⟩ := rz); (dsimp only at *); (obtain ⟨t1, t2, t3, t4, t5, t6, t7⟩ := h2); (dsimp only at t1 t2 t3 t4 t5 t6 t7); (have hil : i < ls.length := (by omega)); (obtain ⟨s, ph, hp, hph⟩ := t1 (nth ls i) (nth_mem hil))); refine zaac (id := 20) Γy23_ok [] (by kernel_rfl) ?_; simp  [-List.getD_eq_getElem?_getD, -List.drop_one, ↓zaab, ↓zaaa, go_sem, hil, zaas hil, Nat.sub_pos_of_lt hil, t7, hp, (show nth [s, ph] 0 = s from rfl), (show i < ls.length + j by omega)]
    | refine zaac (id := 21) Γy23_ok [] (by kernel_rfl) ?_; simp  [-List.getD_eq_getElem?_getD, -List.drop_one, ↓zaab, ↓zaaa, go_sem, hA, hU, hph, hul, (show nth [ph] 0 = ph from rfl), (show nth [s, ph] 1 = ph from rfl), hil, zaas hil, Nat.sub_pos_of_lt hil, t7, hp, (show i < ls.length + j by omega)]; try ((intro c21); (have h21 := l7Phase_ok bs us s ph hA hU hph hul c21); (simp only [l7Phase_good] at h21); (generalize l7Phase_sel bs us s ph c21 = zp at *); (obtain ⟨ph2, ac⟩ := zp); (dsimp only at h21 ⊢))
    | refine zaac (id := 22) Γy23_ok [] (by kernel_rfl) ?_; simp  [-List.getD_eq_getElem?_getD, -List.drop_one, ↓zaab, ↓zaaa, go_sem, t6, (show qs.length ≤ 9223372036854775806 by omega), (show 2 * (qs.length + 1) * 1 ≤ 281474976710656 by omega), (show 2 * (qs.length + 1) ≤ 281474976710656 by omega), snoc_cB]; try ((refine AW_gen (fun H1 => H1 ab = some [.fr 1 js.length (cat cI js), .fr 1 (qs ++ [ac]).length (cat cB (qs ++ [ac])), .fr 4 es.length (cat cT es)] ∧ H1 nb = some (cat cL ls ++ List.replicate j .any)) ⟨by simp [upd], by simp [upd, t3, t7]⟩ fun H2 ⟨u1, u2⟩ => ?_))
    | refine zaac (id := 23) Γy23_ok [] (by kernel_rfl) ?_; simp  [-List.getD_eq_getElem?_getD, -List.drop_one, ↓zaab, ↓zaaa, go_sem, hA]; try ((intro c23); (have h23 := l7Letter_ok bs s hA c23); (simp only [l7Letter_good] at h23); (generalize l7Letter_sel bs s c23 = zl at *); (obtain ⟨care, vl⟩ := zl); (dsimp only at h23 ⊢))
    | refine zaac (id := 24) Γy23_ok [] (by kernel_rfl) ?_; simp  [-List.getD_eq_getElem?_getD, -List.drop_one, ↓zaab, ↓zaaa, go_sem]
    | ((have hy1 := hy.1)); refine zaac (id := 25) Γy23_ok [] (by kernel_rfl) ?_; simp  [-List.getD_eq_getElem?_getD, -List.drop_one, ↓zaab, ↓zaaa, go_sem]
    | refine zaac (id := 27) Γy23_ok [] (by kernel_rfl) ?_; simp  [-List.getD_eq_getElem?_getD, -List.drop_one, ↓zaab, ↓zaaa, go_sem, hA]; try ((intro c27); (generalize l7Follows_sel bs s (y.1 : Int) c27 = fb at *))
    | ((obtain ⟨e, yz⟩ := y); (obtain ⟨y1, y2, y3, y4, y5, y6, y7⟩ := hy); (dsimp only at *); (obtain ⟨ls2, js2, qs2, es2, nb2, cp2, j2, H4⟩ := yz); (dsimp only at *); (obtain ⟨w1, w2, w3, w4, w5, w6, w7⟩ := y2); (dsimp only at w1 w2 w3 w4 w5 w6 w7)); refine zaac (id := 28) Γy23_ok [] (by kernel_rfl) ?_; simp  [-List.getD_eq_getElem?_getD, -List.drop_one, ↓zaab, ↓zaaa, go_sem]
    | ((refine AW_unmat 11 (b := nb2) (sz := 1) (m := ls2.length) (all := cat cL ls2 ++ List.replicate j2 D.any) rfl w7 (by omega) (by simp [zaaj]) (by simp [zaaj]; omega) ?_); (simp only [Nat.mul_one, cat_take_app1])); refine zaac (id := 29) Γy23_ok [] (by kernel_rfl) ?_; simp  [-List.getD_eq_getElem?_getD, -List.drop_one, ↓zaab, ↓zaaa, go_sem, (show ls2.length ≤ 100000 by omega)]; try ((intro c29); (have h29 := l7Pair_ok ls2 [(e : Int), ph2] (by omega) c29); (simp only [l7Pair_good] at h29); (generalize l7Pair_sel ls2 [(e : Int), ph2] c29 = zq at *); (obtain ⟨ls3, ix⟩ := zq); (dsimp only at h29 ⊢); (have hl3 : ls3.length ≤ ls2.length + 1 ∧ ls2.length ≤ ls3.length := (by rcases h29 with h | h <;> rw [h] <;> simp)); (have hP3 : PairsOk us ls3 := (by rcases h29 with h | h; rw [h]; exact w1; rw [h]; exact w1.snoc h21)); (refine AW_mat 11 rfl fun nb3 cp3 j3 hn3 hc3 hj3 => ?_); (have n3 : ¬ nb3 = ab := (by rintro rfl; simp [upd, w3, Ne.symm w3, w6] at hn3)); (refine AW_gen (fun H1 => H1 ab = some [.fr 1 js2.length (cat cI js2), .fr 1 qs2.length (cat cB qs2), .fr 4 es2.length (cat cT es2)] ∧ H1 nb3 = some (cat cL ls3 ++ List.replicate j3 .any)) ⟨by simp [upd, n3, Ne.symm n3, w3, Ne.symm w3, w6], by simp [upd]⟩ fun H5 ⟨v1, v2⟩ => ?_))
    | refine zaac (id := 30) Γy23_ok [] (by kernel_rfl) ?_; simp  [-List.getD_eq_getElem?_getD, -List.drop_one, ↓zaab, ↓zaaa, go_sem, v1, (show es2.length ≤ 9223372036854775806 by omega), (show 2 * (es2.length + 1) * 32 ≤ 281474976710656 by omega), snoc_cT]; try ((have hl4 : (es2 ++ [((i : Int), care, vl, ix)]).length = es2.length + 1 := (by simp)); (refine AW_gen (fun H1 => TAi ab us ⟨ls3, js2, qs2, es2 ++ [((i : Int), care, vl, ix)], nb3, cp3, j3, H1⟩) ⟨hP3, w2.snoc h23, n3, (show ls3.length ≤ cp3 by omega), (show cp3 ≤ ls3.length + j3 by omega), by simp [upd], by simp [upd, n3, v2]⟩ fun H6 hT6 => ?_); (have hz : T3 ab us cn i ls.length (e + 1, ⟨ls3, js2, qs2, es2 ++ [((i : Int), care, vl, ix)], nb3, cp3, j3, H6⟩) := ⟨by dsimp only; omega, hT6, by dsimp only; omega, by dsimp only; omega, y5, y6, by dsimp only; omega⟩); (obtain ⟨zz, hzz⟩ : ∃ zz : TA, zz = ⟨ls3, js2, qs2, es2 ++ [((i : Int), care, vl, ix)], nb3, cp3, j3, H6⟩ := ⟨_, rfl⟩); (rw [← hzz] at hz); (have z1 : ls3 = zz.ls := (by rw [hzz])); (have z2 : nb3 = zz.nb := (by rw [hzz])); (have z3 : cp3 = zz.cp := (by rw [hzz])); (have z4 : H6 = zz.H := (by rw [hzz])); (rw [z1, z2, z3, z4]); (clear hzz))
    | refine zaac (id := 26) Γy23_ok [] (by kernel_rfl) ?_; simp  [-List.getD_eq_getElem?_getD, -List.drop_one, ↓zaab, ↓zaaa, go_sem, wrapS (k := e) (by omega)]
    | refine zaac (id := 26) Γy23_ok [] (by kernel_rfl) ?_; simp  [-List.getD_eq_getElem?_getD, -List.drop_one, ↓zaab, ↓zaaa, go_sem, wrapS (k := y.1) (by omega)]
    | ((obtain ⟨e, yz⟩ := y); (obtain ⟨y1, y2, y3, y4, y5, y6, y7⟩ := hy); (dsimp only at *); (have hyz : T2 ab us (i + 1, yz) := ⟨by dsimp only; omega, y2, by dsimp only; omega, by dsimp only; omega, y6, by dsimp only; omega⟩)); refine zaac (id := 17) Γy23_ok [] (by kernel_rfl) ?_; simp  [-List.getD_eq_getElem?_getD, -List.drop_one, ↓zaab, ↓zaaa, go_sem, wrapS (k := i) (by omega)]
    | ((obtain ⟨i, rz⟩ := r); (obtain ⟨h1, h2, h3, h4, h5, h6⟩ := hr); (dsimp only at *); (obtain ⟨ls, js, qs, es, nb, cp, j, H0⟩ := rz); (dsimp only at *); (obtain ⟨t1, t2, t3, t4, t5, t6, t7⟩ := h2); (dsimp only at t1 t2 t3 t4 t5 t6 t7)); refine zaac (id := 31) Γy23_ok [] (by kernel_rfl) ?_; simp  [-List.getD_eq_getElem?_getD, -List.drop_one, ↓zaab, ↓zaaa, go_sem]
    | refine zaac (id := 32) Γy23_ok [] (by kernel_rfl) ?_; simp  [-List.getD_eq_getElem?_getD, -List.drop_one, ↓zaab, ↓zaaa, go_sem, t6]; try ((refine AW_gen (fun H1 => H1 ab = some [.fr 1 js.length (cat cI js), .fr 1 [false].length (cat cB [false]), .fr 4 es.length (cat cT es)]) (by simp [upd, cat_one, cB]) fun H2 u1 => ?_))
    | refine zaac (id := 33) Γy23_ok [] (by kernel_rfl) ?_; simp  [-List.getD_eq_getElem?_getD, -List.drop_one, ↓zaab, ↓zaaa, go_sem, u1]
    | refine zaac (id := 33) Γy23_ok [] (by kernel_rfl) ?_; simp  [-List.getD_eq_getElem?_getD, -List.drop_one, ↓zaab, ↓zaaa, go_sem, t6]
    | refine zaaf (c := .tmp 27) ?_; simp [-List.getD_eq_getElem?_getD, -List.drop_one, ↓zaab, ↓zaaa, go_sem]; try first | (refine ⟨?_, ?_⟩ <;> change AW _ _ _ _ _ _) | (refine ⟨fun c27 => ?_, fun c27 => ?_⟩ <;> (try simp [B_iff, B_not] at c27))
    | refine zaaf (c := .tmp 44) ?_; simp [-List.getD_eq_getElem?_getD, -List.drop_one, ↓zaab, ↓zaaa, go_sem]; try first | (refine ⟨?_, ?_⟩ <;> change AW _ _ _ _ _ _) | (refine ⟨fun c44 => ?_, fun c44 => ?_⟩ <;> (try simp [B_iff, B_not] at c44))
    | refine zaaf (c := .tmp 50) ?_; simp [-List.getD_eq_getElem?_getD, -List.drop_one, ↓zaab, ↓zaaa, go_sem]; try first | (refine ⟨?_, ?_⟩ <;> change AW _ _ _ _ _ _) | (refine ⟨fun c50 => ?_, fun c50 => ?_⟩ <;> (try simp [B_iff, B_not] at c50))
    | refine zaaf (c := .tmp 66) ?_; simp [-List.getD_eq_getElem?_getD, -List.drop_one, ↓zaab, ↓zaaa, go_sem]; try first | (refine ⟨?_, ?_⟩ <;> change AW _ _ _ _ _ _) | (refine ⟨fun c66 => ?_, fun c66 => ?_⟩ <;> (try simp [B_iff, B_not] at c66))
    | refine zaaf (c := .tmp 71) ?_; simp [-List.getD_eq_getElem?_getD, -List.drop_one, ↓zaab, ↓zaaa, go_sem]; try first | (refine ⟨?_, ?_⟩ <;> change AW _ _ _ _ _ _) | (refine ⟨fun c71 => ?_, fun c71 => ?_⟩ <;> (try simp [B_iff, B_not] at c71))
    | refine zaaf (c := .tmp 106) ?_; simp [-List.getD_eq_getElem?_getD, -List.drop_one, ↓zaab, ↓zaaa, go_sem]; try first | (refine ⟨?_, ?_⟩ <;> change AW _ _ _ _ _ _) | (refine ⟨fun c106 => ?_, fun c106 => ?_⟩ <;> (try simp [B_iff, B_not] at c106))
    | refine zaaf (c := .tmp 112) ?_; simp [-List.getD_eq_getElem?_getD, -List.drop_one, ↓zaab, ↓zaaa, go_sem]; try first | (refine ⟨?_, ?_⟩ <;> change AW _ _ _ _ _ _) | (refine ⟨fun c112 => ?_, fun c112 => ?_⟩ <;> (try simp [B_iff, B_not] at c112))
    | refine zaaf (c := .tmp 133) ?_; simp [-List.getD_eq_getElem?_getD, -List.drop_one, ↓zaab, ↓zaaa, go_sem]; try first | (refine ⟨?_, ?_⟩ <;> change AW _ _ _ _ _ _) | (refine ⟨fun c133 => ?_, fun c133 => ?_⟩ <;> (try simp [B_iff, B_not] at c133))
    | (refine zaag (id := 0) (AW_loop (ι := Nat × TA) (fun q : Nat × TA => ⟨(upd (upd (upd (upd (upd (upd (upd (upd (fun _ => .any) 2 (.box [.nil, .nil, .nil])) 4 (li cX bs)) 8 (.int .i64 (cn : Int))) 9 (li cI us)) 10 (.ptr ab 0)) 6 (.pd [.int .i64 gk, .int .i64 gv, li cX gs])) 11 (.sl q.2.nb 1 0 q.2.ls.length q.2.cp)) 12 (.int .i64 q.1)), q.2.H⟩) (fun q => T1 ab us cn q) (fun q => cn - q.1) ((0, ⟨[], [], [], [], nb, cp, j, H1⟩)) ?_ ?_ ?_); exact ⟨Nat.zero_le _, hT, Nat.le_refl _, Nat.le_refl _, rfl, rfl⟩; ((repeat' (first | exact zaad (by assumption) | exact zaah | refine zaai ?_ ?_ | refine zaae ?_)) <;> simp [-List.getD_eq_getElem?_getD, -List.drop_one, ↓zaab, ↓zaaa, go_sem, List.length_nil]); rintro q hq)
    | (refine ⟨(i + 1, zz), hz, by first | omega | (simp; done) | (simp; omega), ?_⟩; ((repeat' (first | exact zaad (by assumption) | exact zaah | refine zaai ?_ ?_ | refine zaae ?_)) <;> simp [-List.getD_eq_getElem?_getD, -List.drop_one, ↓zaab, ↓zaaa, go_sem, ]))
    | (refine zaag (id := 2) (AW_loop (ι := Nat × TA) (fun r : Nat × TA => ⟨(upd (upd (upd (upd (upd (upd (upd (fun _ => .any) 2 (.box [.nil, .nil, .nil])) 4 (li cX bs)) 8 (.int .i64 (cn : Int))) 9 (li cI us)) 10 (.ptr ab 0)) 11 (.sl r.2.nb 1 0 r.2.ls.length r.2.cp)) 13 (.int .i64 r.1)), r.2.H⟩) (fun r => T2 ab us r) (fun r => 96 - r.1) ((0, q1)) ?_ ?_ ?_); exact ⟨Nat.zero_le _, g2, by dsimp only; omega, by dsimp only; omega, g5, by dsimp only; omega⟩; ((repeat' (first | exact zaad (by assumption) | exact zaah | refine zaai ?_ ?_ | refine zaae ?_)) <;> simp [-List.getD_eq_getElem?_getD, -List.drop_one, ↓zaab, ↓zaaa, go_sem]); rintro r hr)
    | (refine ⟨(i + 1, yz), hyz, by first | omega | (simp; done) | (simp; omega), ?_⟩; ((repeat' (first | exact zaad (by assumption) | exact zaah | refine zaai ?_ ?_ | refine zaae ?_)) <;> simp [-List.getD_eq_getElem?_getD, -List.drop_one, ↓zaab, ↓zaaa, go_sem]))
    | (refine zaag (id := 4) (AW_loop (ι := Nat × TA) (fun y : Nat × TA => ⟨(upd (upd (upd (upd (upd (upd (upd (upd (upd (upd (upd (upd (fun _ => .any) 2 (.box [.nil, .nil, .nil])) 4 (li cX bs)) 8 (.int .i64 (cn : Int))) 9 (li cI us)) 10 (.ptr ab 0)) 11 (.sl y.2.nb 1 0 y.2.ls.length y.2.cp)) 13 (.int .i64 i)) 14 (.int .i64 s)) 15 (.int .i64 ph2)) 17 (.int .i64 care)) 18 (.int .i64 vl)) 19 (.int .i64 y.1)), y.2.H⟩) (fun y => T3 ab us cn i ls.length y) (fun y => cn - y.1) ((0, ⟨ls, js, qs ++ [ac], es, nb, cp, j, H2⟩)) ?_ ?_ ?_); exact ⟨Nat.zero_le _, ⟨t1, t2, t3, t4, t5, u1, u2⟩, by dsimp only; omega, by dsimp only; omega, h4, by simp; omega, by dsimp only; omega⟩; ((repeat' (first | exact zaad (by assumption) | exact zaah | refine zaai ?_ ?_ | refine zaae ?_)) <;> simp [-List.getD_eq_getElem?_getD, -List.drop_one, ↓zaab, ↓zaaa, go_sem]); rintro y hy)
    | (refine ⟨(e + 1, zz), hz, by first | omega | (simp; done) | (simp; omega), ?_⟩; ((repeat' (first | exact zaad (by assumption) | exact zaah | refine zaai ?_ ?_ | refine zaae ?_)) <;> simp [-List.getD_eq_getElem?_getD, -List.drop_one, ↓zaab, ↓zaaa, go_sem]))
    | (refine zaag ?_)
    | (refine zaap ?_; simp [-List.getD_eq_getElem?_getD, -List.drop_one, ↓zaab, ↓zaaa, go_sem])
    | (refine zaan ?_; simp [-List.getD_eq_getElem?_getD, -List.drop_one, ↓zaab, ↓zaaa, go_sem])
    | (refine AW_ret ?_; try simp [-List.getD_eq_getElem?_getD, -List.drop_one, ↓zaab, ↓zaaa, go_sem, Try.results183])
    | (intro hx; change AW _ _ _ _ _ _)
    | (intro hx; change retR _ _ _ _ _)
    | (refine ⟨?_, ?_⟩ <;> change AW _ _ _ _ _ _)
    | (intro hx; refine ⟨fun hs => ?_, fun hs => ?_⟩)
    | (refine ⟨fun hs => ?_, fun hs => ?_⟩)
    | (refine ⟨?_, fun hs => ?_⟩; change AW _ _ _ _ _ _)
    | (refine ⟨fun hs => ?_, ?_⟩; rotate_left; change AW _ _ _ _ _ _; rotate_left)
    | ((fail_if_success change retR _ _ _ _ _); (refine ⟨(q.1 + 1, q.2), ⟨by dsimp only; omega, hq.2.1, by have := hq.2.2.1; dsimp only; omega, by have := hq.2.2.2.1; dsimp only; omega, hq.2.2.2.2⟩, by dsimp only; omega, ?_⟩; ((repeat' (first | exact zaad (by assumption) | exact zaah | refine zaai ?_ ?_ | refine zaae ?_)) <;> simp [-List.getD_eq_getElem?_getD, -List.drop_one, go_sem]); done))
    | ((fail_if_success change retR _ _ _ _ _); (refine ⟨(y.1 + 1, y.2), ⟨by dsimp only; omega, hy.2.1, by have := hy.2.2.1; dsimp only; omega, hy.2.2.2.1, hy.2.2.2.2.1, hy.2.2.2.2.2.1, by have := hy.2.2.2.2.2.2; dsimp only; omega⟩, by dsimp only; omega, ?_⟩; ((repeat' (first | exact zaad (by assumption) | exact zaah | refine zaai ?_ ?_ | refine zaae ?_)) <;> simp [-List.getD_eq_getElem?_getD, -List.drop_one, go_sem]); done))))
  all_goals (first
    | (refine TranslateFormula_ret _ _ _ ((([], [], []), false)) ?_ ?_ ?_; (first | exact Or.inl rfl | exact Or.inr rfl); (focus (simp [-List.getD_eq_getElem?_getD, -List.drop_one, ↓zaab, ↓zaaa, go_sem, Try.results183, dat, datL_map, li, cat_nil]; done)); (focus ((exact ⟨by simp, by simp, by simp, SmallT.nil⟩); done)))
    | (refine TranslateFormula_ret _ _ _ (((js, qs, es), true)) ?_ ?_ ?_; (first | exact Or.inl rfl | exact Or.inr rfl); (focus (simp [-List.getD_eq_getElem?_getD, -List.drop_one, ↓zaab, ↓zaaa, go_sem, Try.results183, dat, datL_map, li, cat_flat2]; done)); (focus ((exact ⟨by dsimp only; omega, by dsimp only; omega, by dsimp only; omega, t2⟩); done)))
    | (refine TranslateFormula_ret _ _ _ (((js, [false], es), true)) ?_ ?_ ?_; (first | exact Or.inl rfl | exact Or.inr rfl); (focus (simp [-List.getD_eq_getElem?_getD, -List.drop_one, ↓zaab, ↓zaaa, go_sem, Try.results183, dat, datL_map, li, cat_flat2, cat_one, cB]; done)); (focus ((exact ⟨by dsimp only; omega, by simp, by dsimp only; omega, t2⟩); done)))
    | skip)
noncomputable def TranslateFormulaC : Con := .rel fun args H => match args with
  | [.st [.int .i64 k, .int .i64 v, .list n_ks c_ks]] => ((Is cX n_ks c_ks), fun c => (TranslateFormula_enc (TranslateFormula_sel k v (de cX c_ks) c), H))
  | _ => (False, fun _ => (.any, H))
attribute [go_sem] TranslateFormulaC
theorem TranslateFormulaC_ok : ConOk Try.prog 183 TranslateFormulaC := by
  refine ⟨zaal Try.func183 (by decide) rfl, fun args H h => ?_⟩
  revert h
  dsimp only
  split
  · intro h
    obtain ⟨ks, rfl, rfl⟩ := h
    try simp only [de_cat] at *
    exact SpecR.enc ((SpecR.frame0 (TranslateFormula_pure _ _ ks ) (H := H)).shut) fun c => Prod.ext (TranslateFormula_okD _ _ _  c).2.symm rfl
  · intro h
    exact h.elim
noncomputable def Γy24 : FuncId → Con := ext Γy23 183 TranslateFormulaC
attribute [go_sem] Γy24
theorem Γy24_ok : ∀ g, ConOk Try.prog g (Γy24 g) := ext_ok Γy23_ok TranslateFormulaC_ok

end Go.Proofs.Ytkjimmkemnmajaa.Vm

