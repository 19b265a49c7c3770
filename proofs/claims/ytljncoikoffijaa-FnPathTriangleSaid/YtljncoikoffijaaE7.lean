/-
  Systems: all steps; a step taken. No conditions.
-/
import Derived.Test.YtljncoikoffijaaE6
namespace Go.Proofs.Ytljncoikoffijaa.Vm
open Go
set_option linter.unusedVariables false
set_option linter.unusedSimpArgs false
set_option maxRecDepth 200000

set_option maxHeartbeats 1000000 in
noncomputable def l3Steps_enc : List Tr4 → D := fun x => fr 4 cT x
attribute [go_sem] l3Steps_enc
def l3Steps_good (init : List Int) (ps : List Pr) (lo : List Int) (va : List Int) : List Tr4 → Prop := fun xs => StepsF ps 324 xs
noncomputable def l3Steps_sel (init : List Int) (ps : List Pr) (lo : List Int) (va : List Int) (c : Any) : List Tr4 := sel (l3Steps_good init ps lo va) ([]) c
theorem l3Steps_ok (init : List Int) (ps : List Pr) (lo : List Int) (va : List Int) (hS : SysOk init ps) (hT : StF ps lo va) (c : Any) : l3Steps_good init ps lo va (l3Steps_sel init ps lo va c) := sel_ok (p := l3Steps_good init ps lo va) (x0 := []) (by simp [l3Steps_good, StepsF]) c
theorem l3Steps_ret (init : List Int) (ps : List Pr) (lo : List Int) (va : List Int) {e_ : Exit} {S_ : St} (x : List Tr4) (he_ : e_ = .ret ∨ e_ = .normal)
    (h1 : (takeRes Try.prog S_ Try.f122.results.toList).1 ∧ resD (takeRes Try.prog S_ Try.f122.results.toList).2.1 = l3Steps_enc x) (hg : l3Steps_good init ps lo va x) :
    retR Try.prog Try.f122 (fun c => (l3Steps_enc (l3Steps_sel init ps lo va c), fun _ => none)) e_ S_ := ret_prel (enc := l3Steps_enc) x he_ h1 hg
theorem l3Steps_retE (init : List Int) (ps : List Pr) (lo : List Int) (va : List Int) {e_ : Exit} {S_ : St} (he_ : e_ = .ret ∨ e_ = .normal)
    (h : ∃ x, (takeRes Try.prog S_ Try.f122.results.toList).1 ∧ resD (takeRes Try.prog S_ Try.f122.results.toList).2.1 = l3Steps_enc x ∧ l3Steps_good init ps lo va x) :
    retR Try.prog Try.f122 (fun c => (l3Steps_enc (l3Steps_sel init ps lo va c), fun _ => none)) e_ S_ := by
  obtain ⟨x, h1, h2, h3⟩ := h
  exact l3Steps_ret _ _ _ _ x he_ ⟨h1, h2⟩ h3
theorem l3Steps_pure (init : List Int) (ps : List Pr) (lo : List Int) (va : List Int) (hS : SysOk init ps) (hT : StF ps lo va) : PureR Try.prog 122 [.st [li cI init, li cR ps], .st [li cI lo, li cI va]] (fun c => l3Steps_enc (l3Steps_sel init ps lo va c)) := by
  refine PureR.of_walk Try.func122 rfl (by simp [Try.f122]) (fun c => by simp [-List.drop_one, go_sem]) fun B hK => ?_
  have hp3 := hS.2.2.1; have he6 : ∀ i, i < ps.length → (nth ps i).es.length ≤ 6 := (fun i hi => (hS.2.2.2 i hi).2.2.1)
  all_goals (repeat' (first
    | refine AW_seq ?_
    | refine AW_region (id := 0) Γe16_ok [] (by kernel_rfl) ?_; simp  [-List.getD_eq_getElem?_getD, -List.drop_one, ↓splitB_true, ↓splitB_false, go_sem]; try (refine AW_data hK 2 ?_; refine AW_data hK 3 ?_; simp [go_sem])
    | refine AW_region (id := 1) Γe16_ok [] (by kernel_rfl) ?_; simp  [-List.getD_eq_getElem?_getD, -List.drop_one, ↓splitB_true, ↓splitB_false, go_sem]
    | refine AW_region (id := 2) Γe16_ok [] (by kernel_rfl) ?_; simp  [-List.getD_eq_getElem?_getD, -List.drop_one, ↓splitB_true, ↓splitB_false, go_sem]
    | refine AW_region (id := 3) Γe16_ok [] (by kernel_rfl) ?_; simp  [-List.getD_eq_getElem?_getD, -List.drop_one, ↓splitB_true, ↓splitB_false, go_sem]
    | refine AW_region (id := 5) Γe16_ok [] (by kernel_rfl) ?_; simp  [-List.getD_eq_getElem?_getD, -List.drop_one, ↓splitB_true, ↓splitB_false, go_sem]
    | refine AW_region (id := 6) Γe16_ok [] (by kernel_rfl) ?_; simp  [-List.getD_eq_getElem?_getD, -List.drop_one, ↓splitB_true, ↓splitB_false, go_sem, c14, ne_nil c14, Nat.sub_pos_of_lt c14]
    | (have hEA := EdgeAt.mk' c14 c25); refine AW_region (id := 8) Γe16_ok [] (by kernel_rfl) ?_; simp  [-List.getD_eq_getElem?_getD, -List.drop_one, ↓splitB_true, ↓splitB_false, go_sem, c14, ne_nil c14, Nat.sub_pos_of_lt c14, c25, ne_nil c25, Nat.sub_pos_of_lt c25]; try ((generalize (nth (nth ps q.1).es r.1).sy = sy))
    | refine AW_region (id := 9) Γe16_ok [40] (by kernel_rfl) ?_; simp  [-List.getD_eq_getElem?_getD, -List.drop_one, ↓splitB_true, ↓splitB_false, go_sem, hS, hT, hEA]; try (refine ⟨fun s9a => ?_, fun s9a => ?_⟩ <;> (try simp [B_iff, B_not] at s9a) <;> try (refine ⟨fun s9b => ?_, fun s9b => ?_⟩ <;> (try simp [B_iff, B_not] at s9b)))
    | refine AW_region (id := 10) Γe16_ok [] (by kernel_rfl) ?_; simp  [-List.getD_eq_getElem?_getD, -List.drop_one, ↓splitB_true, ↓splitB_false, go_sem]
    | refine AW_region (id := 11) Γe16_ok [] (by kernel_rfl) ?_; simp  [-List.getD_eq_getElem?_getD, -List.drop_one, ↓splitB_true, ↓splitB_false, go_sem, (show r.2.length + 1 ≤ 9223372036854775807 by omega), (show 2 * (r.2.length + 1) * 32 ≤ 281474976710656 by omega), snoc_cT]
    | (have hql := l3Partners_ok init ps lo va q.1 r.1 hS hT hEA); refine AW_region (id := 12) Γe16_ok [] (by kernel_rfl) ?_; simp  [-List.getD_eq_getElem?_getD, -List.drop_one, ↓splitB_true, ↓splitB_false, go_sem, hS, hT, hEA, (fun c => (show (l3Partners_sel init ps lo va q.1 r.1 c).length ≤ 18 from (hql c).1)), (fun c => (show r.2.length + (l3Partners_sel init ps lo va q.1 r.1 c).length ≤ 9223372036854775807 by have := (hql c).1; omega)), (fun c => (show 2 * (r.2.length + (l3Partners_sel init ps lo va q.1 r.1 c).length) * 32 ≤ 281474976710656 by have := (hql c).1; omega))]; try (intro c12; have h12 := hql c12; (generalize l3Partners_sel init ps lo va q.1 r.1 c12 = z12 at *); (simp only [l3Partners_good] at h12))
    | refine AW_region (id := 7) Γe16_ok [] (by kernel_rfl) ?_; simp  [-List.getD_eq_getElem?_getD, -List.drop_one, ↓splitB_true, ↓splitB_false, go_sem, wrapS (k := r.1) (by omega)]
    | refine AW_region (id := 4) Γe16_ok [] (by kernel_rfl) ?_; simp  [-List.getD_eq_getElem?_getD, -List.drop_one, ↓splitB_true, ↓splitB_false, go_sem, wrapS (k := q.1) (by omega)]
    | refine AW_region (id := 13) Γe16_ok [] (by kernel_rfl) ?_; simp  [-List.getD_eq_getElem?_getD, -List.drop_one, ↓splitB_true, ↓splitB_false, go_sem]
    | refine AW_condA (c := .tmp 14) ?_; simp [-List.getD_eq_getElem?_getD, -List.drop_one, ↓splitB_true, ↓splitB_false, go_sem]; try first | (refine ⟨?_, ?_⟩ <;> change AW _ _ _ _ _ _) | (refine ⟨fun c14 => ?_, fun c14 => ?_⟩ <;> (try simp [B_iff, B_not] at c14))
    | refine AW_condA (c := .tmp 25) ?_; simp [-List.getD_eq_getElem?_getD, -List.drop_one, ↓splitB_true, ↓splitB_false, go_sem]; try first | (refine ⟨?_, ?_⟩ <;> change AW _ _ _ _ _ _) | (refine ⟨fun c25 => ?_, fun c25 => ?_⟩ <;> (try simp [B_iff, B_not] at c25))
    | refine AW_condA (c := .tmp 47) ?_; simp [-List.getD_eq_getElem?_getD, -List.drop_one, ↓splitB_true, ↓splitB_false, go_sem]; try first | (refine ⟨?_, ?_⟩ <;> change AW _ _ _ _ _ _) | (refine ⟨fun c47 => ?_, fun c47 => ?_⟩ <;> (try simp [B_iff, B_not] at c47))
    | refine AW_condA (c := .tmp 49) ?_; simp [-List.getD_eq_getElem?_getD, -List.drop_one, ↓splitB_true, ↓splitB_false, go_sem]; try first | (refine ⟨?_, ?_⟩ <;> change AW _ _ _ _ _ _) | (refine ⟨fun c49 => ?_, fun c49 => ?_⟩ <;> (try simp [B_iff, B_not] at c49))
    | (refine AW_block (id := 0) (AW_loop (ι := Nat × List Tr4) (fun q : Nat × List Tr4 => ⟨(upd (upd (upd (upd (fun _ => .any) 2 (.pd [li cI init, li cR ps])) 3 (.pd [li cI lo, li cI va])) 5 (.fr 4 q.2.length (cat cT q.2))) 6 (.int .i64 q.1)), fun _ => none⟩) (fun q => q.1 ≤ ps.length ∧ StepsF ps (108 * q.1) q.2) (fun q => ps.length - q.1) ((0, [])) ?_ ?_ ?_); exact ⟨Nat.zero_le _, by simp [StepsF]⟩; ((repeat' (first | exact sub_noneH (by assumption) | exact sub_none | refine sub_upd ?_ ?_ | refine sub_noneE ?_)) <;> simp [-List.getD_eq_getElem?_getD, -List.drop_one, ↓splitB_true, ↓splitB_false, go_sem, cat]); rintro q ⟨g1, g2⟩)
    | (refine ⟨(q.1 + 1, r.2), ⟨by dsimp only; omega, r2.mono (by dsimp only; omega)⟩, by first | omega | (simp; done) | (simp; omega), ?_⟩; ((repeat' (first | exact sub_noneH (by assumption) | exact sub_none | refine sub_upd ?_ ?_ | refine sub_noneE ?_)) <;> simp [-List.getD_eq_getElem?_getD, -List.drop_one, ↓splitB_true, ↓splitB_false, go_sem, cat]); done)
    | (refine AW_block (id := 2) (AW_loop (ι := Nat × List Tr4) (fun r : Nat × List Tr4 => ⟨(upd (upd (upd (upd (upd (fun _ => .any) 2 (.pd [li cI init, li cR ps])) 3 (.pd [li cI lo, li cI va])) 5 (.fr 4 r.2.length (cat cT r.2))) 6 (.int .i64 q.1)) 7 (.int .i64 r.1)), fun _ => none⟩) (fun r => r.1 ≤ (nth ps q.1).es.length ∧ StepsF ps (108 * q.1 + 18 * r.1) r.2) (fun r => (nth ps q.1).es.length - r.1) ((0, q.2)) ?_ ?_ ?_); exact ⟨Nat.zero_le _, g2⟩; ((repeat' (first | exact sub_noneH (by assumption) | exact sub_none | refine sub_upd ?_ ?_ | refine sub_noneE ?_)) <;> simp [-List.getD_eq_getElem?_getD, -List.drop_one, ↓splitB_true, ↓splitB_false, go_sem, cat]); rintro r ⟨r1, r2⟩; have r3 := he6 q.1 c14; have r4 := r2.1)
    | (refine ⟨(r.1 + 1, r.2 ++ z12), ⟨by dsimp only; omega, r2.app h12 (by dsimp only; omega)⟩, by first | omega | (simp; done) | (simp; omega), ?_⟩; ((repeat' (first | exact sub_noneH (by assumption) | exact sub_none | refine sub_upd ?_ ?_ | refine sub_noneE ?_)) <;> simp [-List.getD_eq_getElem?_getD, -List.drop_one, ↓splitB_true, ↓splitB_false, go_sem, cat_append]); done)
    | (refine AW_block ?_)
    | (refine AW_exit ?_; simp [-List.getD_eq_getElem?_getD, -List.drop_one, ↓splitB_true, ↓splitB_false, go_sem])
    | (refine AW_skip ?_; simp [-List.getD_eq_getElem?_getD, -List.drop_one, ↓splitB_true, ↓splitB_false, go_sem])
    | (refine AW_ret ?_; try simp [-List.getD_eq_getElem?_getD, -List.drop_one, ↓splitB_true, ↓splitB_false, go_sem, Try.results122])
    | (intro hx; change AW _ _ _ _ _ _)
    | (intro hx; change retR _ _ _ _ _)
    | (refine ⟨?_, ?_⟩ <;> change AW _ _ _ _ _ _)
    | (intro hx; refine ⟨fun hs => ?_, fun hs => ?_⟩)
    | (refine ⟨fun hs => ?_, fun hs => ?_⟩)
    | (refine ⟨?_, fun hs => ?_⟩; change AW _ _ _ _ _ _)
    | (refine ⟨fun hs => ?_, ?_⟩; rotate_left; change AW _ _ _ _ _ _; rotate_left)
    | ((fail_if_success change retR _ _ _ _ _); (refine ⟨(r.1 + 1, r.2 ++ [(((q.1 : Int), (r.1 : Int), -1, -1) : Tr4)]), ⟨by dsimp only; omega, r2.snoc ⟨hEA, fun h => by simp at h⟩ (by dsimp only; omega)⟩, by dsimp only; omega, ?_⟩; ((repeat' (first | exact sub_noneH (by assumption) | exact sub_none | refine sub_upd ?_ ?_ | refine sub_noneE ?_)) <;> simp [-List.getD_eq_getElem?_getD, -List.drop_one, go_sem]); done))
    | ((fail_if_success change retR _ _ _ _ _); (refine ⟨(r.1 + 1, r.2), ⟨by dsimp only; omega, r2.mono (by dsimp only; omega)⟩, by dsimp only; omega, ?_⟩; ((repeat' (first | exact sub_noneH (by assumption) | exact sub_none | refine sub_upd ?_ ?_ | refine sub_noneE ?_)) <;> simp [-List.getD_eq_getElem?_getD, -List.drop_one, go_sem])))))
  all_goals (first
    | (refine l3Steps_ret _ _ _ _ ((q.2)) ?_ ?_ ?_; (first | exact Or.inl rfl | exact Or.inr rfl); (focus (simp [-List.getD_eq_getElem?_getD, -List.drop_one, ↓splitB_true, ↓splitB_false, go_sem, Try.results122]; done)); (focus ((exact g2.mono (by omega)); done)))
    | skip)
noncomputable def l3StepsC : Con := .prel fun
  | [.st [.list n_init c_init, .list n_ps c_ps], .st [.list n_lo c_lo, .list n_va c_va]] => ((Is cI n_init c_init) ∧ (Is cR n_ps c_ps) ∧ (Is cI n_lo c_lo) ∧ (Is cI n_va c_va) ∧ (SysOk (de cI c_init) (de cR c_ps)) ∧ (StF (de cR c_ps) (de cI c_lo) (de cI c_va)), fun c => l3Steps_enc (l3Steps_sel (de cI c_init) (de cR c_ps) (de cI c_lo) (de cI c_va) c))
  | _ => (False, fun _ => .any)
attribute [go_sem] l3StepsC
theorem l3StepsC_ok : ConOk Try.prog 122 l3StepsC := by
  refine ⟨callable Try.func122 (by decide) rfl, fun args h => ?_⟩
  revert h
  dsimp only
  split
  · intro h
    obtain ⟨⟨init, rfl, rfl⟩, ⟨ps, rfl, rfl⟩, ⟨lo, rfl, rfl⟩, ⟨va, rfl, rfl⟩, hS, hT⟩ := h
    try simp only [de_cat] at *
    exact ⟨l3Steps_pure init ps lo va hS hT, fun c => by simp [go_sem]⟩
  · intro h
    exact h.elim
noncomputable def Γe17 : FuncId → Con := ext Γe16 122 l3StepsC
attribute [go_sem] Γe17
theorem Γe17_ok : ∀ g, ConOk Try.prog g (Γe17 g) := ext_ok Γe16_ok l3StepsC_ok

theorem ValsOk.set {xs : List Int} (h : ValsOk xs) {k : Nat} {v : Int} (h0 : 0 ≤ v) (h1 : v ≤ 3) : ValsOk (xs.set k v) := by
  refine ⟨by rw [List.length_set]; exact h.1, fun i hi => ?_⟩
  rw [List.length_set] at hi
  by_cases e : k = i
  · subst e; rw [nth_set_self hi]; exact ⟨h0, h1⟩
  · rw [nth_set_ne e]; exact h.2 i hi
theorem ret_own {P : Program} {fn : Func} {e : Exit} {S : St} {α : Type} {good : α → Prop} {x0 : α} {r : D} {K : α → Hp} (x : α) (he : e = .ret ∨ e = .normal)
    (h1 : (takeRes P S fn.results.toList).1 ∧ resD (takeRes P S fn.results.toList).2.1 = r) (h2 : ∀ z cs, K x z = some cs → (takeRes P S fn.results.toList).2.2.H z = some cs) (hg : good x) :
    retR P fn (fun c => (r, K (sel good x0 c))) e S := by
  have key : ∃ c : Any, (takeRes P S fn.results.toList).1 ∧ resD (takeRes P S fn.results.toList).2.1 = r ∧ ∀ z cs, K (sel good x0 c) z = some cs → (takeRes P S fn.results.toList).2.2.H z = some cs :=
    ⟨⟨α, x⟩, h1.1, h1.2, by rw [sel_at hg]; exact h2⟩
  rcases he with rfl | rfl
  · exact key
  · exact key
/-- An edge that may be taken. -/
def EdgeT (v : Int) (e : Tree) : Prop := v ≤ 2 ∧ (0 ≤ v → Well e)
theorem EdOk.take {x : Ed} {loc : Int} (h : EdOk x loc) : EdgeT x.v x.e := ⟨h.2.2.2.2.2.2.2.2.2.1, fun k => (h.2.2.2.2.2.2.2.2.2.2 k).well⟩
noncomputable def take_sel (va : List Int) (c : Any) : List Int := sel ValsOk va c
set_option maxHeartbeats 1000000 in
theorem l3Take_spec (lo va : List Int) (p fr0 to gk gv : Int) (gs : List Tree) (v ek ev : Int) (es : List Tree) (sy : Int) (x y c1 c2 : Nat) (j1 j2 : List D) (H : Hp) (h1 : H x = some (cat cI lo ++ j1)) (h2 : H y = some (cat cI va ++ j2)) (hne : ¬ x = y)
    (hp : 0 ≤ p) (hp2 : p < lo.length) (hv : ValsOk va) (hE : EdgeT v (.mk ek ev es)) :
    SpecR Try.prog 149 [.st [.sl x 1 0 lo.length c1, .sl y 1 0 va.length c2], .int .i64 p, .st [.int .i64 fr0, .int .i64 to, .int .i64 gk, .int .i64 gv, li cX gs, .int .i64 v, .int .i64 ek, .int .i64 ev, li cX es, .int .i64 sy]] H
      (fun c => (.st [.sl x 1 0 lo.length c1, .sl y 1 0 va.length c2], upd (upd H x (some (cat cI (lo.set p.toNat to) ++ j1))) y (some (cat cI (take_sel va c) ++ j2)))) := by
  refine SpecR.of_walk Try.func149 rfl (by simp [Try.f149]) fun B => ?_
  have hpl : p.toNat < lo.length := by omega
  have hvl := hv.1
  obtain ⟨hE1, hE2⟩ := hE
  (repeat' (first
    | refine AW_seq ?_
    | refine AW_region (id := 0) Γe17_ok [] (by kernel_rfl) ?_; simp  [-List.getD_eq_getElem?_getD, -List.drop_one, ↓splitB_true, ↓splitB_false, go_sem]; try ((refine AW_shut 5 ?_); (refine AW_matBox 3 rfl fun pb hpb => ?_); (have n1 : ¬ x = pb := (by rintro rfl; dsimp only at hpb; rw [h1] at hpb; cases hpb)); (have n2 : ¬ y = pb := (by rintro rfl; dsimp only at hpb; rw [h2] at hpb; cases hpb)); (dsimp only at hpb); (simp [go_sem]))
    | refine AW_region (id := 1) Γe17_ok [] (by kernel_rfl) ?_; simp  [-List.getD_eq_getElem?_getD, -List.drop_one, ↓splitB_true, ↓splitB_false, go_sem, h1, n1, Ne.symm n1, hp, hp2, hpl, (show p.toNat < lo.length + j1.length by omega), (show p.toNat + 1 ≤ lo.length + j1.length by omega)]
    | refine AW_region (id := 2) Γe17_ok [] (by kernel_rfl) ?_; simp  [-List.getD_eq_getElem?_getD, -List.drop_one, ↓splitB_true, ↓splitB_false, go_sem]
    | ((have hv0 : 0 ≤ v := (by simpa using c15)); (have hvt : v.toNat < va.length := (by omega)); have hW := hE2 hv0); refine AW_region_draw (id := 3) Γe17_ok mixed [] [5, 3] (by kernel_rfl) (by kernel_rfl) (by simp [-List.getD_eq_getElem?_getD, -List.drop_one, ↓splitB_true, ↓splitB_false, go_sem, h2, n1, n2, Ne.symm n1, Ne.symm n2, hne, Ne.symm hne, hv0, (show v < (va.length : Int) by omega), hvt, hW, hv, (show v.toNat < va.length + j2.length by omega), (show v.toNat + 1 ≤ va.length + j2.length by omega), cat_take_app1]) ?_; simp  [-List.getD_eq_getElem?_getD, -List.drop_one, ↓splitB_true, ↓splitB_false, go_sem, h2, n1, n2, Ne.symm n1, Ne.symm n2, hne, Ne.symm hne, hv0, (show v < (va.length : Int) by omega), hvt, hW, hv, (show v.toNat < va.length + j2.length by omega), (show v.toNat + 1 ≤ va.length + j2.length by omega), cat_take_app1]; try (intro c3; have hz := l1Eval_ok ek ev es va hW hv c3; (generalize l1Eval_sel ek ev es va c3 = z3 at *); (simp only [l1Eval_good] at hz))
    | refine AW_region (id := 4) Γe17_ok [] (by kernel_rfl) ?_; simp  [-List.getD_eq_getElem?_getD, -List.drop_one, ↓splitB_true, ↓splitB_false, go_sem, n1, n2, Ne.symm n1, Ne.symm n2, hne, Ne.symm hne]
    | refine AW_condA (c := .tmp 15) ?_; simp [-List.getD_eq_getElem?_getD, -List.drop_one, ↓splitB_true, ↓splitB_false, go_sem]; try first | (refine ⟨?_, ?_⟩ <;> change AW _ _ _ _ _ _) | (refine ⟨fun c15 => ?_, fun c15 => ?_⟩ <;> (try simp [B_iff, B_not] at c15))
    | (refine AW_block ?_)
    | (refine AW_exit ?_; simp [-List.getD_eq_getElem?_getD, -List.drop_one, ↓splitB_true, ↓splitB_false, go_sem])
    | (refine AW_skip ?_; simp [-List.getD_eq_getElem?_getD, -List.drop_one, ↓splitB_true, ↓splitB_false, go_sem])
    | (refine AW_ret ?_; simp [-List.getD_eq_getElem?_getD, -List.drop_one, ↓splitB_true, ↓splitB_false, go_sem, Try.results149])
    | (intro hx; change AW _ _ _ _ _ _)
    | (refine ⟨?_, ?_⟩ <;> change AW _ _ _ _ _ _)
    | (intro hx; refine ⟨fun hs => ?_, fun hs => ?_⟩)
    | (refine ⟨fun hs => ?_, fun hs => ?_⟩)
    | (refine ⟨?_, fun hs => ?_⟩; change AW _ _ _ _ _ _)
    | (refine ⟨fun hs => ?_, ?_⟩; rotate_left; change AW _ _ _ _ _ _; rotate_left)
    | (refine AW_ret ?_)))
  all_goals (first
    | (refine ret_own (good := ValsOk) (x0 := va) (K := fun q => upd (upd H x (some (cat cI (lo.set p.toNat to) ++ j1))) y (some (cat cI q ++ j2))) (va.set v.toNat z3) ?_ ?_ ?_ ?_; (first | exact Or.inl rfl | exact Or.inr rfl); (focus (simp [-List.getD_eq_getElem?_getD, -List.drop_one, go_sem, Try.results149]; done)); (focus (intro z cs hz; simp only [go_sem, Try.results149, Try.f149] at hz ⊢; (by_cases e1 : z = y <;> by_cases e2 : z = x <;> by_cases e3 : z = pb <;> simp_all [upd]); done)); (exact hv.set hz.1 hz.2))
    | (refine ret_own (good := ValsOk) (x0 := va) (K := fun q => upd (upd H x (some (cat cI (lo.set p.toNat to) ++ j1))) y (some (cat cI q ++ j2))) va ?_ ?_ ?_ ?_; (first | exact Or.inl rfl | exact Or.inr rfl); (focus (simp [-List.getD_eq_getElem?_getD, -List.drop_one, go_sem, Try.results149]; done)); (focus (intro z cs hz; simp only [go_sem, Try.results149, Try.f149] at hz ⊢; (by_cases e1 : z = y <;> by_cases e2 : z = x <;> by_cases e3 : z = pb <;> simp_all [upd]); done)); (exact hv))
    | skip)
end Go.Proofs.Ytljncoikoffijaa.Vm

