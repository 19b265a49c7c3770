/-
  Systems: first states, steps. No conditions.
-/
import Derived.Test.YtljncoikoffijaaE5
namespace Go.Proofs.Ytljncoikoffijaa.Vm
open Go
set_option linter.unusedVariables false
set_option linter.unusedSimpArgs false
set_option maxRecDepth 200000

/-- A state of a system. -/
def StF (ps : List Pr) (lo va : List Int) : Prop := lo.length = ps.length ∧ ValsOk va
abbrev StB := (List Int × List Int) × Bool
noncomputable def InitialState_enc : StB → D := fun x => .tup [.st [fr 1 cI x.1.1, fr 1 cI x.1.2], .bool x.2]
attribute [go_sem] InitialState_enc
def InitialState_good (init : List Int) (ps : List Pr) : StB → Prop := fun x => (x.2 = true → SysOk init ps ∧ StF ps x.1.1 x.1.2) ∧ (x.2 = false → x.1 = ([], []))
noncomputable def InitialState_sel (init : List Int) (ps : List Pr) (c : Any) : StB := sel (InitialState_good init ps) ((([], []), false)) c
theorem InitialState_ok (init : List Int) (ps : List Pr)  (c : Any) : InitialState_good init ps (InitialState_sel init ps c) := sel_ok (p := InitialState_good init ps) (x0 := (([], []), false)) (by simp [InitialState_good]) c
theorem InitialState_ret (init : List Int) (ps : List Pr) {e_ : Exit} {S_ : St} (x : StB) (he_ : e_ = .ret ∨ e_ = .normal)
    (h1 : (takeRes Try.prog S_ Try.f121.results.toList).1 ∧ resD (takeRes Try.prog S_ Try.f121.results.toList).2.1 = InitialState_enc x) (hg : InitialState_good init ps x) :
    retR Try.prog Try.f121 (fun c => (InitialState_enc (InitialState_sel init ps c), fun _ => none)) e_ S_ := ret_prel (enc := InitialState_enc) x he_ h1 hg
theorem InitialState_retE (init : List Int) (ps : List Pr) {e_ : Exit} {S_ : St} (he_ : e_ = .ret ∨ e_ = .normal)
    (h : ∃ x, (takeRes Try.prog S_ Try.f121.results.toList).1 ∧ resD (takeRes Try.prog S_ Try.f121.results.toList).2.1 = InitialState_enc x ∧ InitialState_good init ps x) :
    retR Try.prog Try.f121 (fun c => (InitialState_enc (InitialState_sel init ps c), fun _ => none)) e_ S_ := by
  obtain ⟨x, h1, h2, h3⟩ := h
  exact InitialState_ret _ _ x he_ ⟨h1, h2⟩ h3
theorem InitialState_pure (init : List Int) (ps : List Pr)  : PureR Try.prog 121 [.st [li cI init, li cR ps]] (fun c => InitialState_enc (InitialState_sel init ps c)) := by
  refine PureR.of_walk Try.func121 rfl (by simp [Try.f121]) (fun c => by simp [-List.drop_one, go_sem]) fun B hK => ?_
  (repeat' (first
    | refine AW_seq ?_
    | refine AW_region (id := 0) Γe13_ok [] (by kernel_rfl) ?_; simp  [-List.getD_eq_getElem?_getD, -List.drop_one, ↓splitB_true, ↓splitB_false, go_sem]; try (refine AW_data hK 1 ?_; simp [go_sem])
    | refine AW_region (id := 1) Γe13_ok [] (by kernel_rfl) ?_; simp  [-List.getD_eq_getElem?_getD, -List.drop_one, ↓splitB_true, ↓splitB_false, go_sem]; try (intro c1; have h1 := SystemValid_ok init ps c1; (generalize SystemValid_sel init ps c1 = z1 at *); (simp only [SystemValid_good] at h1))
    | refine AW_region (id := 2) Γe13_ok [] (by kernel_rfl) ?_; simp  [-List.getD_eq_getElem?_getD, -List.drop_one, ↓splitB_true, ↓splitB_false, go_sem]; try ((refine AW_boxNil0 2 rfl ?_); (refine AW_boxNil1 2 rfl ?_))
    | (have hS := h1 (by simpa using c6); have hp3 := hS.2.2.1; have hvl := hS.1.1); refine AW_region_draw (id := 3) Γe13_ok mixed [] [1] (by kernel_rfl) (by kernel_rfl) (by simp [-List.getD_eq_getElem?_getD, -List.drop_one, ↓splitB_true, ↓splitB_false, go_sem, make_cI, (show 8 * (ps.length : Int) ≤ 281474976710656 by omega), (show (ps.length : Int) ≤ 9223372036854775807 by omega), (show init.length ≤ 9223372036854775807 by omega), (show 2 * init.length * 8 ≤ 281474976710656 by omega)]) ?_; simp  [-List.getD_eq_getElem?_getD, -List.drop_one, ↓splitB_true, ↓splitB_false, go_sem, make_cI, (show 8 * (ps.length : Int) ≤ 281474976710656 by omega), (show (ps.length : Int) ≤ 9223372036854775807 by omega), (show init.length ≤ 9223372036854775807 by omega), (show 2 * init.length * 8 ≤ 281474976710656 by omega)]
    | refine AW_condA (c := .tmp 6) ?_; simp [-List.getD_eq_getElem?_getD, -List.drop_one, ↓splitB_true, ↓splitB_false, go_sem]; try first | (refine ⟨?_, ?_⟩ <;> change AW _ _ _ _ _ _) | (refine ⟨fun c6 => ?_, fun c6 => ?_⟩ <;> (try simp [B_iff, B_not] at c6))
    | (refine AW_block ?_)
    | (refine AW_exit ?_; simp [-List.getD_eq_getElem?_getD, -List.drop_one, ↓splitB_true, ↓splitB_false, go_sem])
    | (refine AW_skip ?_; simp [-List.getD_eq_getElem?_getD, -List.drop_one, ↓splitB_true, ↓splitB_false, go_sem])
    | (refine AW_ret ?_; try simp [-List.getD_eq_getElem?_getD, -List.drop_one, ↓splitB_true, ↓splitB_false, go_sem, Try.results121])
    | (intro hx; change AW _ _ _ _ _ _)
    | (intro hx; change retR _ _ _ _ _)
    | (refine ⟨?_, ?_⟩ <;> change AW _ _ _ _ _ _)
    | (intro hx; refine ⟨fun hs => ?_, fun hs => ?_⟩)
    | (refine ⟨fun hs => ?_, fun hs => ?_⟩)
    | (refine ⟨?_, fun hs => ?_⟩; change AW _ _ _ _ _ _)
    | (refine ⟨fun hs => ?_, ?_⟩; rotate_left; change AW _ _ _ _ _ _; rotate_left)))
  all_goals (first
    | (refine InitialState_ret _ _ (((([], []), false) : StB)) ?_ ?_ ?_; (first | exact Or.inl rfl | exact Or.inr rfl); (focus (simp [-List.getD_eq_getElem?_getD, -List.drop_one, ↓splitB_true, ↓splitB_false, go_sem, Try.results121]; done)); (focus ((simp [InitialState_good]); done)))
    | (refine InitialState_ret _ _ ((((List.replicate ps.length 0, init), true) : StB)) ?_ ?_ ?_; (first | exact Or.inl rfl | exact Or.inr rfl); (focus (simp [-List.getD_eq_getElem?_getD, -List.drop_one, ↓splitB_true, ↓splitB_false, go_sem, Try.results121, make_cI]; done)); (focus ((exact ⟨fun _ => ⟨hS, by simp, hS.1⟩, fun h => by cases h⟩); done)))
    | skip)
noncomputable def InitialStateC : Con := .prel fun
  | [.st [.list n_init c_init, .list n_ps c_ps]] => ((Is cI n_init c_init) ∧ (Is cR n_ps c_ps), fun c => InitialState_enc (InitialState_sel (de cI c_init) (de cR c_ps) c))
  | _ => (False, fun _ => .any)
attribute [go_sem] InitialStateC
theorem InitialStateC_ok : ConOk Try.prog 121 InitialStateC := by
  refine ⟨callable Try.func121 (by decide) rfl, fun args h => ?_⟩
  revert h
  dsimp only
  split
  · intro h
    obtain ⟨⟨init, rfl, rfl⟩, ⟨ps, rfl, rfl⟩⟩ := h
    try simp only [de_cat] at *
    exact ⟨InitialState_pure init ps , fun c => by simp [go_sem]⟩
  · intro h
    exact h.elim
noncomputable def Γe14 : FuncId → Con := ext Γe13 121 InitialStateC
attribute [go_sem] Γe14
theorem Γe14_ok : ∀ g, ConOk Try.prog g (Γe14 g) := ext_ok Γe13_ok InitialStateC_ok

/-- An edge that is there. -/
def EdgeAt (ps : List Pr) (p e : Int) : Prop := 0 ≤ p ∧ p < ps.length ∧ 0 ≤ e ∧ e < (nth ps p.toNat).es.length
theorem SysOk.edge {init : List Int} {ps : List Pr} (h : SysOk init ps) {p e : Int} (k : EdgeAt ps p e) : EdOk (nth (nth ps p.toNat).es e.toNat) (nth ps p.toNat).loc := by
  obtain ⟨k1, k2, k3, k4⟩ := k
  exact (h.2.2.2 p.toNat (by omega)).2.2.2 e.toNat (by omega)
theorem ExprOk.well {t : Tree} (h : ExprOk t) : Well t := ⟨6, h.1⟩
noncomputable def l3Ready_enc : Bool → D := fun x => .bool x
attribute [go_sem] l3Ready_enc
def l3Ready_good (init : List Int) (ps : List Pr) (lo : List Int) (va : List Int) (p : Int) (e : Int) : Bool → Prop := fun _ => True
noncomputable def l3Ready_sel (init : List Int) (ps : List Pr) (lo : List Int) (va : List Int) (p : Int) (e : Int) (c : Any) : Bool := sel (l3Ready_good init ps lo va p e) (false) c
theorem l3Ready_ok (init : List Int) (ps : List Pr) (lo : List Int) (va : List Int) (p : Int) (e : Int) (hS : SysOk init ps) (hT : StF ps lo va) (hE : EdgeAt ps p e) (c : Any) : l3Ready_good init ps lo va p e (l3Ready_sel init ps lo va p e c) := sel_ok (p := l3Ready_good init ps lo va p e) (x0 := false) (by simp [l3Ready_good]) c
theorem l3Ready_ret (init : List Int) (ps : List Pr) (lo : List Int) (va : List Int) (p : Int) (e : Int) {e_ : Exit} {S_ : St} (x : Bool) (he_ : e_ = .ret ∨ e_ = .normal)
    (h1 : (takeRes Try.prog S_ Try.f147.results.toList).1 ∧ resD (takeRes Try.prog S_ Try.f147.results.toList).2.1 = l3Ready_enc x) (hg : l3Ready_good init ps lo va p e x) :
    retR Try.prog Try.f147 (fun c => (l3Ready_enc (l3Ready_sel init ps lo va p e c), fun _ => none)) e_ S_ := ret_prel (enc := l3Ready_enc) x he_ h1 hg
theorem l3Ready_retE (init : List Int) (ps : List Pr) (lo : List Int) (va : List Int) (p : Int) (e : Int) {e_ : Exit} {S_ : St} (he_ : e_ = .ret ∨ e_ = .normal)
    (h : ∃ x, (takeRes Try.prog S_ Try.f147.results.toList).1 ∧ resD (takeRes Try.prog S_ Try.f147.results.toList).2.1 = l3Ready_enc x ∧ l3Ready_good init ps lo va p e x) :
    retR Try.prog Try.f147 (fun c => (l3Ready_enc (l3Ready_sel init ps lo va p e c), fun _ => none)) e_ S_ := by
  obtain ⟨x, h1, h2, h3⟩ := h
  exact l3Ready_ret _ _ _ _ _ _ x he_ ⟨h1, h2⟩ h3
theorem l3Ready_pure (init : List Int) (ps : List Pr) (lo : List Int) (va : List Int) (p : Int) (e : Int) (hS : SysOk init ps) (hT : StF ps lo va) (hE : EdgeAt ps p e) : PureR Try.prog 147 [.st [li cI init, li cR ps], .st [li cI lo, li cI va], .int .i64 p, .int .i64 e] (fun c => l3Ready_enc (l3Ready_sel init ps lo va p e c)) := by
  refine PureR.of_walk Try.func147 rfl (by simp [Try.f147]) (fun c => by simp [-List.drop_one, go_sem]) fun B hK => ?_
  obtain ⟨k1, k2, k3, k4⟩ := hE; have hO := hS.edge ⟨k1, k2, k3, k4⟩; have hW := hO.2.2.2.2.2.1.well; obtain ⟨t1, t2⟩ := hT; have kp : p.toNat < ps.length := (by omega); have ke : e.toNat < (nth ps p.toNat).es.length := (by omega)
  all_goals (repeat' (first
    | refine AW_seq ?_
    | refine AW_region (id := 0) Γe14_ok [] (by kernel_rfl) ?_; simp  [-List.getD_eq_getElem?_getD, -List.drop_one, ↓splitB_true, ↓splitB_false, go_sem]; try (refine AW_data hK 4 ?_; refine AW_data hK 5 ?_; simp [go_sem])
    | refine AW_region (id := 1) Γe14_ok [] (by kernel_rfl) ?_; simp  [-List.getD_eq_getElem?_getD, -List.drop_one, ↓splitB_true, ↓splitB_false, go_sem, k1, k2, k3, k4, kp, ne_nil kp, Nat.sub_pos_of_lt kp, ke, ne_nil ke, Nat.sub_pos_of_lt ke]; try ((generalize hx : nth (nth ps p.toNat).es e.toNat = x at *); (refine AW_data hK 9 ?_); (simp [go_sem]))
    | refine AW_region_draw (id := 2) Γe14_ok mixed [27] [] (by kernel_rfl) (by kernel_rfl) (by simp [-List.getD_eq_getElem?_getD, -List.drop_one, ↓splitB_true, ↓splitB_false, go_sem, k1, (show p < (lo.length : Int) by omega), (show p.toNat < lo.length by omega), ne_nil (show p.toNat < lo.length by omega), Nat.sub_pos_of_lt (show p.toNat < lo.length by omega), Tree.eta, hW, t2]) ?_; simp  [-List.getD_eq_getElem?_getD, -List.drop_one, ↓splitB_true, ↓splitB_false, go_sem, k1, (show p < (lo.length : Int) by omega), (show p.toNat < lo.length by omega), ne_nil (show p.toNat < lo.length by omega), Nat.sub_pos_of_lt (show p.toNat < lo.length by omega), Tree.eta, hW, t2]; try (refine ⟨fun s2a => ?_, fun s2a => ?_⟩ <;> (try simp [B_iff, B_not] at s2a) <;> try (refine ⟨fun s2b => ?_, fun s2b => ?_⟩ <;> (try simp [B_iff, B_not] at s2b)))
    | (refine AW_block ?_)
    | (refine AW_exit ?_; simp [-List.getD_eq_getElem?_getD, -List.drop_one, ↓splitB_true, ↓splitB_false, go_sem])
    | (refine AW_skip ?_; simp [-List.getD_eq_getElem?_getD, -List.drop_one, ↓splitB_true, ↓splitB_false, go_sem])
    | (refine AW_ret ?_; try simp [-List.getD_eq_getElem?_getD, -List.drop_one, ↓splitB_true, ↓splitB_false, go_sem, Try.results147])
    | (intro hx; change AW _ _ _ _ _ _)
    | (intro hx; change retR _ _ _ _ _)
    | (refine ⟨?_, ?_⟩ <;> change AW _ _ _ _ _ _)
    | (intro hx; refine ⟨fun hs => ?_, fun hs => ?_⟩)
    | (refine ⟨fun hs => ?_, fun hs => ?_⟩)
    | (refine ⟨?_, fun hs => ?_⟩; change AW _ _ _ _ _ _)
    | (refine ⟨fun hs => ?_, ?_⟩; rotate_left; change AW _ _ _ _ _ _; rotate_left)))
  all_goals (first
    | (refine l3Ready_retE _ _ _ _ _ _ ?_ ?_; (first | exact Or.inl rfl | exact Or.inr rfl); (simp [-List.getD_eq_getElem?_getD, -List.drop_one, ↓splitB_true, ↓splitB_false, go_sem, Try.results147, l3Ready_good]); ((first | trivial | exact Classical.em _ | exact (Classical.em _).symm); done))
    | (refine l3Ready_retE _ _ _ _ _ _ ?_ ?_; (first | exact Or.inl rfl | exact Or.inr rfl); (simp [-List.getD_eq_getElem?_getD, -List.drop_one, ↓splitB_true, ↓splitB_false, go_sem, Try.results147, l3Ready_good]; done))
    | skip)
noncomputable def l3ReadyC : Con := .prel fun
  | [.st [.list n_init c_init, .list n_ps c_ps], .st [.list n_lo c_lo, .list n_va c_va], .int .i64 p, .int .i64 e] => ((Is cI n_init c_init) ∧ (Is cR n_ps c_ps) ∧ (Is cI n_lo c_lo) ∧ (Is cI n_va c_va) ∧ (SysOk (de cI c_init) (de cR c_ps)) ∧ (StF (de cR c_ps) (de cI c_lo) (de cI c_va)) ∧ (EdgeAt (de cR c_ps) p e), fun c => l3Ready_enc (l3Ready_sel (de cI c_init) (de cR c_ps) (de cI c_lo) (de cI c_va) p e c))
  | _ => (False, fun _ => .any)
attribute [go_sem] l3ReadyC
theorem l3ReadyC_ok : ConOk Try.prog 147 l3ReadyC := by
  refine ⟨callable Try.func147 (by decide) rfl, fun args h => ?_⟩
  revert h
  dsimp only
  split
  · intro h
    obtain ⟨⟨init, rfl, rfl⟩, ⟨ps, rfl, rfl⟩, ⟨lo, rfl, rfl⟩, ⟨va, rfl, rfl⟩, hS, hT, hE⟩ := h
    try simp only [de_cat] at *
    exact ⟨l3Ready_pure init ps lo va _ _ hS hT hE, fun c => by simp [go_sem]⟩
  · intro h
    exact h.elim
noncomputable def Γe15 : FuncId → Con := ext Γe14 147 l3ReadyC
attribute [go_sem] Γe15
theorem Γe15_ok : ∀ g, ConOk Try.prog g (Γe15 g) := ext_ok Γe14_ok l3ReadyC_ok

/-- A step that may be taken. -/
def StepF (ps : List Pr) (t : Tr4) : Prop := EdgeAt ps t.1 t.2.1 ∧ (0 ≤ t.2.2.1 → EdgeAt ps t.2.2.1 t.2.2.2)
def StepsF (ps : List Pr) (m : Nat) (xs : List Tr4) : Prop := xs.length ≤ m ∧ ∀ x ∈ xs, StepF ps x
theorem StepsF.snoc {ps : List Pr} {m n : Nat} {xs : List Tr4} {x : Tr4} (h : StepsF ps m xs) (k : StepF ps x) (hn : m + 1 ≤ n) : StepsF ps n (xs ++ [x]) := by
  refine ⟨by have := h.1; simp; omega, fun y hy => ?_⟩
  rcases List.mem_append.1 hy with q | q
  · exact h.2 y q
  · simp at q; subst q; exact k
theorem StepsF.app {ps : List Pr} {m m' n : Nat} {xs ys : List Tr4} (h : StepsF ps m xs) (k : StepsF ps m' ys) (hn : m + m' ≤ n) : StepsF ps n (xs ++ ys) := by
  refine ⟨by have := h.1; have := k.1; simp; omega, fun y hy => ?_⟩
  rcases List.mem_append.1 hy with q | q
  · exact h.2 y q
  · exact k.2 y q
theorem StepsF.mono {ps : List Pr} {m n : Nat} {xs : List Tr4} (h : StepsF ps m xs) (hn : m ≤ n) : StepsF ps n xs := ⟨Nat.le_trans h.1 hn, h.2⟩
theorem snoc_cT (xs : List Tr4) (a b c d : Int) : cat cT xs ++ [.int .i64 a, .int .i64 b, .int .i64 c, .int .i64 d] = cat cT (xs ++ [(a, b, c, d)]) := by rw [cat_append, cat_one]; rfl
theorem EdgeAt.mk' {ps : List Pr} {i k : Nat} (h : i < ps.length) (h2 : k < (nth ps i).es.length) : EdgeAt ps i k := ⟨by omega, by omega, by omega, by rw [Int.toNat_natCast]; omega⟩
set_option maxHeartbeats 1000000 in
noncomputable def l3Partners_enc : List Tr4 → D := fun x => fr 4 cT x
attribute [go_sem] l3Partners_enc
def l3Partners_good (init : List Int) (ps : List Pr) (lo : List Int) (va : List Int) (p : Int) (e : Int) : List Tr4 → Prop := fun xs => StepsF ps 18 xs
noncomputable def l3Partners_sel (init : List Int) (ps : List Pr) (lo : List Int) (va : List Int) (p : Int) (e : Int) (c : Any) : List Tr4 := sel (l3Partners_good init ps lo va p e) ([]) c
theorem l3Partners_ok (init : List Int) (ps : List Pr) (lo : List Int) (va : List Int) (p : Int) (e : Int) (hS : SysOk init ps) (hT : StF ps lo va) (hE : EdgeAt ps p e) (c : Any) : l3Partners_good init ps lo va p e (l3Partners_sel init ps lo va p e c) := sel_ok (p := l3Partners_good init ps lo va p e) (x0 := []) (by simp [l3Partners_good, StepsF]) c
theorem l3Partners_ret (init : List Int) (ps : List Pr) (lo : List Int) (va : List Int) (p : Int) (e : Int) {e_ : Exit} {S_ : St} (x : List Tr4) (he_ : e_ = .ret ∨ e_ = .normal)
    (h1 : (takeRes Try.prog S_ Try.f148.results.toList).1 ∧ resD (takeRes Try.prog S_ Try.f148.results.toList).2.1 = l3Partners_enc x) (hg : l3Partners_good init ps lo va p e x) :
    retR Try.prog Try.f148 (fun c => (l3Partners_enc (l3Partners_sel init ps lo va p e c), fun _ => none)) e_ S_ := ret_prel (enc := l3Partners_enc) x he_ h1 hg
theorem l3Partners_retE (init : List Int) (ps : List Pr) (lo : List Int) (va : List Int) (p : Int) (e : Int) {e_ : Exit} {S_ : St} (he_ : e_ = .ret ∨ e_ = .normal)
    (h : ∃ x, (takeRes Try.prog S_ Try.f148.results.toList).1 ∧ resD (takeRes Try.prog S_ Try.f148.results.toList).2.1 = l3Partners_enc x ∧ l3Partners_good init ps lo va p e x) :
    retR Try.prog Try.f148 (fun c => (l3Partners_enc (l3Partners_sel init ps lo va p e c), fun _ => none)) e_ S_ := by
  obtain ⟨x, h1, h2, h3⟩ := h
  exact l3Partners_ret _ _ _ _ _ _ x he_ ⟨h1, h2⟩ h3
theorem l3Partners_pure (init : List Int) (ps : List Pr) (lo : List Int) (va : List Int) (p : Int) (e : Int) (hS : SysOk init ps) (hT : StF ps lo va) (hE : EdgeAt ps p e) : PureR Try.prog 148 [.st [li cI init, li cR ps], .st [li cI lo, li cI va], .int .i64 p, .int .i64 e] (fun c => l3Partners_enc (l3Partners_sel init ps lo va p e c)) := by
  refine PureR.of_walk Try.func148 rfl (by simp [Try.f148]) (fun c => by simp [-List.drop_one, go_sem]) fun B hK => ?_
  obtain ⟨k1, k2, k3, k4⟩ := hE; have kp : p.toNat < ps.length := (by omega); have ke : e.toNat < (nth ps p.toNat).es.length := (by omega); have hp3 := hS.2.2.1; have he6 : ∀ i, i < ps.length → (nth ps i).es.length ≤ 6 := (fun i hi => (hS.2.2.2 i hi).2.2.1)
  all_goals (repeat' (first
    | refine AW_seq ?_
    | refine AW_region (id := 0) Γe15_ok [] (by kernel_rfl) ?_; simp  [-List.getD_eq_getElem?_getD, -List.drop_one, ↓splitB_true, ↓splitB_false, go_sem]; try (refine AW_data hK 4 ?_; refine AW_data hK 5 ?_; simp [go_sem])
    | refine AW_region (id := 1) Γe15_ok [] (by kernel_rfl) ?_; simp  [-List.getD_eq_getElem?_getD, -List.drop_one, ↓splitB_true, ↓splitB_false, go_sem]
    | refine AW_region (id := 2) Γe15_ok [] (by kernel_rfl) ?_; simp  [-List.getD_eq_getElem?_getD, -List.drop_one, ↓splitB_true, ↓splitB_false, go_sem, k1, k2, k3, k4, kp, ne_nil kp, Nat.sub_pos_of_lt kp, ke, ne_nil ke, Nat.sub_pos_of_lt ke]; try ((generalize (nth (nth ps p.toNat).es e.toNat).sy = chn))
    | refine AW_region (id := 3) Γe15_ok [] (by kernel_rfl) ?_; simp  [-List.getD_eq_getElem?_getD, -List.drop_one, ↓splitB_true, ↓splitB_false, go_sem]
    | refine AW_region (id := 4) Γe15_ok [] (by kernel_rfl) ?_; simp  [-List.getD_eq_getElem?_getD, -List.drop_one, ↓splitB_true, ↓splitB_false, go_sem]
    | refine AW_region (id := 6) Γe15_ok [] (by kernel_rfl) ?_; simp  [-List.getD_eq_getElem?_getD, -List.drop_one, ↓splitB_true, ↓splitB_false, go_sem]
    | refine AW_region (id := 7) Γe15_ok [] (by kernel_rfl) ?_; simp  [-List.getD_eq_getElem?_getD, -List.drop_one, ↓splitB_true, ↓splitB_false, go_sem, c28, ne_nil c28, Nat.sub_pos_of_lt c28]
    | (have hEA := EdgeAt.mk' c28 c39); refine AW_region (id := 9) Γe15_ok [45, 60] (by kernel_rfl) ?_; simp  [-List.getD_eq_getElem?_getD, -List.drop_one, ↓splitB_true, ↓splitB_false, go_sem, c28, ne_nil c28, Nat.sub_pos_of_lt c28, c39, ne_nil c39, Nat.sub_pos_of_lt c39, hS, hT, hEA]; try (refine ⟨fun s9a => ?_, fun s9a => ?_⟩ <;> (try simp [B_iff, B_not] at s9a) <;> try (refine ⟨fun s9b => ?_, fun s9b => ?_⟩ <;> (try simp [B_iff, B_not] at s9b) <;> try (refine ⟨fun s9c => ?_, fun s9c => ?_⟩ <;> (try simp [B_iff, B_not] at s9c))))
    | refine AW_region (id := 10) Γe15_ok [] (by kernel_rfl) ?_; simp  [-List.getD_eq_getElem?_getD, -List.drop_one, ↓splitB_true, ↓splitB_false, go_sem, (show r.2.length + 1 ≤ 9223372036854775807 by omega), (show 2 * (r.2.length + 1) * 32 ≤ 281474976710656 by omega), snoc_cT]
    | refine AW_region (id := 8) Γe15_ok [] (by kernel_rfl) ?_; simp  [-List.getD_eq_getElem?_getD, -List.drop_one, ↓splitB_true, ↓splitB_false, go_sem, wrapS (k := r.1) (by omega)]
    | refine AW_region (id := 5) Γe15_ok [] (by kernel_rfl) ?_; simp  [-List.getD_eq_getElem?_getD, -List.drop_one, ↓splitB_true, ↓splitB_false, go_sem, wrapS (k := q.1) (by omega)]
    | refine AW_region (id := 11) Γe15_ok [] (by kernel_rfl) ?_; simp  [-List.getD_eq_getElem?_getD, -List.drop_one, ↓splitB_true, ↓splitB_false, go_sem]
    | refine AW_condA (c := .tmp 28) ?_; simp [-List.getD_eq_getElem?_getD, -List.drop_one, ↓splitB_true, ↓splitB_false, go_sem]; try first | (refine ⟨?_, ?_⟩ <;> change AW _ _ _ _ _ _) | (refine ⟨fun c28 => ?_, fun c28 => ?_⟩ <;> (try simp [B_iff, B_not] at c28))
    | refine AW_condA (c := .tmp 39) ?_; simp [-List.getD_eq_getElem?_getD, -List.drop_one, ↓splitB_true, ↓splitB_false, go_sem]; try first | (refine ⟨?_, ?_⟩ <;> change AW _ _ _ _ _ _) | (refine ⟨fun c39 => ?_, fun c39 => ?_⟩ <;> (try simp [B_iff, B_not] at c39))
    | refine AW_condA (c := .tmp 66) ?_; simp [-List.getD_eq_getElem?_getD, -List.drop_one, ↓splitB_true, ↓splitB_false, go_sem]; try first | (refine ⟨?_, ?_⟩ <;> change AW _ _ _ _ _ _) | (refine ⟨fun c66 => ?_, fun c66 => ?_⟩ <;> (try simp [B_iff, B_not] at c66))
    | (refine AW_block (id := 0) (AW_loop (ι := Nat × List Tr4) (fun q : Nat × List Tr4 => ⟨(upd (upd (upd (upd (upd (upd (upd (fun _ => .any) 2 (.int .i64 p)) 3 (.int .i64 e)) 4 (.pd [li cI init, li cR ps])) 5 (.pd [li cI lo, li cI va])) 9 (.fr 4 q.2.length (cat cT q.2))) 10 (.int .i64 chn)) 11 (.int .i64 q.1)), fun _ => none⟩) (fun q => q.1 ≤ ps.length ∧ StepsF ps (6 * q.1) q.2) (fun q => ps.length - q.1) ((0, [])) ?_ ?_ ?_); exact ⟨Nat.zero_le _, by simp [StepsF]⟩; ((repeat' (first | exact sub_noneH (by assumption) | exact sub_none | refine sub_upd ?_ ?_ | refine sub_noneE ?_)) <;> simp [-List.getD_eq_getElem?_getD, -List.drop_one, ↓splitB_true, ↓splitB_false, go_sem, cat]); rintro q ⟨g1, g2⟩)
    | (refine ⟨(q.1 + 1, r.2), ⟨by dsimp only; omega, r2.mono (by dsimp only; omega)⟩, by first | omega | (simp; done) | (simp; omega), ?_⟩; ((repeat' (first | exact sub_noneH (by assumption) | exact sub_none | refine sub_upd ?_ ?_ | refine sub_noneE ?_)) <;> simp [-List.getD_eq_getElem?_getD, -List.drop_one, ↓splitB_true, ↓splitB_false, go_sem, cat]); done)
    | (refine AW_block (id := 2) (AW_loop (ι := Nat × List Tr4) (fun r : Nat × List Tr4 => ⟨(upd (upd (upd (upd (upd (upd (upd (upd (fun _ => .any) 2 (.int .i64 p)) 3 (.int .i64 e)) 4 (.pd [li cI init, li cR ps])) 5 (.pd [li cI lo, li cI va])) 9 (.fr 4 r.2.length (cat cT r.2))) 10 (.int .i64 chn)) 11 (.int .i64 q.1)) 12 (.int .i64 r.1)), fun _ => none⟩) (fun r => r.1 ≤ (nth ps q.1).es.length ∧ StepsF ps (6 * q.1 + r.1) r.2) (fun r => (nth ps q.1).es.length - r.1) ((0, q.2)) ?_ ?_ ?_); exact ⟨Nat.zero_le _, g2⟩; ((repeat' (first | exact sub_noneH (by assumption) | exact sub_none | refine sub_upd ?_ ?_ | refine sub_noneE ?_)) <;> simp [-List.getD_eq_getElem?_getD, -List.drop_one, ↓splitB_true, ↓splitB_false, go_sem, cat]); rintro r ⟨r1, r2⟩; have r3 := he6 q.1 c28; have r4 := r2.1)
    | (refine ⟨(r.1 + 1, r.2 ++ [((p, e, (q.1 : Int), (r.1 : Int)) : Tr4)]), ⟨by dsimp only; omega, r2.snoc ⟨⟨k1, k2, k3, k4⟩, fun _ => EdgeAt.mk' c28 c39⟩ (by dsimp only; omega)⟩, by first | omega | (simp; done) | (simp; omega), ?_⟩; ((repeat' (first | exact sub_noneH (by assumption) | exact sub_none | refine sub_upd ?_ ?_ | refine sub_noneE ?_)) <;> simp [-List.getD_eq_getElem?_getD, -List.drop_one, ↓splitB_true, ↓splitB_false, go_sem, snoc_cT]); done)
    | (refine AW_block ?_)
    | (refine AW_exit ?_; simp [-List.getD_eq_getElem?_getD, -List.drop_one, ↓splitB_true, ↓splitB_false, go_sem])
    | (refine AW_skip ?_; simp [-List.getD_eq_getElem?_getD, -List.drop_one, ↓splitB_true, ↓splitB_false, go_sem])
    | (refine AW_ret ?_; try simp [-List.getD_eq_getElem?_getD, -List.drop_one, ↓splitB_true, ↓splitB_false, go_sem, Try.results148])
    | (intro hx; change AW _ _ _ _ _ _)
    | (intro hx; change retR _ _ _ _ _)
    | (refine ⟨?_, ?_⟩ <;> change AW _ _ _ _ _ _)
    | (intro hx; refine ⟨fun hs => ?_, fun hs => ?_⟩)
    | (refine ⟨fun hs => ?_, fun hs => ?_⟩)
    | (refine ⟨?_, fun hs => ?_⟩; change AW _ _ _ _ _ _)
    | (refine ⟨fun hs => ?_, ?_⟩; rotate_left; change AW _ _ _ _ _ _; rotate_left)
    | ((fail_if_success change retR _ _ _ _ _); (refine ⟨(r.1 + 1, r.2), ⟨by dsimp only; omega, r2.mono (by dsimp only; omega)⟩, by dsimp only; omega, ?_⟩; ((repeat' (first | exact sub_noneH (by assumption) | exact sub_none | refine sub_upd ?_ ?_ | refine sub_noneE ?_)) <;> simp [-List.getD_eq_getElem?_getD, -List.drop_one, go_sem])))))
  all_goals (first
    | (refine l3Partners_ret _ _ _ _ _ _ ((q.2)) ?_ ?_ ?_; (first | exact Or.inl rfl | exact Or.inr rfl); (focus (simp [-List.getD_eq_getElem?_getD, -List.drop_one, ↓splitB_true, ↓splitB_false, go_sem, Try.results148]; done)); (focus ((exact g2.mono (by omega)); done)))
    | skip)
noncomputable def l3PartnersC : Con := .prel fun
  | [.st [.list n_init c_init, .list n_ps c_ps], .st [.list n_lo c_lo, .list n_va c_va], .int .i64 p, .int .i64 e] => ((Is cI n_init c_init) ∧ (Is cR n_ps c_ps) ∧ (Is cI n_lo c_lo) ∧ (Is cI n_va c_va) ∧ (SysOk (de cI c_init) (de cR c_ps)) ∧ (StF (de cR c_ps) (de cI c_lo) (de cI c_va)) ∧ (EdgeAt (de cR c_ps) p e), fun c => l3Partners_enc (l3Partners_sel (de cI c_init) (de cR c_ps) (de cI c_lo) (de cI c_va) p e c))
  | _ => (False, fun _ => .any)
attribute [go_sem] l3PartnersC
theorem l3PartnersC_ok : ConOk Try.prog 148 l3PartnersC := by
  refine ⟨callable Try.func148 (by decide) rfl, fun args h => ?_⟩
  revert h
  dsimp only
  split
  · intro h
    obtain ⟨⟨init, rfl, rfl⟩, ⟨ps, rfl, rfl⟩, ⟨lo, rfl, rfl⟩, ⟨va, rfl, rfl⟩, hS, hT, hE⟩ := h
    try simp only [de_cat] at *
    exact ⟨l3Partners_pure init ps lo va _ _ hS hT hE, fun c => by simp [go_sem]⟩
  · intro h
    exact h.elim
noncomputable def Γe16 : FuncId → Con := ext Γe15 148 l3PartnersC
attribute [go_sem] Γe16
theorem Γe16_ok : ∀ g, ConOk Try.prog g (Γe16 g) := ext_ok Γe15_ok l3PartnersC_ok
end Go.Proofs.Ytljncoikoffijaa.Vm

