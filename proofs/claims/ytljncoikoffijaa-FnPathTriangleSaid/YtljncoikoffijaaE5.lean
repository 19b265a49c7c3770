/-
  Systems: valid; their states. No conditions.
-/
import Derived.Test.YtljncoikoffijaaE4
import Derived.Test.YtljncoikoffijaaTr
namespace Go.Proofs.Ytljncoikoffijaa.Vm
open Go
set_option linter.unusedVariables false
set_option linter.unusedSimpArgs false
set_option maxRecDepth 200000

instance : Flat cT := ⟨fun _ => rfl⟩
theorem l2None_pure (k : Int) (v : Int) (ks : List Tree)  : Pure Try.prog 174 [.st [.int .i64 k, .int .i64 v, li cX ks]] (.bool (decide (k = 0) && decide (v = 0) && decide (ks.length = 0))) := by
  refine Pure.of_walk Try.func174 rfl (by simp [Try.f174]) (by simp [-List.drop_one, go_sem]) fun B hK => ?_
  (repeat' (first
    | refine AW_seq ?_
    | refine AW_region (id := 0) Γe9_ok [] (by kernel_rfl) ?_; simp  [-List.getD_eq_getElem?_getD, -List.drop_one, ↓splitB_true, ↓splitB_false, go_sem]; try (refine AW_data hK 1 ?_; simp [go_sem])
    | refine AW_region (id := 1) Γe9_ok [6, 11] (by kernel_rfl) ?_; simp  [-List.getD_eq_getElem?_getD, -List.drop_one, ↓splitB_true, ↓splitB_false, go_sem]; try (refine ⟨fun s1a => ?_, fun s1a => ?_⟩ <;> (try simp [B_iff, B_not] at s1a) <;> try (refine ⟨fun s1b => ?_, fun s1b => ?_⟩ <;> (try simp [B_iff, B_not] at s1b) <;> try (refine ⟨fun s1c => ?_, fun s1c => ?_⟩ <;> (try simp [B_iff, B_not] at s1c))))
    | (refine AW_block ?_)
    | (refine AW_exit ?_; simp [-List.getD_eq_getElem?_getD, -List.drop_one, ↓splitB_true, ↓splitB_false, go_sem])
    | (refine AW_skip ?_; simp [-List.getD_eq_getElem?_getD, -List.drop_one, ↓splitB_true, ↓splitB_false, go_sem])
    | (refine AW_ret ?_; simp [-List.getD_eq_getElem?_getD, -List.drop_one, ↓splitB_true, ↓splitB_false, go_sem, Try.results174])
    | (intro hx; change AW _ _ _ _ _ _)
    | (refine ⟨?_, ?_⟩ <;> change AW _ _ _ _ _ _)
    | (intro hx; refine ⟨fun hs => ?_, fun hs => ?_⟩)
    | (refine ⟨fun hs => ?_, fun hs => ?_⟩)
    | (refine ⟨?_, fun hs => ?_⟩; change AW _ _ _ _ _ _)
    | (refine ⟨fun hs => ?_, ?_⟩; rotate_left; change AW _ _ _ _ _ _; rotate_left)))
  all_goals (first
    | (simp_all; done)
    | (intros; simp_all; done)
    | skip)
noncomputable def l2None_pureC : Con := .pure fun
  | [.st [.int .i64 k, .int .i64 v, .list n_ks c_ks]] => ((Is cX n_ks c_ks), .bool (decide (k = 0) && decide (v = 0) && decide ((de cX c_ks).length = 0)))
  | _ => (False, .any)
attribute [go_sem] l2None_pureC
theorem l2None_pureC_ok : ConOk Try.prog 174 l2None_pureC := by
  refine ⟨callable Try.func174 (by decide) rfl, fun args h => ?_⟩
  revert h
  dsimp only
  split
  · intro h
    obtain ⟨ks, rfl, rfl⟩ := h
    try simp only [de_cat] at *
    exact ⟨l2None_pure _ _ ks, by simp [go_sem]⟩
  · intro h
    exact h.elim
noncomputable def Γe10 : FuncId → Con := ext Γe9 174 l2None_pureC
attribute [go_sem] Γe10
theorem Γe10_ok : ∀ g, ConOk Try.prog g (Γe10 g) := ext_ok Γe9_ok l2None_pureC_ok

/-- A valid edge of a process with so many locations. -/
def EdF (fr to : Int) (g : Tree) (v : Int) (e : Tree) (sy loc : Int) : Prop :=
  0 ≤ fr ∧ fr < loc ∧ 0 ≤ to ∧ to < loc ∧ loc ≤ 4 ∧ ExprOk g ∧ -2 ≤ sy ∧ sy ≤ 2 ∧ -1 ≤ v ∧ v ≤ 2 ∧ (0 ≤ v → ExprOk e)
def EdOk (x : Ed) (loc : Int) : Prop := EdF x.fr x.to x.g x.v x.e x.sy loc
noncomputable def EdgeValid_enc : Bool → D := fun x => .bool x
attribute [go_sem] EdgeValid_enc
def EdgeValid_good (fr : Int) (to : Int) (gk : Int) (gv : Int) (gs : List Tree) (v : Int) (ek : Int) (ev : Int) (es : List Tree) (sy : Int) (loc : Int) : Bool → Prop := fun x => x = true → EdF fr to (.mk gk gv gs) v (.mk ek ev es) sy loc
noncomputable def EdgeValid_sel (fr : Int) (to : Int) (gk : Int) (gv : Int) (gs : List Tree) (v : Int) (ek : Int) (ev : Int) (es : List Tree) (sy : Int) (loc : Int) (c : Any) : Bool := sel (EdgeValid_good fr to gk gv gs v ek ev es sy loc) (false) c
theorem EdgeValid_ok (fr : Int) (to : Int) (gk : Int) (gv : Int) (gs : List Tree) (v : Int) (ek : Int) (ev : Int) (es : List Tree) (sy : Int) (loc : Int)  (c : Any) : EdgeValid_good fr to gk gv gs v ek ev es sy loc (EdgeValid_sel fr to gk gv gs v ek ev es sy loc c) := sel_ok (p := EdgeValid_good fr to gk gv gs v ek ev es sy loc) (x0 := false) (by simp [EdgeValid_good]) c
theorem EdgeValid_ret (fr : Int) (to : Int) (gk : Int) (gv : Int) (gs : List Tree) (v : Int) (ek : Int) (ev : Int) (es : List Tree) (sy : Int) (loc : Int) {e_ : Exit} {S_ : St} (x : Bool) (he_ : e_ = .ret ∨ e_ = .normal)
    (h1 : (takeRes Try.prog S_ Try.f169.results.toList).1 ∧ resD (takeRes Try.prog S_ Try.f169.results.toList).2.1 = EdgeValid_enc x) (hg : EdgeValid_good fr to gk gv gs v ek ev es sy loc x) :
    retR Try.prog Try.f169 (fun c => (EdgeValid_enc (EdgeValid_sel fr to gk gv gs v ek ev es sy loc c), fun _ => none)) e_ S_ := ret_prel (enc := EdgeValid_enc) x he_ h1 hg
theorem EdgeValid_retE (fr : Int) (to : Int) (gk : Int) (gv : Int) (gs : List Tree) (v : Int) (ek : Int) (ev : Int) (es : List Tree) (sy : Int) (loc : Int) {e_ : Exit} {S_ : St} (he_ : e_ = .ret ∨ e_ = .normal)
    (h : ∃ x, (takeRes Try.prog S_ Try.f169.results.toList).1 ∧ resD (takeRes Try.prog S_ Try.f169.results.toList).2.1 = EdgeValid_enc x ∧ EdgeValid_good fr to gk gv gs v ek ev es sy loc x) :
    retR Try.prog Try.f169 (fun c => (EdgeValid_enc (EdgeValid_sel fr to gk gv gs v ek ev es sy loc c), fun _ => none)) e_ S_ := by
  obtain ⟨x, h1, h2, h3⟩ := h
  exact EdgeValid_ret _ _ _ _ _ _ _ _ _ _ _ x he_ ⟨h1, h2⟩ h3
set_option maxHeartbeats 1000000 in
theorem EdgeValid_pure (fr : Int) (to : Int) (gk : Int) (gv : Int) (gs : List Tree) (v : Int) (ek : Int) (ev : Int) (es : List Tree) (sy : Int) (loc : Int)  : PureR Try.prog 169 [.st [.int .i64 fr, .int .i64 to, .int .i64 gk, .int .i64 gv, li cX gs, .int .i64 v, .int .i64 ek, .int .i64 ev, li cX es, .int .i64 sy], .int .i64 loc] (fun c => EdgeValid_enc (EdgeValid_sel fr to gk gv gs v ek ev es sy loc c)) := by
  refine PureR.of_walk Try.func169 rfl (by simp [Try.f169]) (fun c => by simp [-List.drop_one, go_sem]) fun B hK => ?_
  (repeat' (first
    | refine AW_seq ?_
    | refine AW_region (id := 0) Γe10_ok [] (by kernel_rfl) ?_; simp  [-List.getD_eq_getElem?_getD, -List.drop_one, ↓splitB_true, ↓splitB_false, go_sem]; try (refine AW_data hK 2 ?_; simp [go_sem])
    | refine AW_region (id := 1) Γe10_ok [8, 14, 19, 25, 29] (by kernel_rfl) ?_; simp  [-List.getD_eq_getElem?_getD, -List.drop_one, ↓splitB_true, ↓splitB_false, go_sem]; try (refine ⟨fun s1a => ?_, fun s1a => ?_⟩ <;> (try simp [B_iff, B_not] at s1a) <;> try (refine ⟨fun s1b => ?_, fun s1b => ?_⟩ <;> (try simp [B_iff, B_not] at s1b) <;> try (refine ⟨fun s1c => ?_, fun s1c => ?_⟩ <;> (try simp [B_iff, B_not] at s1c) <;> try (refine ⟨fun s1d => ?_, fun s1d => ?_⟩ <;> (try simp [B_iff, B_not] at s1d) <;> try (refine ⟨fun s1e => ?_, fun s1e => ?_⟩ <;> (try simp [B_iff, B_not] at s1e) <;> try (refine ⟨fun s1f => ?_, fun s1f => ?_⟩ <;> (try simp [B_iff, B_not] at s1f)))))))
    | refine AW_region (id := 2) Γe10_ok [] (by kernel_rfl) ?_; simp  [-List.getD_eq_getElem?_getD, -List.drop_one, ↓splitB_true, ↓splitB_false, go_sem]
    | refine AW_region (id := 3) Γe10_ok [38, 43, 48] (by kernel_rfl) ?_; simp  [-List.getD_eq_getElem?_getD, -List.drop_one, ↓splitB_true, ↓splitB_false, go_sem]; try (refine ⟨fun s3a => ?_, fun s3a => ?_⟩ <;> (try simp [B_iff, B_not] at s3a) <;> try (refine ⟨fun s3b => ?_, fun s3b => ?_⟩ <;> (try simp [B_iff, B_not] at s3b) <;> try (refine ⟨fun s3c => ?_, fun s3c => ?_⟩ <;> (try simp [B_iff, B_not] at s3c) <;> try (refine ⟨fun s3d => ?_, fun s3d => ?_⟩ <;> (try simp [B_iff, B_not] at s3d)))))
    | refine AW_region (id := 4) Γe10_ok [] (by kernel_rfl) ?_; simp  [-List.getD_eq_getElem?_getD, -List.drop_one, ↓splitB_true, ↓splitB_false, go_sem]
    | refine AW_region (id := 5) Γe10_ok [56, 61, 65] (by kernel_rfl) ?_; simp  [-List.getD_eq_getElem?_getD, -List.drop_one, ↓splitB_true, ↓splitB_false, go_sem]; try (refine ⟨fun s5a => ?_, fun s5a => ?_⟩ <;> (try simp [B_iff, B_not] at s5a) <;> try (refine ⟨fun s5b => ?_, fun s5b => ?_⟩ <;> (try simp [B_iff, B_not] at s5b) <;> try (refine ⟨fun s5c => ?_, fun s5c => ?_⟩ <;> (try simp [B_iff, B_not] at s5c) <;> try (refine ⟨fun s5d => ?_, fun s5d => ?_⟩ <;> (try simp [B_iff, B_not] at s5d)))))
    | refine AW_condA (c := .tmp 34) ?_; simp [-List.getD_eq_getElem?_getD, -List.drop_one, ↓splitB_true, ↓splitB_false, go_sem]; try first | (refine ⟨?_, ?_⟩ <;> change AW _ _ _ _ _ _) | (refine ⟨fun c34 => ?_, fun c34 => ?_⟩ <;> (try simp [B_iff, B_not] at c34))
    | refine AW_condA (c := .tmp 52) ?_; simp [-List.getD_eq_getElem?_getD, -List.drop_one, ↓splitB_true, ↓splitB_false, go_sem]; try first | (refine ⟨?_, ?_⟩ <;> change AW _ _ _ _ _ _) | (refine ⟨fun c52 => ?_, fun c52 => ?_⟩ <;> (try simp [B_iff, B_not] at c52))
    | (refine AW_block ?_)
    | (refine AW_exit ?_; simp [-List.getD_eq_getElem?_getD, -List.drop_one, ↓splitB_true, ↓splitB_false, go_sem])
    | (refine AW_skip ?_; simp [-List.getD_eq_getElem?_getD, -List.drop_one, ↓splitB_true, ↓splitB_false, go_sem])
    | (refine AW_ret ?_; try simp [-List.getD_eq_getElem?_getD, -List.drop_one, ↓splitB_true, ↓splitB_false, go_sem, Try.results169])
    | (intro hx; change AW _ _ _ _ _ _)
    | (intro hx; change retR _ _ _ _ _)
    | (refine ⟨?_, ?_⟩ <;> change AW _ _ _ _ _ _)
    | (intro hx; refine ⟨fun hs => ?_, fun hs => ?_⟩)
    | (refine ⟨fun hs => ?_, fun hs => ?_⟩)
    | (refine ⟨?_, fun hs => ?_⟩; change AW _ _ _ _ _ _)
    | (refine ⟨fun hs => ?_, ?_⟩; rotate_left; change AW _ _ _ _ _ _; rotate_left)))
  all_goals (first
    | (refine EdgeValid_retE _ _ _ _ _ _ _ _ _ _ _ ?_ ?_; (first | exact Or.inl rfl | exact Or.inr rfl); (simp [-List.getD_eq_getElem?_getD, -List.drop_one, ↓splitB_true, ↓splitB_false, go_sem, Try.results169, EdgeValid_good]); ((((try intro hh); refine ⟨by omega, by omega, by omega, by omega, by omega, c34, by omega, by omega, by omega, by omega, ?_⟩; first | (intro; omega) | (intro; assumption) | (intro; simp_all; done) | (intro; exact hh.2))); done))
    | (refine EdgeValid_retE _ _ _ _ _ _ _ _ _ _ _ ?_ ?_; (first | exact Or.inl rfl | exact Or.inr rfl); (simp [-List.getD_eq_getElem?_getD, -List.drop_one, ↓splitB_true, ↓splitB_false, go_sem, Try.results169, EdgeValid_good]; done))
    | skip)
noncomputable def EdgeValidC : Con := .prel fun
  | [.st [.int .i64 fr, .int .i64 to, .int .i64 gk, .int .i64 gv, .list n_gs c_gs, .int .i64 v, .int .i64 ek, .int .i64 ev, .list n_es c_es, .int .i64 sy], .int .i64 loc] => ((Is cX n_gs c_gs) ∧ (Is cX n_es c_es), fun c => EdgeValid_enc (EdgeValid_sel fr to gk gv (de cX c_gs) v ek ev (de cX c_es) sy loc c))
  | _ => (False, fun _ => .any)
attribute [go_sem] EdgeValidC
theorem EdgeValidC_ok : ConOk Try.prog 169 EdgeValidC := by
  refine ⟨callable Try.func169 (by decide) rfl, fun args h => ?_⟩
  revert h
  dsimp only
  split
  · intro h
    obtain ⟨⟨gs, rfl, rfl⟩, ⟨es, rfl, rfl⟩⟩ := h
    try simp only [de_cat] at *
    exact ⟨EdgeValid_pure _ _ _ _ gs _ _ _ es _ _ , fun c => by simp [go_sem]⟩
  · intro h
    exact h.elim
noncomputable def Γe11 : FuncId → Con := ext Γe10 169 EdgeValidC
attribute [go_sem] Γe11
theorem Γe11_ok : ∀ g, ConOk Try.prog g (Γe11 g) := ext_ok Γe10_ok EdgeValidC_ok

/-- A valid process. -/
def PrF (loc : Int) (es : List Ed) : Prop := 1 ≤ loc ∧ loc ≤ 4 ∧ es.length ≤ 6 ∧ ∀ i, i < es.length → EdOk (nth es i) loc
noncomputable def l2Process_enc : Bool → D := fun x => .bool x
attribute [go_sem] l2Process_enc
def l2Process_good (loc : Int) (es : List Ed) : Bool → Prop := fun x => x = true → PrF loc es
noncomputable def l2Process_sel (loc : Int) (es : List Ed) (c : Any) : Bool := sel (l2Process_good loc es) (false) c
theorem l2Process_ok (loc : Int) (es : List Ed)  (c : Any) : l2Process_good loc es (l2Process_sel loc es c) := sel_ok (p := l2Process_good loc es) (x0 := false) (by simp [l2Process_good]) c
theorem l2Process_ret (loc : Int) (es : List Ed) {e_ : Exit} {S_ : St} (x : Bool) (he_ : e_ = .ret ∨ e_ = .normal)
    (h1 : (takeRes Try.prog S_ Try.f161.results.toList).1 ∧ resD (takeRes Try.prog S_ Try.f161.results.toList).2.1 = l2Process_enc x) (hg : l2Process_good loc es x) :
    retR Try.prog Try.f161 (fun c => (l2Process_enc (l2Process_sel loc es c), fun _ => none)) e_ S_ := ret_prel (enc := l2Process_enc) x he_ h1 hg
theorem l2Process_retE (loc : Int) (es : List Ed) {e_ : Exit} {S_ : St} (he_ : e_ = .ret ∨ e_ = .normal)
    (h : ∃ x, (takeRes Try.prog S_ Try.f161.results.toList).1 ∧ resD (takeRes Try.prog S_ Try.f161.results.toList).2.1 = l2Process_enc x ∧ l2Process_good loc es x) :
    retR Try.prog Try.f161 (fun c => (l2Process_enc (l2Process_sel loc es c), fun _ => none)) e_ S_ := by
  obtain ⟨x, h1, h2, h3⟩ := h
  exact l2Process_ret _ _ x he_ ⟨h1, h2⟩ h3
theorem l2Process_pure (loc : Int) (es : List Ed)  : PureR Try.prog 161 [.st [.int .i64 loc, li cE es]] (fun c => l2Process_enc (l2Process_sel loc es c)) := by
  refine PureR.of_walk Try.func161 rfl (by simp [Try.f161]) (fun c => by simp [-List.drop_one, go_sem]) fun B hK => ?_
  (repeat' (first
    | refine AW_seq ?_
    | refine AW_region (id := 0) Γe11_ok [] (by kernel_rfl) ?_; simp  [-List.getD_eq_getElem?_getD, -List.drop_one, ↓splitB_true, ↓splitB_false, go_sem]; try (refine AW_data hK 1 ?_; simp [go_sem])
    | (refine AW_lenP 1 1 ⟨rfl, rfl⟩ fun hm => ?_); refine AW_region (id := 1) Γe11_ok [] (by kernel_rfl) ?_; simp  [-List.getD_eq_getElem?_getD, -List.drop_one, ↓splitB_true, ↓splitB_false, go_sem]
    | refine AW_region (id := 2) Γe11_ok [] (by kernel_rfl) ?_; simp  [-List.getD_eq_getElem?_getD, -List.drop_one, ↓splitB_true, ↓splitB_false, go_sem]
    | refine AW_region_draw (id := 4) Γe11_ok mixed [] [1] (by kernel_rfl) (by kernel_rfl) (by simp [-List.getD_eq_getElem?_getD, -List.drop_one, ↓splitB_true, ↓splitB_false, go_sem, c8, ne_nil c8, Nat.sub_pos_of_lt c8]) ?_; simp  [-List.getD_eq_getElem?_getD, -List.drop_one, ↓splitB_true, ↓splitB_false, go_sem, c8, ne_nil c8, Nat.sub_pos_of_lt c8]; try ((generalize hx : nth es i = x at *); intro c4; have h4 := EdgeValid_ok x.fr x.to x.g.k x.g.v x.g.ks x.v x.e.k x.e.v x.e.ks x.sy loc c4; (generalize EdgeValid_sel x.fr x.to x.g.k x.g.v x.g.ks x.v x.e.k x.e.v x.e.ks x.sy loc c4 = z4 at *); (subst hx); (simp only [EdgeValid_good] at h4))
    | refine AW_region (id := 5) Γe11_ok [] (by kernel_rfl) ?_; simp  [-List.getD_eq_getElem?_getD, -List.drop_one, ↓splitB_true, ↓splitB_false, go_sem]
    | refine AW_region (id := 3) Γe11_ok [] (by kernel_rfl) ?_; simp  [-List.getD_eq_getElem?_getD, -List.drop_one, ↓splitB_true, ↓splitB_false, go_sem, wrapS (k := i) (by omega)]
    | refine AW_region (id := 6) Γe11_ok [23, 28] (by kernel_rfl) ?_; simp  [-List.getD_eq_getElem?_getD, -List.drop_one, ↓splitB_true, ↓splitB_false, go_sem]; try (refine ⟨fun s6a => ?_, fun s6a => ?_⟩ <;> (try simp [B_iff, B_not] at s6a) <;> try (refine ⟨fun s6b => ?_, fun s6b => ?_⟩ <;> (try simp [B_iff, B_not] at s6b) <;> try (refine ⟨fun s6c => ?_, fun s6c => ?_⟩ <;> (try simp [B_iff, B_not] at s6c))))
    | refine AW_condA (c := .tmp 8) ?_; simp [-List.getD_eq_getElem?_getD, -List.drop_one, ↓splitB_true, ↓splitB_false, go_sem]; try first | (refine ⟨?_, ?_⟩ <;> change AW _ _ _ _ _ _) | (refine ⟨fun c8 => ?_, fun c8 => ?_⟩ <;> (try simp [B_iff, B_not] at c8))
    | refine AW_condA (c := .tmp 19) ?_; simp [-List.getD_eq_getElem?_getD, -List.drop_one, ↓splitB_true, ↓splitB_false, go_sem]; try first | (refine ⟨?_, ?_⟩ <;> change AW _ _ _ _ _ _) | (refine ⟨fun c19 => ?_, fun c19 => ?_⟩ <;> (try simp [B_iff, B_not] at c19))
    | (refine AW_block (id := 0) (AW_loop (ι := Nat) (fun i : Nat => ⟨(upd (upd (fun _ => .any) 1 (.pd [.int .i64 loc, li cE es])) 3 (.int .i64 i)), fun _ => none⟩) (fun i => i ≤ es.length ∧ AllTill (fun i => EdOk (nth es i) loc) i) (fun i => es.length - i) (0) ?_ ?_ ?_); exact ⟨Nat.zero_le _, .zero _⟩; ((repeat' (first | exact sub_noneH (by assumption) | exact sub_none | refine sub_upd ?_ ?_ | refine sub_noneE ?_)) <;> simp [-List.getD_eq_getElem?_getD, -List.drop_one, ↓splitB_true, ↓splitB_false, go_sem]); rintro i ⟨hi, hu⟩)
    | (refine ⟨i + 1, ⟨by omega, hu.succ (by rw [Tree.eta, Tree.eta] at h4; exact h4 (by assumption))⟩, by first | omega | (simp; done) | (simp; omega), ?_⟩; ((repeat' (first | exact sub_noneH (by assumption) | exact sub_none | refine sub_upd ?_ ?_ | refine sub_noneE ?_)) <;> simp [-List.getD_eq_getElem?_getD, -List.drop_one, ↓splitB_true, ↓splitB_false, go_sem]))
    | (refine AW_block ?_)
    | (refine AW_exit ?_; simp [-List.getD_eq_getElem?_getD, -List.drop_one, ↓splitB_true, ↓splitB_false, go_sem])
    | (refine AW_skip ?_; simp [-List.getD_eq_getElem?_getD, -List.drop_one, ↓splitB_true, ↓splitB_false, go_sem])
    | (refine AW_ret ?_; try simp [-List.getD_eq_getElem?_getD, -List.drop_one, ↓splitB_true, ↓splitB_false, go_sem, Try.results161])
    | (intro hx; change AW _ _ _ _ _ _)
    | (intro hx; change retR _ _ _ _ _)
    | (refine ⟨?_, ?_⟩ <;> change AW _ _ _ _ _ _)
    | (intro hx; refine ⟨fun hs => ?_, fun hs => ?_⟩)
    | (refine ⟨fun hs => ?_, fun hs => ?_⟩)
    | (refine ⟨?_, fun hs => ?_⟩; change AW _ _ _ _ _ _)
    | (refine ⟨fun hs => ?_, ?_⟩; rotate_left; change AW _ _ _ _ _ _; rotate_left)))
  all_goals (first
    | (refine l2Process_retE _ _ ?_ ?_; (first | exact Or.inl rfl | exact Or.inr rfl); (simp [-List.getD_eq_getElem?_getD, -List.drop_one, ↓splitB_true, ↓splitB_false, go_sem, Try.results161, l2Process_good]); (((intros; refine ⟨by omega, by omega, by omega, fun j hj => hu j (by omega)⟩)); done))
    | (refine l2Process_retE _ _ ?_ ?_; (first | exact Or.inl rfl | exact Or.inr rfl); (simp [-List.getD_eq_getElem?_getD, -List.drop_one, ↓splitB_true, ↓splitB_false, go_sem, Try.results161, l2Process_good]; done))
    | skip)
noncomputable def l2ProcessC : Con := .prel fun
  | [.st [.int .i64 loc, .list n_es c_es]] => ((Is cE n_es c_es), fun c => l2Process_enc (l2Process_sel loc (de cE c_es) c))
  | _ => (False, fun _ => .any)
attribute [go_sem] l2ProcessC
theorem l2ProcessC_ok : ConOk Try.prog 161 l2ProcessC := by
  refine ⟨callable Try.func161 (by decide) rfl, fun args h => ?_⟩
  revert h
  dsimp only
  split
  · intro h
    obtain ⟨es, rfl, rfl⟩ := h
    try simp only [de_cat] at *
    exact ⟨l2Process_pure _ es , fun c => by simp [go_sem]⟩
  · intro h
    exact h.elim
noncomputable def Γe12 : FuncId → Con := ext Γe11 161 l2ProcessC
attribute [go_sem] Γe12
theorem Γe12_ok : ∀ g, ConOk Try.prog g (Γe12 g) := ext_ok Γe11_ok l2ProcessC_ok

/-- A valid system. -/
def SysOk (init : List Int) (ps : List Pr) : Prop := ValsOk init ∧ 1 ≤ ps.length ∧ ps.length ≤ 3 ∧ ∀ i, i < ps.length → PrF (nth ps i).loc (nth ps i).es
noncomputable def SystemValid_enc : Bool → D := fun x => .bool x
attribute [go_sem] SystemValid_enc
def SystemValid_good (init : List Int) (ps : List Pr) : Bool → Prop := fun x => x = true → SysOk init ps
noncomputable def SystemValid_sel (init : List Int) (ps : List Pr) (c : Any) : Bool := sel (SystemValid_good init ps) (false) c
theorem SystemValid_ok (init : List Int) (ps : List Pr)  (c : Any) : SystemValid_good init ps (SystemValid_sel init ps c) := sel_ok (p := SystemValid_good init ps) (x0 := false) (by simp [SystemValid_good]) c
theorem SystemValid_ret (init : List Int) (ps : List Pr) {e_ : Exit} {S_ : St} (x : Bool) (he_ : e_ = .ret ∨ e_ = .normal)
    (h1 : (takeRes Try.prog S_ Try.f146.results.toList).1 ∧ resD (takeRes Try.prog S_ Try.f146.results.toList).2.1 = SystemValid_enc x) (hg : SystemValid_good init ps x) :
    retR Try.prog Try.f146 (fun c => (SystemValid_enc (SystemValid_sel init ps c), fun _ => none)) e_ S_ := ret_prel (enc := SystemValid_enc) x he_ h1 hg
theorem SystemValid_retE (init : List Int) (ps : List Pr) {e_ : Exit} {S_ : St} (he_ : e_ = .ret ∨ e_ = .normal)
    (h : ∃ x, (takeRes Try.prog S_ Try.f146.results.toList).1 ∧ resD (takeRes Try.prog S_ Try.f146.results.toList).2.1 = SystemValid_enc x ∧ SystemValid_good init ps x) :
    retR Try.prog Try.f146 (fun c => (SystemValid_enc (SystemValid_sel init ps c), fun _ => none)) e_ S_ := by
  obtain ⟨x, h1, h2, h3⟩ := h
  exact SystemValid_ret _ _ x he_ ⟨h1, h2⟩ h3
theorem SystemValid_pure (init : List Int) (ps : List Pr)  : PureR Try.prog 146 [.st [li cI init, li cR ps]] (fun c => SystemValid_enc (SystemValid_sel init ps c)) := by
  refine PureR.of_walk Try.func146 rfl (by simp [Try.f146]) (fun c => by simp [-List.drop_one, go_sem]) fun B hK => ?_
  (repeat' (first
    | refine AW_seq ?_
    | refine AW_region (id := 0) Γe12_ok [] (by kernel_rfl) ?_; simp  [-List.getD_eq_getElem?_getD, -List.drop_one, ↓splitB_true, ↓splitB_false, go_sem]; try (refine AW_data hK 1 ?_; simp [go_sem])
    | (refine AW_lenP 1 1 ⟨rfl, rfl⟩ fun hm => ?_); refine AW_region (id := 1) Γe12_ok [] (by kernel_rfl) ?_; simp  [-List.getD_eq_getElem?_getD, -List.drop_one, ↓splitB_true, ↓splitB_false, go_sem]
    | refine AW_region (id := 2) Γe12_ok [] (by kernel_rfl) ?_; simp  [-List.getD_eq_getElem?_getD, -List.drop_one, ↓splitB_true, ↓splitB_false, go_sem]
    | refine AW_region (id := 4) Γe12_ok [] (by kernel_rfl) ?_; simp  [-List.getD_eq_getElem?_getD, -List.drop_one, ↓splitB_true, ↓splitB_false, go_sem, c8, ne_nil c8, Nat.sub_pos_of_lt c8]; try (intro c4; have h4 := l2Process_ok (nth ps i).loc (nth ps i).es c4; (generalize l2Process_sel (nth ps i).loc (nth ps i).es c4 = z4 at *); (simp only [l2Process_good] at h4))
    | refine AW_region (id := 5) Γe12_ok [] (by kernel_rfl) ?_; simp  [-List.getD_eq_getElem?_getD, -List.drop_one, ↓splitB_true, ↓splitB_false, go_sem]
    | refine AW_region (id := 3) Γe12_ok [] (by kernel_rfl) ?_; simp  [-List.getD_eq_getElem?_getD, -List.drop_one, ↓splitB_true, ↓splitB_false, go_sem, wrapS (k := i) (by omega)]
    | refine AW_region (id := 6) Γe12_ok [21, 27] (by kernel_rfl) ?_; simp  [-List.getD_eq_getElem?_getD, -List.drop_one, ↓splitB_true, ↓splitB_false, go_sem]; try (refine ⟨fun s6a => ?_, fun s6a => ?_⟩ <;> (try simp [B_iff, B_not] at s6a) <;> try (refine ⟨fun s6b => ?_, fun s6b => ?_⟩ <;> (try simp [B_iff, B_not] at s6b) <;> try (refine ⟨fun s6c => ?_, fun s6c => ?_⟩ <;> (try simp [B_iff, B_not] at s6c))))
    | refine AW_condA (c := .tmp 8) ?_; simp [-List.getD_eq_getElem?_getD, -List.drop_one, ↓splitB_true, ↓splitB_false, go_sem]; try first | (refine ⟨?_, ?_⟩ <;> change AW _ _ _ _ _ _) | (refine ⟨fun c8 => ?_, fun c8 => ?_⟩ <;> (try simp [B_iff, B_not] at c8))
    | refine AW_condA (c := .tmp 17) ?_; simp [-List.getD_eq_getElem?_getD, -List.drop_one, ↓splitB_true, ↓splitB_false, go_sem]; try first | (refine ⟨?_, ?_⟩ <;> change AW _ _ _ _ _ _) | (refine ⟨fun c17 => ?_, fun c17 => ?_⟩ <;> (try simp [B_iff, B_not] at c17))
    | (refine AW_block (id := 0) (AW_loop (ι := Nat) (fun i : Nat => ⟨(upd (upd (fun _ => .any) 1 (.pd [li cI init, li cR ps])) 3 (.int .i64 i)), fun _ => none⟩) (fun i => i ≤ ps.length ∧ AllTill (fun i => PrF (nth ps i).loc (nth ps i).es) i) (fun i => ps.length - i) (0) ?_ ?_ ?_); exact ⟨Nat.zero_le _, .zero _⟩; ((repeat' (first | exact sub_noneH (by assumption) | exact sub_none | refine sub_upd ?_ ?_ | refine sub_noneE ?_)) <;> simp [-List.getD_eq_getElem?_getD, -List.drop_one, ↓splitB_true, ↓splitB_false, go_sem]); rintro i ⟨hi, hu⟩)
    | (refine ⟨i + 1, ⟨by omega, hu.succ (h4 (by assumption))⟩, by first | omega | (simp; done) | (simp; omega), ?_⟩; ((repeat' (first | exact sub_noneH (by assumption) | exact sub_none | refine sub_upd ?_ ?_ | refine sub_noneE ?_)) <;> simp [-List.getD_eq_getElem?_getD, -List.drop_one, ↓splitB_true, ↓splitB_false, go_sem]))
    | (refine AW_block ?_)
    | (refine AW_exit ?_; simp [-List.getD_eq_getElem?_getD, -List.drop_one, ↓splitB_true, ↓splitB_false, go_sem])
    | (refine AW_skip ?_; simp [-List.getD_eq_getElem?_getD, -List.drop_one, ↓splitB_true, ↓splitB_false, go_sem])
    | (refine AW_ret ?_; try simp [-List.getD_eq_getElem?_getD, -List.drop_one, ↓splitB_true, ↓splitB_false, go_sem, Try.results146])
    | (intro hx; change AW _ _ _ _ _ _)
    | (intro hx; change retR _ _ _ _ _)
    | (refine ⟨?_, ?_⟩ <;> change AW _ _ _ _ _ _)
    | (intro hx; refine ⟨fun hs => ?_, fun hs => ?_⟩)
    | (refine ⟨fun hs => ?_, fun hs => ?_⟩)
    | (refine ⟨?_, fun hs => ?_⟩; change AW _ _ _ _ _ _)
    | (refine ⟨fun hs => ?_, ?_⟩; rotate_left; change AW _ _ _ _ _ _; rotate_left)))
  all_goals (first
    | (refine SystemValid_retE _ _ ?_ ?_; (first | exact Or.inl rfl | exact Or.inr rfl); (simp [-List.getD_eq_getElem?_getD, -List.drop_one, ↓splitB_true, ↓splitB_false, go_sem, Try.results146, SystemValid_good]); (((intros; refine ⟨by assumption, by omega, by omega, fun j hj => hu j (by omega)⟩)); done))
    | (refine SystemValid_retE _ _ ?_ ?_; (first | exact Or.inl rfl | exact Or.inr rfl); (simp [-List.getD_eq_getElem?_getD, -List.drop_one, ↓splitB_true, ↓splitB_false, go_sem, Try.results146, SystemValid_good]; done))
    | skip)
noncomputable def SystemValidC : Con := .prel fun
  | [.st [.list n_init c_init, .list n_ps c_ps]] => ((Is cI n_init c_init) ∧ (Is cR n_ps c_ps), fun c => SystemValid_enc (SystemValid_sel (de cI c_init) (de cR c_ps) c))
  | _ => (False, fun _ => .any)
attribute [go_sem] SystemValidC
theorem SystemValidC_ok : ConOk Try.prog 146 SystemValidC := by
  refine ⟨callable Try.func146 (by decide) rfl, fun args h => ?_⟩
  revert h
  dsimp only
  split
  · intro h
    obtain ⟨⟨init, rfl, rfl⟩, ⟨ps, rfl, rfl⟩⟩ := h
    try simp only [de_cat] at *
    exact ⟨SystemValid_pure init ps , fun c => by simp [go_sem]⟩
  · intro h
    exact h.elim
noncomputable def Γe13 : FuncId → Con := ext Γe12 146 SystemValidC
attribute [go_sem] Γe13
theorem Γe13_ok : ∀ g, ConOk Try.prog g (Γe13 g) := ext_ok Γe12_ok SystemValidC_ok
end Go.Proofs.Ytljncoikoffijaa.Vm

