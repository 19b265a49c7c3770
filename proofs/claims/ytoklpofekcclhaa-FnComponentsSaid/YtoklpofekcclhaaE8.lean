import Derived.Test.YtoklpofekcclhaaE4
import Derived.Test.YtoklpofekcclhaaTr
/-
  Systems: valid; their states. No conditions.
-/
namespace Go.Proofs.Ytoklpofekcclhaa.Vm
open Go
set_option linter.unusedVariables false
set_option linter.unusedSimpArgs false
set_option maxRecDepth 200000

instance : Flat cT := ⟨fun _ => rfl⟩

theorem l2None_pure (k : Int) (v : Int) (ks : List Tree)  : Pure Try.prog 259 [.st [.int .i64 k, .int .i64 v, li cX ks]] (.bool (decide (k = 0) && decide (v = 0) && decide (ks.length = 0))) := by
  refine Pure.of_walk Try.func259 rfl (by simp [Try.f259]) (by simp [-List.drop_one, go_sem]) fun B hK => ?_
  (repeat' (first
    | refine AW_seq ?_
    | refine AW_region (id := 0) Γe9_ok [] (by kernel_rfl) ?_; simp  [-List.getD_eq_getElem?_getD, -List.drop_one, ↓splitB_true, ↓splitB_false, go_sem]; try (refine AW_data hK 1 ?_; simp [go_sem])
    | refine AW_region (id := 1) Γe9_ok [6, 11] (by kernel_rfl) ?_; simp  [-List.getD_eq_getElem?_getD, -List.drop_one, ↓splitB_true, ↓splitB_false, go_sem]; try (refine ⟨fun s1a => ?_, fun s1a => ?_⟩ <;> (try simp [B_iff, B_not] at s1a) <;> try (refine ⟨fun s1b => ?_, fun s1b => ?_⟩ <;> (try simp [B_iff, B_not] at s1b) <;> try (refine ⟨fun s1c => ?_, fun s1c => ?_⟩ <;> (try simp [B_iff, B_not] at s1c))))
    | (refine AW_block ?_)
    | (refine AW_exit ?_; simp [-List.getD_eq_getElem?_getD, -List.drop_one, ↓splitB_true, ↓splitB_false, go_sem])
    | (refine AW_skip ?_; simp [-List.getD_eq_getElem?_getD, -List.drop_one, ↓splitB_true, ↓splitB_false, go_sem])
    | (refine AW_ret ?_; simp [-List.getD_eq_getElem?_getD, -List.drop_one, ↓splitB_true, ↓splitB_false, go_sem, Try.results259])
    | (intro hx; change AW _ _ _ _ _ _)
    | (refine ⟨?_, ?_⟩ <;> change AW _ _ _ _ _ _)
    | (intro hx; refine ⟨fun hs => ?_, fun hs => ?_⟩)
    | (refine ⟨fun hs => ?_, fun hs => ?_⟩)
    | (refine ⟨?_, fun hs => ?_⟩; change AW _ _ _ _ _ _)
    | (refine ⟨fun hs => ?_, ?_⟩; rotate_left; change AW _ _ _ _ _ _; rotate_left)))
  all_goals (first
    | (simp_all; done)
    | (intros; simp_all; done)
    | skip)
noncomputable def l2None_pureC : Con := .pure fun
  | [.st [.int .i64 k, .int .i64 v, .list n_ks c_ks]] => ((Is cX n_ks c_ks), .bool (decide (k = 0) && decide (v = 0) && decide ((de cX c_ks).length = 0)))
  | _ => (False, .any)
attribute [go_sem] l2None_pureC
theorem l2None_pureC_ok : ConOk Try.prog 259 l2None_pureC := by
  refine ⟨callable Try.func259 (by decide) rfl, fun args h => ?_⟩
  revert h
  dsimp only
  split
  · intro h
    obtain ⟨ks, rfl, rfl⟩ := h
    try simp only [de_cat] at *
    exact ⟨l2None_pure _ _ ks, by simp [go_sem]⟩
  · intro h
    exact h.elim
noncomputable def Γe10 : FuncId → Con := ext Γe9 259 l2None_pureC
attribute [go_sem] Γe10
theorem Γe10_ok : ∀ g, ConOk Try.prog g (Γe10 g) := ext_ok Γe9_ok l2None_pureC_ok

/-- A valid edge of a process with so many locations. -/
def EdF (fr to : Int) (g : Tree) (v : Int) (e : Tree) (sy loc : Int) : Prop :=
  0 ≤ fr ∧ fr < loc ∧ 0 ≤ to ∧ to < loc ∧ loc ≤ 4 ∧ ExprOk g ∧ -2 ≤ sy ∧ sy ≤ 2 ∧ -1 ≤ v ∧ v ≤ 2 ∧ (0 ≤ v → ExprOk e)
def EdOk (x : Ed) (loc : Int) : Prop := EdF x.fr x.to x.g x.v x.e x.sy loc

noncomputable def EdgeValid_enc : Bool → D := fun x => .bool x
attribute [go_sem] EdgeValid_enc
def EdgeValid_good (fr : Int) (to : Int) (gk : Int) (gv : Int) (gs : List Tree) (v : Int) (ek : Int) (ev : Int) (es : List Tree) (sy : Int) (loc : Int) : Bool → Prop := fun x => x = true → EdF fr to (.mk gk gv gs) v (.mk ek ev es) sy loc
noncomputable def EdgeValid_sel (fr : Int) (to : Int) (gk : Int) (gv : Int) (gs : List Tree) (v : Int) (ek : Int) (ev : Int) (es : List Tree) (sy : Int) (loc : Int) (c : Any) : Bool := sel (EdgeValid_good fr to gk gv gs v ek ev es sy loc) (false) c
theorem EdgeValid_ok (fr : Int) (to : Int) (gk : Int) (gv : Int) (gs : List Tree) (v : Int) (ek : Int) (ev : Int) (es : List Tree) (sy : Int) (loc : Int)  (c : Any) : EdgeValid_good fr to gk gv gs v ek ev es sy loc (EdgeValid_sel fr to gk gv gs v ek ev es sy loc c) := sel_ok (p := EdgeValid_good fr to gk gv gs v ek ev es sy loc) (x0 := false) (by simp [EdgeValid_good]) c
theorem EdgeValid_ret (fr : Int) (to : Int) (gk : Int) (gv : Int) (gs : List Tree) (v : Int) (ek : Int) (ev : Int) (es : List Tree) (sy : Int) (loc : Int) {e_ : Exit} {S_ : St} (x : Bool) (he_ : e_ = .ret ∨ e_ = .normal)
    (h1 : (takeRes Try.prog S_ Try.f254.results.toList).1 ∧ resD (takeRes Try.prog S_ Try.f254.results.toList).2.1 = EdgeValid_enc x) (hg : EdgeValid_good fr to gk gv gs v ek ev es sy loc x) :
    retR Try.prog Try.f254 (fun c => (EdgeValid_enc (EdgeValid_sel fr to gk gv gs v ek ev es sy loc c), fun _ => none)) e_ S_ := ret_prel (enc := EdgeValid_enc) x he_ h1 hg
theorem EdgeValid_retE (fr : Int) (to : Int) (gk : Int) (gv : Int) (gs : List Tree) (v : Int) (ek : Int) (ev : Int) (es : List Tree) (sy : Int) (loc : Int) {e_ : Exit} {S_ : St} (he_ : e_ = .ret ∨ e_ = .normal)
    (h : ∃ x, (takeRes Try.prog S_ Try.f254.results.toList).1 ∧ resD (takeRes Try.prog S_ Try.f254.results.toList).2.1 = EdgeValid_enc x ∧ EdgeValid_good fr to gk gv gs v ek ev es sy loc x) :
    retR Try.prog Try.f254 (fun c => (EdgeValid_enc (EdgeValid_sel fr to gk gv gs v ek ev es sy loc c), fun _ => none)) e_ S_ := by
  obtain ⟨x, h1, h2, h3⟩ := h
  exact EdgeValid_ret _ _ _ _ _ _ _ _ _ _ _ x he_ ⟨h1, h2⟩ h3
set_option maxHeartbeats 1000000 in
theorem EdgeValid_pure (fr : Int) (to : Int) (gk : Int) (gv : Int) (gs : List Tree) (v : Int) (ek : Int) (ev : Int) (es : List Tree) (sy : Int) (loc : Int)  : PureR Try.prog 254 [.st [.int .i64 fr, .int .i64 to, .int .i64 gk, .int .i64 gv, li cX gs, .int .i64 v, .int .i64 ek, .int .i64 ev, li cX es, .int .i64 sy], .int .i64 loc] (fun c => EdgeValid_enc (EdgeValid_sel fr to gk gv gs v ek ev es sy loc c)) := by
  refine PureR.of_walk Try.func254 rfl (by simp [Try.f254]) (fun c => by simp [-List.drop_one, go_sem]) fun B hK => ?_
  (repeat' (first
    | refine AW_seq ?_
    | refine AW_region (id := 0) Γe10_ok [] (by kernel_rfl) ?_; simp  [-List.getD_eq_getElem?_getD, -List.drop_one, ↓splitB_true, ↓splitB_false, go_sem]; try (refine AW_data hK 2 ?_; simp [go_sem])
    | refine AW_region (id := 1) Γe10_ok [8, 14, 19, 25, 29] (by kernel_rfl) ?_; simp  [-List.getD_eq_getElem?_getD, -List.drop_one, ↓splitB_true, ↓splitB_false, go_sem]; try (refine ⟨fun s1a => ?_, fun s1a => ?_⟩ <;> (try simp [B_iff, B_not] at s1a) <;> try (refine ⟨fun s1b => ?_, fun s1b => ?_⟩ <;> (try simp [B_iff, B_not] at s1b) <;> try (refine ⟨fun s1c => ?_, fun s1c => ?_⟩ <;> (try simp [B_iff, B_not] at s1c) <;> try (refine ⟨fun s1d => ?_, fun s1d => ?_⟩ <;> (try simp [B_iff, B_not] at s1d) <;> try (refine ⟨fun s1e => ?_, fun s1e => ?_⟩ <;> (try simp [B_iff, B_not] at s1e) <;> try (refine ⟨fun s1f => ?_, fun s1f => ?_⟩ <;> (try simp [B_iff, B_not] at s1f)))))))
    | refine AW_region (id := 2) Γe10_ok [] (by kernel_rfl) ?_; simp  [-List.getD_eq_getElem?_getD, -List.drop_one, ↓splitB_true, ↓splitB_false, go_sem]
    | refine AW_region (id := 3) Γe10_ok [38, 43, 48] (by kernel_rfl) ?_; simp  [-List.getD_eq_getElem?_getD, -List.drop_one, ↓splitB_true, ↓splitB_false, go_sem]; try (refine ⟨fun s3a => ?_, fun s3a => ?_⟩ <;> (try simp [B_iff, B_not] at s3a) <;> try (refine ⟨fun s3b => ?_, fun s3b => ?_⟩ <;> (try simp [B_iff, B_not] at s3b) <;> try (refine ⟨fun s3c => ?_, fun s3c => ?_⟩ <;> (try simp [B_iff, B_not] at s3c) <;> try (refine ⟨fun s3d => ?_, fun s3d => ?_⟩ <;> (try simp [B_iff, B_not] at s3d)))))
    | refine AW_region (id := 4) Γe10_ok [] (by kernel_rfl) ?_; simp  [-List.getD_eq_getElem?_getD, -List.drop_one, ↓splitB_true, ↓splitB_false, go_sem]
    | refine AW_region (id := 5) Γe10_ok [56, 61, 65] (by kernel_rfl) ?_; simp  [-List.getD_eq_getElem?_getD, -List.drop_one, ↓splitB_true, ↓splitB_false, go_sem]; try (refine ⟨fun s5a => ?_, fun s5a => ?_⟩ <;> (try simp [B_iff, B_not] at s5a) <;> try (refine ⟨fun s5b => ?_, fun s5b => ?_⟩ <;> (try simp [B_iff, B_not] at s5b) <;> try (refine ⟨fun s5c => ?_, fun s5c => ?_⟩ <;> (try simp [B_iff, B_not] at s5c) <;> try (refine ⟨fun s5d => ?_, fun s5d => ?_⟩ <;> (try simp [B_iff, B_not] at s5d)))))
    | refine AW_condA (c := .tmp 34) ?_; simp [-List.getD_eq_getElem?_getD, -List.drop_one, ↓splitB_true, ↓splitB_false, go_sem]; try first | (refine ⟨?_, ?_⟩ <;> change AW _ _ _ _ _ _) | (refine ⟨fun c34 => ?_, fun c34 => ?_⟩ <;> (try simp [B_iff, B_not] at c34))
    | refine AW_condA (c := .tmp 52) ?_; simp [-List.getD_eq_getElem?_getD, -List.drop_one, ↓splitB_true, ↓splitB_false, go_sem]; try first | (refine ⟨?_, ?_⟩ <;> change AW _ _ _ _ _ _) | (refine ⟨fun c52 => ?_, fun c52 => ?_⟩ <;> (try simp [B_iff, B_not] at c52))
    | (refine AW_block ?_)
    | (refine AW_exit ?_; simp [-List.getD_eq_getElem?_getD, -List.drop_one, ↓splitB_true, ↓splitB_false, go_sem])
    | (refine AW_skip ?_; simp [-List.getD_eq_getElem?_getD, -List.drop_one, ↓splitB_true, ↓splitB_false, go_sem])
    | (refine AW_ret ?_; try simp [-List.getD_eq_getElem?_getD, -List.drop_one, ↓splitB_true, ↓splitB_false, go_sem, Try.results254])
    | (intro hx; change AW _ _ _ _ _ _)
    | (intro hx; change retR _ _ _ _ _)
    | (refine ⟨?_, ?_⟩ <;> change AW _ _ _ _ _ _)
    | (intro hx; refine ⟨fun hs => ?_, fun hs => ?_⟩)
    | (refine ⟨fun hs => ?_, fun hs => ?_⟩)
    | (refine ⟨?_, fun hs => ?_⟩; change AW _ _ _ _ _ _)
    | (refine ⟨fun hs => ?_, ?_⟩; rotate_left; change AW _ _ _ _ _ _; rotate_left)))
  all_goals (first
    | (refine EdgeValid_retE _ _ _ _ _ _ _ _ _ _ _ ?_ ?_; (first | exact Or.inl rfl | exact Or.inr rfl); (simp [-List.getD_eq_getElem?_getD, -List.drop_one, ↓splitB_true, ↓splitB_false, go_sem, Try.results254, EdgeValid_good]); ((((try intro hh); refine ⟨by omega, by omega, by omega, by omega, by omega, c34, by omega, by omega, by omega, by omega, ?_⟩; first | (intro; omega) | (intro; assumption) | (intro; simp_all; done) | (intro; exact hh.2))); done))
    | (refine EdgeValid_retE _ _ _ _ _ _ _ _ _ _ _ ?_ ?_; (first | exact Or.inl rfl | exact Or.inr rfl); (simp [-List.getD_eq_getElem?_getD, -List.drop_one, ↓splitB_true, ↓splitB_false, go_sem, Try.results254, EdgeValid_good]; done))
    | skip)
noncomputable def EdgeValidC : Con := .prel fun
  | [.st [.int .i64 fr, .int .i64 to, .int .i64 gk, .int .i64 gv, .list n_gs c_gs, .int .i64 v, .int .i64 ek, .int .i64 ev, .list n_es c_es, .int .i64 sy], .int .i64 loc] => ((Is cX n_gs c_gs) ∧ (Is cX n_es c_es), fun c => EdgeValid_enc (EdgeValid_sel fr to gk gv (de cX c_gs) v ek ev (de cX c_es) sy loc c))
  | _ => (False, fun _ => .any)
attribute [go_sem] EdgeValidC
theorem EdgeValidC_ok : ConOk Try.prog 254 EdgeValidC := by
  refine ⟨callable Try.func254 (by decide) rfl, fun args h => ?_⟩
  revert h
  dsimp only
  split
  · intro h
    obtain ⟨⟨gs, rfl, rfl⟩, ⟨es, rfl, rfl⟩⟩ := h
    try simp only [de_cat] at *
    exact ⟨EdgeValid_pure _ _ _ _ gs _ _ _ es _ _ , fun c => by simp [go_sem]⟩
  · intro h
    exact h.elim
noncomputable def Γe11 : FuncId → Con := ext Γe10 254 EdgeValidC
attribute [go_sem] Γe11
theorem Γe11_ok : ∀ g, ConOk Try.prog g (Γe11 g) := ext_ok Γe10_ok EdgeValidC_ok

/-- A valid process. -/
def PrF (loc : Int) (es : List Ed) : Prop := 1 ≤ loc ∧ loc ≤ 4 ∧ es.length ≤ 6 ∧ ∀ i, i < es.length → EdOk (nth es i) loc

noncomputable def l2Process_enc : Bool → D := fun x => .bool x
attribute [go_sem] l2Process_enc
def l2Process_good (loc : Int) (es : List Ed) : Bool → Prop := fun x => x = true → PrF loc es
noncomputable def l2Process_sel (loc : Int) (es : List Ed) (c : Any) : Bool := sel (l2Process_good loc es) (false) c
theorem l2Process_ok (loc : Int) (es : List Ed)  (c : Any) : l2Process_good loc es (l2Process_sel loc es c) := sel_ok (p := l2Process_good loc es) (x0 := false) (by simp [l2Process_good]) c
theorem l2Process_ret (loc : Int) (es : List Ed) {e_ : Exit} {S_ : St} (x : Bool) (he_ : e_ = .ret ∨ e_ = .normal)
    (h1 : (takeRes Try.prog S_ Try.f246.results.toList).1 ∧ resD (takeRes Try.prog S_ Try.f246.results.toList).2.1 = l2Process_enc x) (hg : l2Process_good loc es x) :
    retR Try.prog Try.f246 (fun c => (l2Process_enc (l2Process_sel loc es c), fun _ => none)) e_ S_ := ret_prel (enc := l2Process_enc) x he_ h1 hg
theorem l2Process_retE (loc : Int) (es : List Ed) {e_ : Exit} {S_ : St} (he_ : e_ = .ret ∨ e_ = .normal)
    (h : ∃ x, (takeRes Try.prog S_ Try.f246.results.toList).1 ∧ resD (takeRes Try.prog S_ Try.f246.results.toList).2.1 = l2Process_enc x ∧ l2Process_good loc es x) :
    retR Try.prog Try.f246 (fun c => (l2Process_enc (l2Process_sel loc es c), fun _ => none)) e_ S_ := by
  obtain ⟨x, h1, h2, h3⟩ := h
  exact l2Process_ret _ _ x he_ ⟨h1, h2⟩ h3
theorem l2Process_pure (loc : Int) (es : List Ed)  : PureR Try.prog 246 [.st [.int .i64 loc, li cE es]] (fun c => l2Process_enc (l2Process_sel loc es c)) := by
  refine PureR.of_walk Try.func246 rfl (by simp [Try.f246]) (fun c => by simp [-List.drop_one, go_sem]) fun B hK => ?_
  (repeat' (first
    | refine AW_seq ?_
    | refine AW_region (id := 0) Γe11_ok [] (by kernel_rfl) ?_; simp  [-List.getD_eq_getElem?_getD, -List.drop_one, ↓splitB_true, ↓splitB_false, go_sem]; try (refine AW_data hK 1 ?_; simp [go_sem])
    | (refine AW_lenP 1 1 ⟨rfl, rfl⟩ fun hm => ?_); refine AW_region (id := 1) Γe11_ok [] (by kernel_rfl) ?_; simp  [-List.getD_eq_getElem?_getD, -List.drop_one, ↓splitB_true, ↓splitB_false, go_sem]
    | refine AW_region (id := 2) Γe11_ok [] (by kernel_rfl) ?_; simp  [-List.getD_eq_getElem?_getD, -List.drop_one, ↓splitB_true, ↓splitB_false, go_sem]
    | refine AW_region_draw (id := 4) Γe11_ok mixed [] [1] (by kernel_rfl) (by kernel_rfl) (by simp [-List.getD_eq_getElem?_getD, -List.drop_one, ↓splitB_true, ↓splitB_false, go_sem, c8, ne_nil c8, Nat.sub_pos_of_lt c8]) ?_; simp  [-List.getD_eq_getElem?_getD, -List.drop_one, ↓splitB_true, ↓splitB_false, go_sem, c8, ne_nil c8, Nat.sub_pos_of_lt c8]; try ((generalize hx : nth es i = x at *); intro c4; have h4 := EdgeValid_ok x.fr x.to x.g.k x.g.v x.g.ks x.v x.e.k x.e.v x.e.ks x.sy loc c4; (generalize EdgeValid_sel x.fr x.to x.g.k x.g.v x.g.ks x.v x.e.k x.e.v x.e.ks x.sy loc c4 = z4 at *); (subst hx); (simp only [EdgeValid_good] at h4))
    | refine AW_region (id := 5) Γe11_ok [] (by kernel_rfl) ?_; simp  [-List.getD_eq_getElem?_getD, -List.drop_one, ↓splitB_true, ↓splitB_false, go_sem]
    | refine AW_region (id := 3) Γe11_ok [] (by kernel_rfl) ?_; simp  [-List.getD_eq_getElem?_getD, -List.drop_one, ↓splitB_true, ↓splitB_false, go_sem, wrapS (k := i) (by omega)]
    | refine AW_region (id := 6) Γe11_ok [23, 28] (by kernel_rfl) ?_; simp  [-List.getD_eq_getElem?_getD, -List.drop_one, ↓splitB_true, ↓splitB_false, go_sem]; try (refine ⟨fun s6a => ?_, fun s6a => ?_⟩ <;> (try simp [B_iff, B_not] at s6a) <;> try (refine ⟨fun s6b => ?_, fun s6b => ?_⟩ <;> (try simp [B_iff, B_not] at s6b) <;> try (refine ⟨fun s6c => ?_, fun s6c => ?_⟩ <;> (try simp [B_iff, B_not] at s6c))))
    | refine AW_condA (c := .tmp 8) ?_; simp [-List.getD_eq_getElem?_getD, -List.drop_one, ↓splitB_true, ↓splitB_false, go_sem]; try first | (refine ⟨?_, ?_⟩ <;> change AW _ _ _ _ _ _) | (refine ⟨fun c8 => ?_, fun c8 => ?_⟩ <;> (try simp [B_iff, B_not] at c8))
    | refine AW_condA (c := .tmp 19) ?_; simp [-List.getD_eq_getElem?_getD, -List.drop_one, ↓splitB_true, ↓splitB_false, go_sem]; try first | (refine ⟨?_, ?_⟩ <;> change AW _ _ _ _ _ _) | (refine ⟨fun c19 => ?_, fun c19 => ?_⟩ <;> (try simp [B_iff, B_not] at c19))
    | (refine AW_block (id := 0) (AW_loop (ι := Nat) (fun i : Nat => ⟨(upd (upd (fun _ => .any) 1 (.pd [.int .i64 loc, li cE es])) 3 (.int .i64 i)), fun _ => none⟩) (fun i => i ≤ es.length ∧ AllTill (fun i => EdOk (nth es i) loc) i) (fun i => es.length - i) (0) ?_ ?_ ?_); exact ⟨Nat.zero_le _, .zero _⟩; ((repeat' (first | exact sub_noneH (by assumption) | exact sub_none | refine sub_upd ?_ ?_ | refine sub_noneE ?_)) <;> simp [-List.getD_eq_getElem?_getD, -List.drop_one, ↓splitB_true, ↓splitB_false, go_sem]); rintro i ⟨hi, hu⟩)
    | (refine ⟨i + 1, ⟨by omega, hu.succ (by rw [Tree.eta, Tree.eta] at h4; exact h4 (by assumption))⟩, by first | omega | (simp; done) | (simp; omega), ?_⟩; ((repeat' (first | exact sub_noneH (by assumption) | exact sub_none | refine sub_upd ?_ ?_ | refine sub_noneE ?_)) <;> simp [-List.getD_eq_getElem?_getD, -List.drop_one, ↓splitB_true, ↓splitB_false, go_sem]))
    | (refine AW_block ?_)
    | (refine AW_exit ?_; simp [-List.getD_eq_getElem?_getD, -List.drop_one, ↓splitB_true, ↓splitB_false, go_sem])
    | (refine AW_skip ?_; simp [-List.getD_eq_getElem?_getD, -List.drop_one, ↓splitB_true, ↓splitB_false, go_sem])
    | (refine AW_ret ?_; try simp [-List.getD_eq_getElem?_getD, -List.drop_one, ↓splitB_true, ↓splitB_false, go_sem, Try.results246])
    | (intro hx; change AW _ _ _ _ _ _)
    | (intro hx; change retR _ _ _ _ _)
    | (refine ⟨?_, ?_⟩ <;> change AW _ _ _ _ _ _)
    | (intro hx; refine ⟨fun hs => ?_, fun hs => ?_⟩)
    | (refine ⟨fun hs => ?_, fun hs => ?_⟩)
    | (refine ⟨?_, fun hs => ?_⟩; change AW _ _ _ _ _ _)
    | (refine ⟨fun hs => ?_, ?_⟩; rotate_left; change AW _ _ _ _ _ _; rotate_left)))
  all_goals (first
    | (refine l2Process_retE _ _ ?_ ?_; (first | exact Or.inl rfl | exact Or.inr rfl); (simp [-List.getD_eq_getElem?_getD, -List.drop_one, ↓splitB_true, ↓splitB_false, go_sem, Try.results246, l2Process_good]); (((intros; refine ⟨by omega, by omega, by omega, fun j hj => hu j (by omega)⟩)); done))
    | (refine l2Process_retE _ _ ?_ ?_; (first | exact Or.inl rfl | exact Or.inr rfl); (simp [-List.getD_eq_getElem?_getD, -List.drop_one, ↓splitB_true, ↓splitB_false, go_sem, Try.results246, l2Process_good]; done))
    | skip)
noncomputable def l2ProcessC : Con := .prel fun
  | [.st [.int .i64 loc, .list n_es c_es]] => ((Is cE n_es c_es), fun c => l2Process_enc (l2Process_sel loc (de cE c_es) c))
  | _ => (False, fun _ => .any)
attribute [go_sem] l2ProcessC
theorem l2ProcessC_ok : ConOk Try.prog 246 l2ProcessC := by
  refine ⟨callable Try.func246 (by decide) rfl, fun args h => ?_⟩
  revert h
  dsimp only
  split
  · intro h
    obtain ⟨es, rfl, rfl⟩ := h
    try simp only [de_cat] at *
    exact ⟨l2Process_pure _ es , fun c => by simp [go_sem]⟩
  · intro h
    exact h.elim
noncomputable def Γe12 : FuncId → Con := ext Γe11 246 l2ProcessC
attribute [go_sem] Γe12
theorem Γe12_ok : ∀ g, ConOk Try.prog g (Γe12 g) := ext_ok Γe11_ok l2ProcessC_ok

/-- A valid system. -/
def SysOk (init : List Int) (ps : List Pr) : Prop := ValsOk init ∧ 1 ≤ ps.length ∧ ps.length ≤ 3 ∧ ∀ i, i < ps.length → PrF (nth ps i).loc (nth ps i).es

noncomputable def SystemValid_enc : Bool → D := fun x => .bool x
attribute [go_sem] SystemValid_enc
def SystemValid_good (init : List Int) (ps : List Pr) : Bool → Prop := fun x => x = true → SysOk init ps
noncomputable def SystemValid_sel (init : List Int) (ps : List Pr) (c : Any) : Bool := sel (SystemValid_good init ps) (false) c
theorem SystemValid_ok (init : List Int) (ps : List Pr)  (c : Any) : SystemValid_good init ps (SystemValid_sel init ps c) := sel_ok (p := SystemValid_good init ps) (x0 := false) (by simp [SystemValid_good]) c
theorem SystemValid_ret (init : List Int) (ps : List Pr) {e_ : Exit} {S_ : St} (x : Bool) (he_ : e_ = .ret ∨ e_ = .normal)
    (h1 : (takeRes Try.prog S_ Try.f226.results.toList).1 ∧ resD (takeRes Try.prog S_ Try.f226.results.toList).2.1 = SystemValid_enc x) (hg : SystemValid_good init ps x) :
    retR Try.prog Try.f226 (fun c => (SystemValid_enc (SystemValid_sel init ps c), fun _ => none)) e_ S_ := ret_prel (enc := SystemValid_enc) x he_ h1 hg
theorem SystemValid_retE (init : List Int) (ps : List Pr) {e_ : Exit} {S_ : St} (he_ : e_ = .ret ∨ e_ = .normal)
    (h : ∃ x, (takeRes Try.prog S_ Try.f226.results.toList).1 ∧ resD (takeRes Try.prog S_ Try.f226.results.toList).2.1 = SystemValid_enc x ∧ SystemValid_good init ps x) :
    retR Try.prog Try.f226 (fun c => (SystemValid_enc (SystemValid_sel init ps c), fun _ => none)) e_ S_ := by
  obtain ⟨x, h1, h2, h3⟩ := h
  exact SystemValid_ret _ _ x he_ ⟨h1, h2⟩ h3
theorem SystemValid_pure (init : List Int) (ps : List Pr)  : PureR Try.prog 226 [.st [li cI init, li cR ps]] (fun c => SystemValid_enc (SystemValid_sel init ps c)) := by
  refine PureR.of_walk Try.func226 rfl (by simp [Try.f226]) (fun c => by simp [-List.drop_one, go_sem]) fun B hK => ?_
  (repeat' (first
    | refine AW_seq ?_
    | refine AW_region (id := 0) Γe12_ok [] (by kernel_rfl) ?_; simp  [-List.getD_eq_getElem?_getD, -List.drop_one, ↓splitB_true, ↓splitB_false, go_sem]; try (refine AW_data hK 1 ?_; simp [go_sem])
    | (refine AW_lenP 1 1 ⟨rfl, rfl⟩ fun hm => ?_); refine AW_region (id := 1) Γe12_ok [] (by kernel_rfl) ?_; simp  [-List.getD_eq_getElem?_getD, -List.drop_one, ↓splitB_true, ↓splitB_false, go_sem]
    | refine AW_region (id := 2) Γe12_ok [] (by kernel_rfl) ?_; simp  [-List.getD_eq_getElem?_getD, -List.drop_one, ↓splitB_true, ↓splitB_false, go_sem]
    | refine AW_region (id := 4) Γe12_ok [] (by kernel_rfl) ?_; simp  [-List.getD_eq_getElem?_getD, -List.drop_one, ↓splitB_true, ↓splitB_false, go_sem, c8, ne_nil c8, Nat.sub_pos_of_lt c8]; try (intro c4; have h4 := l2Process_ok (nth ps i).loc (nth ps i).es c4; (generalize l2Process_sel (nth ps i).loc (nth ps i).es c4 = z4 at *); (simp only [l2Process_good] at h4))
    | refine AW_region (id := 5) Γe12_ok [] (by kernel_rfl) ?_; simp  [-List.getD_eq_getElem?_getD, -List.drop_one, ↓splitB_true, ↓splitB_false, go_sem]
    | refine AW_region (id := 3) Γe12_ok [] (by kernel_rfl) ?_; simp  [-List.getD_eq_getElem?_getD, -List.drop_one, ↓splitB_true, ↓splitB_false, go_sem, wrapS (k := i) (by omega)]
    | refine AW_region (id := 6) Γe12_ok [21, 27] (by kernel_rfl) ?_; simp  [-List.getD_eq_getElem?_getD, -List.drop_one, ↓splitB_true, ↓splitB_false, go_sem]; try (refine ⟨fun s6a => ?_, fun s6a => ?_⟩ <;> (try simp [B_iff, B_not] at s6a) <;> try (refine ⟨fun s6b => ?_, fun s6b => ?_⟩ <;> (try simp [B_iff, B_not] at s6b) <;> try (refine ⟨fun s6c => ?_, fun s6c => ?_⟩ <;> (try simp [B_iff, B_not] at s6c))))
    | refine AW_condA (c := .tmp 8) ?_; simp [-List.getD_eq_getElem?_getD, -List.drop_one, ↓splitB_true, ↓splitB_false, go_sem]; try first | (refine ⟨?_, ?_⟩ <;> change AW _ _ _ _ _ _) | (refine ⟨fun c8 => ?_, fun c8 => ?_⟩ <;> (try simp [B_iff, B_not] at c8))
    | refine AW_condA (c := .tmp 17) ?_; simp [-List.getD_eq_getElem?_getD, -List.drop_one, ↓splitB_true, ↓splitB_false, go_sem]; try first | (refine ⟨?_, ?_⟩ <;> change AW _ _ _ _ _ _) | (refine ⟨fun c17 => ?_, fun c17 => ?_⟩ <;> (try simp [B_iff, B_not] at c17))
    | (refine AW_block (id := 0) (AW_loop (ι := Nat) (fun i : Nat => ⟨(upd (upd (fun _ => .any) 1 (.pd [li cI init, li cR ps])) 3 (.int .i64 i)), fun _ => none⟩) (fun i => i ≤ ps.length ∧ AllTill (fun i => PrF (nth ps i).loc (nth ps i).es) i) (fun i => ps.length - i) (0) ?_ ?_ ?_); exact ⟨Nat.zero_le _, .zero _⟩; ((repeat' (first | exact sub_noneH (by assumption) | exact sub_none | refine sub_upd ?_ ?_ | refine sub_noneE ?_)) <;> simp [-List.getD_eq_getElem?_getD, -List.drop_one, ↓splitB_true, ↓splitB_false, go_sem]); rintro i ⟨hi, hu⟩)
    | (refine ⟨i + 1, ⟨by omega, hu.succ (h4 (by assumption))⟩, by first | omega | (simp; done) | (simp; omega), ?_⟩; ((repeat' (first | exact sub_noneH (by assumption) | exact sub_none | refine sub_upd ?_ ?_ | refine sub_noneE ?_)) <;> simp [-List.getD_eq_getElem?_getD, -List.drop_one, ↓splitB_true, ↓splitB_false, go_sem]))
    | (refine AW_block ?_)
    | (refine AW_exit ?_; simp [-List.getD_eq_getElem?_getD, -List.drop_one, ↓splitB_true, ↓splitB_false, go_sem])
    | (refine AW_skip ?_; simp [-List.getD_eq_getElem?_getD, -List.drop_one, ↓splitB_true, ↓splitB_false, go_sem])
    | (refine AW_ret ?_; try simp [-List.getD_eq_getElem?_getD, -List.drop_one, ↓splitB_true, ↓splitB_false, go_sem, Try.results226])
    | (intro hx; change AW _ _ _ _ _ _)
    | (intro hx; change retR _ _ _ _ _)
    | (refine ⟨?_, ?_⟩ <;> change AW _ _ _ _ _ _)
    | (intro hx; refine ⟨fun hs => ?_, fun hs => ?_⟩)
    | (refine ⟨fun hs => ?_, fun hs => ?_⟩)
    | (refine ⟨?_, fun hs => ?_⟩; change AW _ _ _ _ _ _)
    | (refine ⟨fun hs => ?_, ?_⟩; rotate_left; change AW _ _ _ _ _ _; rotate_left)))
  all_goals (first
    | (refine SystemValid_retE _ _ ?_ ?_; (first | exact Or.inl rfl | exact Or.inr rfl); (simp [-List.getD_eq_getElem?_getD, -List.drop_one, ↓splitB_true, ↓splitB_false, go_sem, Try.results226, SystemValid_good]); (((intros; refine ⟨by assumption, by omega, by omega, fun j hj => hu j (by omega)⟩)); done))
    | (refine SystemValid_retE _ _ ?_ ?_; (first | exact Or.inl rfl | exact Or.inr rfl); (simp [-List.getD_eq_getElem?_getD, -List.drop_one, ↓splitB_true, ↓splitB_false, go_sem, Try.results226, SystemValid_good]; done))
    | skip)
noncomputable def SystemValidC : Con := .prel fun
  | [.st [.list n_init c_init, .list n_ps c_ps]] => ((Is cI n_init c_init) ∧ (Is cR n_ps c_ps), fun c => SystemValid_enc (SystemValid_sel (de cI c_init) (de cR c_ps) c))
  | _ => (False, fun _ => .any)
attribute [go_sem] SystemValidC
theorem SystemValidC_ok : ConOk Try.prog 226 SystemValidC := by
  refine ⟨callable Try.func226 (by decide) rfl, fun args h => ?_⟩
  revert h
  dsimp only
  split
  · intro h
    obtain ⟨⟨init, rfl, rfl⟩, ⟨ps, rfl, rfl⟩⟩ := h
    try simp only [de_cat] at *
    exact ⟨SystemValid_pure init ps , fun c => by simp [go_sem]⟩
  · intro h
    exact h.elim
noncomputable def Γe13 : FuncId → Con := ext Γe12 226 SystemValidC
attribute [go_sem] Γe13
theorem Γe13_ok : ∀ g, ConOk Try.prog g (Γe13 g) := ext_ok Γe12_ok SystemValidC_ok

end Go.Proofs.Ytoklpofekcclhaa.Vm


/-
  Systems: first states, steps. No conditions.
-/
namespace Go.Proofs.Ytoklpofekcclhaa.Vm
open Go
set_option linter.unusedVariables false
set_option linter.unusedSimpArgs false
set_option maxRecDepth 200000

/-- A state of a system. -/
def StF (ps : List Pr) (lo va : List Int) : Prop := lo.length = ps.length ∧ ValsOk va
abbrev StB := (List Int × List Int) × Bool

noncomputable def InitialState_enc : StB → D := fun x => .tup [.st [fr 1 cI x.1.1, fr 1 cI x.1.2], .bool x.2]
attribute [go_sem] InitialState_enc
def InitialState_good (init : List Int) (ps : List Pr) : StB → Prop := fun x => (x.2 = true → SysOk init ps ∧ StF ps x.1.1 x.1.2) ∧ (x.2 = false → x.1 = ([], []))
noncomputable def InitialState_sel (init : List Int) (ps : List Pr) (c : Any) : StB := sel (InitialState_good init ps) ((([], []), false)) c
theorem InitialState_ok (init : List Int) (ps : List Pr)  (c : Any) : InitialState_good init ps (InitialState_sel init ps c) := sel_ok (p := InitialState_good init ps) (x0 := (([], []), false)) (by simp [InitialState_good]) c
theorem InitialState_ret (init : List Int) (ps : List Pr) {e_ : Exit} {S_ : St} (x : StB) (he_ : e_ = .ret ∨ e_ = .normal)
    (h1 : (takeRes Try.prog S_ Try.f209.results.toList).1 ∧ resD (takeRes Try.prog S_ Try.f209.results.toList).2.1 = InitialState_enc x) (hg : InitialState_good init ps x) :
    retR Try.prog Try.f209 (fun c => (InitialState_enc (InitialState_sel init ps c), fun _ => none)) e_ S_ := ret_prel (enc := InitialState_enc) x he_ h1 hg
theorem InitialState_retE (init : List Int) (ps : List Pr) {e_ : Exit} {S_ : St} (he_ : e_ = .ret ∨ e_ = .normal)
    (h : ∃ x, (takeRes Try.prog S_ Try.f209.results.toList).1 ∧ resD (takeRes Try.prog S_ Try.f209.results.toList).2.1 = InitialState_enc x ∧ InitialState_good init ps x) :
    retR Try.prog Try.f209 (fun c => (InitialState_enc (InitialState_sel init ps c), fun _ => none)) e_ S_ := by
  obtain ⟨x, h1, h2, h3⟩ := h
  exact InitialState_ret _ _ x he_ ⟨h1, h2⟩ h3
theorem InitialState_pure (init : List Int) (ps : List Pr)  : PureR Try.prog 209 [.st [li cI init, li cR ps]] (fun c => InitialState_enc (InitialState_sel init ps c)) := by
  refine PureR.of_walk Try.func209 rfl (by simp [Try.f209]) (fun c => by simp [-List.drop_one, go_sem]) fun B hK => ?_
  (repeat' (first
    | refine AW_seq ?_
    | refine AW_region (id := 0) Γe13_ok [] (by kernel_rfl) ?_; simp  [-List.getD_eq_getElem?_getD, -List.drop_one, ↓splitB_true, ↓splitB_false, go_sem]; try (refine AW_data hK 1 ?_; simp [go_sem])
    | refine AW_region (id := 1) Γe13_ok [] (by kernel_rfl) ?_; simp  [-List.getD_eq_getElem?_getD, -List.drop_one, ↓splitB_true, ↓splitB_false, go_sem]; try (intro c1; have h1 := SystemValid_ok init ps c1; (generalize SystemValid_sel init ps c1 = z1 at *); (simp only [SystemValid_good] at h1))
    | refine AW_region (id := 2) Γe13_ok [] (by kernel_rfl) ?_; simp  [-List.getD_eq_getElem?_getD, -List.drop_one, ↓splitB_true, ↓splitB_false, go_sem]; try ((refine AW_boxNil0 2 rfl ?_); (refine AW_boxNil1 2 rfl ?_))
    | (have hS := h1 (by simpa using c6); have hp3 := hS.2.2.1; have hvl := hS.1.1); refine AW_region_draw (id := 3) Γe13_ok mixed [] [1] (by kernel_rfl) (by kernel_rfl) (by simp [-List.getD_eq_getElem?_getD, -List.drop_one, ↓splitB_true, ↓splitB_false, go_sem, make_cI, (show 8 * (ps.length : Int) ≤ 281474976710656 by omega), (show (ps.length : Int) ≤ 9223372036854775807 by omega), (show init.length ≤ 9223372036854775807 by omega), (show 2 * init.length * 8 ≤ 281474976710656 by omega)]) ?_; simp  [-List.getD_eq_getElem?_getD, -List.drop_one, ↓splitB_true, ↓splitB_false, go_sem, make_cI, (show 8 * (ps.length : Int) ≤ 281474976710656 by omega), (show (ps.length : Int) ≤ 9223372036854775807 by omega), (show init.length ≤ 9223372036854775807 by omega), (show 2 * init.length * 8 ≤ 281474976710656 by omega)]
    | refine AW_condA (c := .tmp 6) ?_; simp [-List.getD_eq_getElem?_getD, -List.drop_one, ↓splitB_true, ↓splitB_false, go_sem]; try first | (refine ⟨?_, ?_⟩ <;> change AW _ _ _ _ _ _) | (refine ⟨fun c6 => ?_, fun c6 => ?_⟩ <;> (try simp [B_iff, B_not] at c6))
    | (refine AW_block ?_)
    | (refine AW_exit ?_; simp [-List.getD_eq_getElem?_getD, -List.drop_one, ↓splitB_true, ↓splitB_false, go_sem])
    | (refine AW_skip ?_; simp [-List.getD_eq_getElem?_getD, -List.drop_one, ↓splitB_true, ↓splitB_false, go_sem])
    | (refine AW_ret ?_; try simp [-List.getD_eq_getElem?_getD, -List.drop_one, ↓splitB_true, ↓splitB_false, go_sem, Try.results209])
    | (intro hx; change AW _ _ _ _ _ _)
    | (intro hx; change retR _ _ _ _ _)
    | (refine ⟨?_, ?_⟩ <;> change AW _ _ _ _ _ _)
    | (intro hx; refine ⟨fun hs => ?_, fun hs => ?_⟩)
    | (refine ⟨fun hs => ?_, fun hs => ?_⟩)
    | (refine ⟨?_, fun hs => ?_⟩; change AW _ _ _ _ _ _)
    | (refine ⟨fun hs => ?_, ?_⟩; rotate_left; change AW _ _ _ _ _ _; rotate_left)))
  all_goals (first
    | (refine InitialState_ret _ _ (((([], []), false) : StB)) ?_ ?_ ?_; (first | exact Or.inl rfl | exact Or.inr rfl); (focus (simp [-List.getD_eq_getElem?_getD, -List.drop_one, ↓splitB_true, ↓splitB_false, go_sem, Try.results209]; done)); (focus ((simp [InitialState_good]); done)))
    | (refine InitialState_ret _ _ ((((List.replicate ps.length 0, init), true) : StB)) ?_ ?_ ?_; (first | exact Or.inl rfl | exact Or.inr rfl); (focus (simp [-List.getD_eq_getElem?_getD, -List.drop_one, ↓splitB_true, ↓splitB_false, go_sem, Try.results209, make_cI]; done)); (focus ((exact ⟨fun _ => ⟨hS, by simp, hS.1⟩, fun h => by cases h⟩); done)))
    | skip)
noncomputable def InitialStateC : Con := .prel fun
  | [.st [.list n_init c_init, .list n_ps c_ps]] => ((Is cI n_init c_init) ∧ (Is cR n_ps c_ps), fun c => InitialState_enc (InitialState_sel (de cI c_init) (de cR c_ps) c))
  | _ => (False, fun _ => .any)
attribute [go_sem] InitialStateC
theorem InitialStateC_ok : ConOk Try.prog 209 InitialStateC := by
  refine ⟨callable Try.func209 (by decide) rfl, fun args h => ?_⟩
  revert h
  dsimp only
  split
  · intro h
    obtain ⟨⟨init, rfl, rfl⟩, ⟨ps, rfl, rfl⟩⟩ := h
    try simp only [de_cat] at *
    exact ⟨InitialState_pure init ps , fun c => by simp [go_sem]⟩
  · intro h
    exact h.elim
noncomputable def Γe14 : FuncId → Con := ext Γe13 209 InitialStateC
attribute [go_sem] Γe14
theorem Γe14_ok : ∀ g, ConOk Try.prog g (Γe14 g) := ext_ok Γe13_ok InitialStateC_ok

/-- An edge that is there. -/
def EdgeAt (ps : List Pr) (p e : Int) : Prop := 0 ≤ p ∧ p < ps.length ∧ 0 ≤ e ∧ e < (nth ps p.toNat).es.length
theorem SysOk.edge {init : List Int} {ps : List Pr} (h : SysOk init ps) {p e : Int} (k : EdgeAt ps p e) : EdOk (nth (nth ps p.toNat).es e.toNat) (nth ps p.toNat).loc := by
  obtain ⟨k1, k2, k3, k4⟩ := k
  exact (h.2.2.2 p.toNat (by omega)).2.2.2 e.toNat (by omega)
theorem ExprOk.well {t : Tree} (h : ExprOk t) : Well t := ⟨6, h.1⟩

noncomputable def l3Ready_enc : Bool → D := fun x => .bool x
attribute [go_sem] l3Ready_enc
def l3Ready_good (init : List Int) (ps : List Pr) (lo : List Int) (va : List Int) (p : Int) (e : Int) : Bool → Prop := fun _ => True
noncomputable def l3Ready_sel (init : List Int) (ps : List Pr) (lo : List Int) (va : List Int) (p : Int) (e : Int) (c : Any) : Bool := sel (l3Ready_good init ps lo va p e) (false) c
theorem l3Ready_ok (init : List Int) (ps : List Pr) (lo : List Int) (va : List Int) (p : Int) (e : Int) (hS : SysOk init ps) (hT : StF ps lo va) (hE : EdgeAt ps p e) (c : Any) : l3Ready_good init ps lo va p e (l3Ready_sel init ps lo va p e c) := sel_ok (p := l3Ready_good init ps lo va p e) (x0 := false) (by simp [l3Ready_good]) c
theorem l3Ready_ret (init : List Int) (ps : List Pr) (lo : List Int) (va : List Int) (p : Int) (e : Int) {e_ : Exit} {S_ : St} (x : Bool) (he_ : e_ = .ret ∨ e_ = .normal)
    (h1 : (takeRes Try.prog S_ Try.f227.results.toList).1 ∧ resD (takeRes Try.prog S_ Try.f227.results.toList).2.1 = l3Ready_enc x) (hg : l3Ready_good init ps lo va p e x) :
    retR Try.prog Try.f227 (fun c => (l3Ready_enc (l3Ready_sel init ps lo va p e c), fun _ => none)) e_ S_ := ret_prel (enc := l3Ready_enc) x he_ h1 hg
theorem l3Ready_retE (init : List Int) (ps : List Pr) (lo : List Int) (va : List Int) (p : Int) (e : Int) {e_ : Exit} {S_ : St} (he_ : e_ = .ret ∨ e_ = .normal)
    (h : ∃ x, (takeRes Try.prog S_ Try.f227.results.toList).1 ∧ resD (takeRes Try.prog S_ Try.f227.results.toList).2.1 = l3Ready_enc x ∧ l3Ready_good init ps lo va p e x) :
    retR Try.prog Try.f227 (fun c => (l3Ready_enc (l3Ready_sel init ps lo va p e c), fun _ => none)) e_ S_ := by
  obtain ⟨x, h1, h2, h3⟩ := h
  exact l3Ready_ret _ _ _ _ _ _ x he_ ⟨h1, h2⟩ h3
theorem l3Ready_pure (init : List Int) (ps : List Pr) (lo : List Int) (va : List Int) (p : Int) (e : Int) (hS : SysOk init ps) (hT : StF ps lo va) (hE : EdgeAt ps p e) : PureR Try.prog 227 [.st [li cI init, li cR ps], .st [li cI lo, li cI va], .int .i64 p, .int .i64 e] (fun c => l3Ready_enc (l3Ready_sel init ps lo va p e c)) := by
  refine PureR.of_walk Try.func227 rfl (by simp [Try.f227]) (fun c => by simp [-List.drop_one, go_sem]) fun B hK => ?_
  obtain ⟨k1, k2, k3, k4⟩ := hE; have hO := hS.edge ⟨k1, k2, k3, k4⟩; have hW := hO.2.2.2.2.2.1.well; obtain ⟨t1, t2⟩ := hT; have kp : p.toNat < ps.length := (by omega); have ke : e.toNat < (nth ps p.toNat).es.length := (by omega)
  all_goals (repeat' (first
    | refine AW_seq ?_
    | refine AW_region (id := 0) Γe14_ok [] (by kernel_rfl) ?_; simp  [-List.getD_eq_getElem?_getD, -List.drop_one, ↓splitB_true, ↓splitB_false, go_sem]; try (refine AW_data hK 4 ?_; refine AW_data hK 5 ?_; simp [go_sem])
    | refine AW_region (id := 1) Γe14_ok [] (by kernel_rfl) ?_; simp  [-List.getD_eq_getElem?_getD, -List.drop_one, ↓splitB_true, ↓splitB_false, go_sem, k1, k2, k3, k4, kp, ne_nil kp, Nat.sub_pos_of_lt kp, ke, ne_nil ke, Nat.sub_pos_of_lt ke]; try ((generalize hx : nth (nth ps p.toNat).es e.toNat = x at *); (refine AW_data hK 9 ?_); (simp [go_sem]))
    | refine AW_region_draw (id := 2) Γe14_ok mixed [27] [] (by kernel_rfl) (by kernel_rfl) (by simp [-List.getD_eq_getElem?_getD, -List.drop_one, ↓splitB_true, ↓splitB_false, go_sem, k1, (show p < (lo.length : Int) by omega), (show p.toNat < lo.length by omega), ne_nil (show p.toNat < lo.length by omega), Nat.sub_pos_of_lt (show p.toNat < lo.length by omega), Tree.eta, hW, t2]) ?_; simp  [-List.getD_eq_getElem?_getD, -List.drop_one, ↓splitB_true, ↓splitB_false, go_sem, k1, (show p < (lo.length : Int) by omega), (show p.toNat < lo.length by omega), ne_nil (show p.toNat < lo.length by omega), Nat.sub_pos_of_lt (show p.toNat < lo.length by omega), Tree.eta, hW, t2]; try (refine ⟨fun s2a => ?_, fun s2a => ?_⟩ <;> (try simp [B_iff, B_not] at s2a) <;> try (refine ⟨fun s2b => ?_, fun s2b => ?_⟩ <;> (try simp [B_iff, B_not] at s2b)))
    | (refine AW_block ?_)
    | (refine AW_exit ?_; simp [-List.getD_eq_getElem?_getD, -List.drop_one, ↓splitB_true, ↓splitB_false, go_sem])
    | (refine AW_skip ?_; simp [-List.getD_eq_getElem?_getD, -List.drop_one, ↓splitB_true, ↓splitB_false, go_sem])
    | (refine AW_ret ?_; try simp [-List.getD_eq_getElem?_getD, -List.drop_one, ↓splitB_true, ↓splitB_false, go_sem, Try.results227])
    | (intro hx; change AW _ _ _ _ _ _)
    | (intro hx; change retR _ _ _ _ _)
    | (refine ⟨?_, ?_⟩ <;> change AW _ _ _ _ _ _)
    | (intro hx; refine ⟨fun hs => ?_, fun hs => ?_⟩)
    | (refine ⟨fun hs => ?_, fun hs => ?_⟩)
    | (refine ⟨?_, fun hs => ?_⟩; change AW _ _ _ _ _ _)
    | (refine ⟨fun hs => ?_, ?_⟩; rotate_left; change AW _ _ _ _ _ _; rotate_left)))
  all_goals (first
    | (refine l3Ready_retE _ _ _ _ _ _ ?_ ?_; (first | exact Or.inl rfl | exact Or.inr rfl); (simp [-List.getD_eq_getElem?_getD, -List.drop_one, ↓splitB_true, ↓splitB_false, go_sem, Try.results227, l3Ready_good]); ((first | trivial | exact Classical.em _ | exact (Classical.em _).symm); done))
    | (refine l3Ready_retE _ _ _ _ _ _ ?_ ?_; (first | exact Or.inl rfl | exact Or.inr rfl); (simp [-List.getD_eq_getElem?_getD, -List.drop_one, ↓splitB_true, ↓splitB_false, go_sem, Try.results227, l3Ready_good]; done))
    | skip)
noncomputable def l3ReadyC : Con := .prel fun
  | [.st [.list n_init c_init, .list n_ps c_ps], .st [.list n_lo c_lo, .list n_va c_va], .int .i64 p, .int .i64 e] => ((Is cI n_init c_init) ∧ (Is cR n_ps c_ps) ∧ (Is cI n_lo c_lo) ∧ (Is cI n_va c_va) ∧ (SysOk (de cI c_init) (de cR c_ps)) ∧ (StF (de cR c_ps) (de cI c_lo) (de cI c_va)) ∧ (EdgeAt (de cR c_ps) p e), fun c => l3Ready_enc (l3Ready_sel (de cI c_init) (de cR c_ps) (de cI c_lo) (de cI c_va) p e c))
  | _ => (False, fun _ => .any)
attribute [go_sem] l3ReadyC
theorem l3ReadyC_ok : ConOk Try.prog 227 l3ReadyC := by
  refine ⟨callable Try.func227 (by decide) rfl, fun args h => ?_⟩
  revert h
  dsimp only
  split
  · intro h
    obtain ⟨⟨init, rfl, rfl⟩, ⟨ps, rfl, rfl⟩, ⟨lo, rfl, rfl⟩, ⟨va, rfl, rfl⟩, hS, hT, hE⟩ := h
    try simp only [de_cat] at *
    exact ⟨l3Ready_pure init ps lo va _ _ hS hT hE, fun c => by simp [go_sem]⟩
  · intro h
    exact h.elim
noncomputable def Γe15 : FuncId → Con := ext Γe14 227 l3ReadyC
attribute [go_sem] Γe15
theorem Γe15_ok : ∀ g, ConOk Try.prog g (Γe15 g) := ext_ok Γe14_ok l3ReadyC_ok

/-- A step that may be taken. -/
def StepF (ps : List Pr) (t : Tr4) : Prop := EdgeAt ps t.1 t.2.1 ∧ (0 ≤ t.2.2.1 → EdgeAt ps t.2.2.1 t.2.2.2)
def StepsF (ps : List Pr) (m : Nat) (xs : List Tr4) : Prop := xs.length ≤ m ∧ ∀ x ∈ xs, StepF ps x
theorem StepsF.snoc {ps : List Pr} {m n : Nat} {xs : List Tr4} {x : Tr4} (h : StepsF ps m xs) (k : StepF ps x) (hn : m + 1 ≤ n) : StepsF ps n (xs ++ [x]) := by
  refine ⟨by have := h.1; simp; omega, fun y hy => ?_⟩
  rcases List.mem_append.1 hy with q | q
  · exact h.2 y q
  · simp at q; subst q; exact k
theorem StepsF.app {ps : List Pr} {m m' n : Nat} {xs ys : List Tr4} (h : StepsF ps m xs) (k : StepsF ps m' ys) (hn : m + m' ≤ n) : StepsF ps n (xs ++ ys) := by
  refine ⟨by have := h.1; have := k.1; simp; omega, fun y hy => ?_⟩
  rcases List.mem_append.1 hy with q | q
  · exact h.2 y q
  · exact k.2 y q
theorem StepsF.mono {ps : List Pr} {m n : Nat} {xs : List Tr4} (h : StepsF ps m xs) (hn : m ≤ n) : StepsF ps n xs := ⟨Nat.le_trans h.1 hn, h.2⟩
theorem snoc_cT (xs : List Tr4) (a b c d : Int) : cat cT xs ++ [.int .i64 a, .int .i64 b, .int .i64 c, .int .i64 d] = cat cT (xs ++ [(a, b, c, d)]) := by rw [cat_append, cat_one]; rfl
theorem EdgeAt.mk' {ps : List Pr} {i k : Nat} (h : i < ps.length) (h2 : k < (nth ps i).es.length) : EdgeAt ps i k := ⟨by omega, by omega, by omega, by rw [Int.toNat_natCast]; omega⟩
set_option maxHeartbeats 1000000 in

noncomputable def l3Partners_enc : List Tr4 → D := fun x => fr 4 cT x
attribute [go_sem] l3Partners_enc
def l3Partners_good (init : List Int) (ps : List Pr) (lo : List Int) (va : List Int) (p : Int) (e : Int) : List Tr4 → Prop := fun xs => StepsF ps 18 xs
noncomputable def l3Partners_sel (init : List Int) (ps : List Pr) (lo : List Int) (va : List Int) (p : Int) (e : Int) (c : Any) : List Tr4 := sel (l3Partners_good init ps lo va p e) ([]) c
theorem l3Partners_ok (init : List Int) (ps : List Pr) (lo : List Int) (va : List Int) (p : Int) (e : Int) (hS : SysOk init ps) (hT : StF ps lo va) (hE : EdgeAt ps p e) (c : Any) : l3Partners_good init ps lo va p e (l3Partners_sel init ps lo va p e c) := sel_ok (p := l3Partners_good init ps lo va p e) (x0 := []) (by simp [l3Partners_good, StepsF]) c
theorem l3Partners_ret (init : List Int) (ps : List Pr) (lo : List Int) (va : List Int) (p : Int) (e : Int) {e_ : Exit} {S_ : St} (x : List Tr4) (he_ : e_ = .ret ∨ e_ = .normal)
    (h1 : (takeRes Try.prog S_ Try.f228.results.toList).1 ∧ resD (takeRes Try.prog S_ Try.f228.results.toList).2.1 = l3Partners_enc x) (hg : l3Partners_good init ps lo va p e x) :
    retR Try.prog Try.f228 (fun c => (l3Partners_enc (l3Partners_sel init ps lo va p e c), fun _ => none)) e_ S_ := ret_prel (enc := l3Partners_enc) x he_ h1 hg
theorem l3Partners_retE (init : List Int) (ps : List Pr) (lo : List Int) (va : List Int) (p : Int) (e : Int) {e_ : Exit} {S_ : St} (he_ : e_ = .ret ∨ e_ = .normal)
    (h : ∃ x, (takeRes Try.prog S_ Try.f228.results.toList).1 ∧ resD (takeRes Try.prog S_ Try.f228.results.toList).2.1 = l3Partners_enc x ∧ l3Partners_good init ps lo va p e x) :
    retR Try.prog Try.f228 (fun c => (l3Partners_enc (l3Partners_sel init ps lo va p e c), fun _ => none)) e_ S_ := by
  obtain ⟨x, h1, h2, h3⟩ := h
  exact l3Partners_ret _ _ _ _ _ _ x he_ ⟨h1, h2⟩ h3
theorem l3Partners_pure (init : List Int) (ps : List Pr) (lo : List Int) (va : List Int) (p : Int) (e : Int) (hS : SysOk init ps) (hT : StF ps lo va) (hE : EdgeAt ps p e) : PureR Try.prog 228 [.st [li cI init, li cR ps], .st [li cI lo, li cI va], .int .i64 p, .int .i64 e] (fun c => l3Partners_enc (l3Partners_sel init ps lo va p e c)) := by
  refine PureR.of_walk Try.func228 rfl (by simp [Try.f228]) (fun c => by simp [-List.drop_one, go_sem]) fun B hK => ?_
  obtain ⟨k1, k2, k3, k4⟩ := hE; have kp : p.toNat < ps.length := (by omega); have ke : e.toNat < (nth ps p.toNat).es.length := (by omega); have hp3 := hS.2.2.1; have he6 : ∀ i, i < ps.length → (nth ps i).es.length ≤ 6 := (fun i hi => (hS.2.2.2 i hi).2.2.1)
  all_goals (repeat' (first
    | refine AW_seq ?_
    | refine AW_region (id := 0) Γe15_ok [] (by kernel_rfl) ?_; simp  [-List.getD_eq_getElem?_getD, -List.drop_one, ↓splitB_true, ↓splitB_false, go_sem]; try (refine AW_data hK 4 ?_; refine AW_data hK 5 ?_; simp [go_sem])
    | refine AW_region (id := 1) Γe15_ok [] (by kernel_rfl) ?_; simp  [-List.getD_eq_getElem?_getD, -List.drop_one, ↓splitB_true, ↓splitB_false, go_sem]
    | refine AW_region (id := 2) Γe15_ok [] (by kernel_rfl) ?_; simp  [-List.getD_eq_getElem?_getD, -List.drop_one, ↓splitB_true, ↓splitB_false, go_sem, k1, k2, k3, k4, kp, ne_nil kp, Nat.sub_pos_of_lt kp, ke, ne_nil ke, Nat.sub_pos_of_lt ke]; try ((generalize (nth (nth ps p.toNat).es e.toNat).sy = chn))
    | refine AW_region (id := 3) Γe15_ok [] (by kernel_rfl) ?_; simp  [-List.getD_eq_getElem?_getD, -List.drop_one, ↓splitB_true, ↓splitB_false, go_sem]
    | refine AW_region (id := 4) Γe15_ok [] (by kernel_rfl) ?_; simp  [-List.getD_eq_getElem?_getD, -List.drop_one, ↓splitB_true, ↓splitB_false, go_sem]
    | refine AW_region (id := 6) Γe15_ok [] (by kernel_rfl) ?_; simp  [-List.getD_eq_getElem?_getD, -List.drop_one, ↓splitB_true, ↓splitB_false, go_sem]
    | refine AW_region (id := 7) Γe15_ok [] (by kernel_rfl) ?_; simp  [-List.getD_eq_getElem?_getD, -List.drop_one, ↓splitB_true, ↓splitB_false, go_sem, c28, ne_nil c28, Nat.sub_pos_of_lt c28]
    | (have hEA := EdgeAt.mk' c28 c39); refine AW_region (id := 9) Γe15_ok [45, 60] (by kernel_rfl) ?_; simp  [-List.getD_eq_getElem?_getD, -List.drop_one, ↓splitB_true, ↓splitB_false, go_sem, c28, ne_nil c28, Nat.sub_pos_of_lt c28, c39, ne_nil c39, Nat.sub_pos_of_lt c39, hS, hT, hEA]; try (refine ⟨fun s9a => ?_, fun s9a => ?_⟩ <;> (try simp [B_iff, B_not] at s9a) <;> try (refine ⟨fun s9b => ?_, fun s9b => ?_⟩ <;> (try simp [B_iff, B_not] at s9b) <;> try (refine ⟨fun s9c => ?_, fun s9c => ?_⟩ <;> (try simp [B_iff, B_not] at s9c))))
    | refine AW_region (id := 10) Γe15_ok [] (by kernel_rfl) ?_; simp  [-List.getD_eq_getElem?_getD, -List.drop_one, ↓splitB_true, ↓splitB_false, go_sem, (show r.2.length + 1 ≤ 9223372036854775807 by omega), (show 2 * (r.2.length + 1) * 32 ≤ 281474976710656 by omega), snoc_cT]
    | refine AW_region (id := 8) Γe15_ok [] (by kernel_rfl) ?_; simp  [-List.getD_eq_getElem?_getD, -List.drop_one, ↓splitB_true, ↓splitB_false, go_sem, wrapS (k := r.1) (by omega)]
    | refine AW_region (id := 5) Γe15_ok [] (by kernel_rfl) ?_; simp  [-List.getD_eq_getElem?_getD, -List.drop_one, ↓splitB_true, ↓splitB_false, go_sem, wrapS (k := q.1) (by omega)]
    | refine AW_region (id := 11) Γe15_ok [] (by kernel_rfl) ?_; simp  [-List.getD_eq_getElem?_getD, -List.drop_one, ↓splitB_true, ↓splitB_false, go_sem]
    | refine AW_condA (c := .tmp 28) ?_; simp [-List.getD_eq_getElem?_getD, -List.drop_one, ↓splitB_true, ↓splitB_false, go_sem]; try first | (refine ⟨?_, ?_⟩ <;> change AW _ _ _ _ _ _) | (refine ⟨fun c28 => ?_, fun c28 => ?_⟩ <;> (try simp [B_iff, B_not] at c28))
    | refine AW_condA (c := .tmp 39) ?_; simp [-List.getD_eq_getElem?_getD, -List.drop_one, ↓splitB_true, ↓splitB_false, go_sem]; try first | (refine ⟨?_, ?_⟩ <;> change AW _ _ _ _ _ _) | (refine ⟨fun c39 => ?_, fun c39 => ?_⟩ <;> (try simp [B_iff, B_not] at c39))
    | refine AW_condA (c := .tmp 66) ?_; simp [-List.getD_eq_getElem?_getD, -List.drop_one, ↓splitB_true, ↓splitB_false, go_sem]; try first | (refine ⟨?_, ?_⟩ <;> change AW _ _ _ _ _ _) | (refine ⟨fun c66 => ?_, fun c66 => ?_⟩ <;> (try simp [B_iff, B_not] at c66))
    | (refine AW_block (id := 0) (AW_loop (ι := Nat × List Tr4) (fun q : Nat × List Tr4 => ⟨(upd (upd (upd (upd (upd (upd (upd (fun _ => .any) 2 (.int .i64 p)) 3 (.int .i64 e)) 4 (.pd [li cI init, li cR ps])) 5 (.pd [li cI lo, li cI va])) 9 (.fr 4 q.2.length (cat cT q.2))) 10 (.int .i64 chn)) 11 (.int .i64 q.1)), fun _ => none⟩) (fun q => q.1 ≤ ps.length ∧ StepsF ps (6 * q.1) q.2) (fun q => ps.length - q.1) ((0, [])) ?_ ?_ ?_); exact ⟨Nat.zero_le _, by simp [StepsF]⟩; ((repeat' (first | exact sub_noneH (by assumption) | exact sub_none | refine sub_upd ?_ ?_ | refine sub_noneE ?_)) <;> simp [-List.getD_eq_getElem?_getD, -List.drop_one, ↓splitB_true, ↓splitB_false, go_sem, cat]); rintro q ⟨g1, g2⟩)
    | (refine ⟨(q.1 + 1, r.2), ⟨by dsimp only; omega, r2.mono (by dsimp only; omega)⟩, by first | omega | (simp; done) | (simp; omega), ?_⟩; ((repeat' (first | exact sub_noneH (by assumption) | exact sub_none | refine sub_upd ?_ ?_ | refine sub_noneE ?_)) <;> simp [-List.getD_eq_getElem?_getD, -List.drop_one, ↓splitB_true, ↓splitB_false, go_sem, cat]); done)
    | (refine AW_block (id := 2) (AW_loop (ι := Nat × List Tr4) (fun r : Nat × List Tr4 => ⟨(upd (upd (upd (upd (upd (upd (upd (upd (fun _ => .any) 2 (.int .i64 p)) 3 (.int .i64 e)) 4 (.pd [li cI init, li cR ps])) 5 (.pd [li cI lo, li cI va])) 9 (.fr 4 r.2.length (cat cT r.2))) 10 (.int .i64 chn)) 11 (.int .i64 q.1)) 12 (.int .i64 r.1)), fun _ => none⟩) (fun r => r.1 ≤ (nth ps q.1).es.length ∧ StepsF ps (6 * q.1 + r.1) r.2) (fun r => (nth ps q.1).es.length - r.1) ((0, q.2)) ?_ ?_ ?_); exact ⟨Nat.zero_le _, g2⟩; ((repeat' (first | exact sub_noneH (by assumption) | exact sub_none | refine sub_upd ?_ ?_ | refine sub_noneE ?_)) <;> simp [-List.getD_eq_getElem?_getD, -List.drop_one, ↓splitB_true, ↓splitB_false, go_sem, cat]); rintro r ⟨r1, r2⟩; have r3 := he6 q.1 c28; have r4 := r2.1)
    | (refine ⟨(r.1 + 1, r.2 ++ [((p, e, (q.1 : Int), (r.1 : Int)) : Tr4)]), ⟨by dsimp only; omega, r2.snoc ⟨⟨k1, k2, k3, k4⟩, fun _ => EdgeAt.mk' c28 c39⟩ (by dsimp only; omega)⟩, by first | omega | (simp; done) | (simp; omega), ?_⟩; ((repeat' (first | exact sub_noneH (by assumption) | exact sub_none | refine sub_upd ?_ ?_ | refine sub_noneE ?_)) <;> simp [-List.getD_eq_getElem?_getD, -List.drop_one, ↓splitB_true, ↓splitB_false, go_sem, snoc_cT]); done)
    | (refine AW_block ?_)
    | (refine AW_exit ?_; simp [-List.getD_eq_getElem?_getD, -List.drop_one, ↓splitB_true, ↓splitB_false, go_sem])
    | (refine AW_skip ?_; simp [-List.getD_eq_getElem?_getD, -List.drop_one, ↓splitB_true, ↓splitB_false, go_sem])
    | (refine AW_ret ?_; try simp [-List.getD_eq_getElem?_getD, -List.drop_one, ↓splitB_true, ↓splitB_false, go_sem, Try.results228])
    | (intro hx; change AW _ _ _ _ _ _)
    | (intro hx; change retR _ _ _ _ _)
    | (refine ⟨?_, ?_⟩ <;> change AW _ _ _ _ _ _)
    | (intro hx; refine ⟨fun hs => ?_, fun hs => ?_⟩)
    | (refine ⟨fun hs => ?_, fun hs => ?_⟩)
    | (refine ⟨?_, fun hs => ?_⟩; change AW _ _ _ _ _ _)
    | (refine ⟨fun hs => ?_, ?_⟩; rotate_left; change AW _ _ _ _ _ _; rotate_left)
    | ((fail_if_success change retR _ _ _ _ _); (refine ⟨(r.1 + 1, r.2), ⟨by dsimp only; omega, r2.mono (by dsimp only; omega)⟩, by dsimp only; omega, ?_⟩; ((repeat' (first | exact sub_noneH (by assumption) | exact sub_none | refine sub_upd ?_ ?_ | refine sub_noneE ?_)) <;> simp [-List.getD_eq_getElem?_getD, -List.drop_one, go_sem])))))
  all_goals (first
    | (refine l3Partners_ret _ _ _ _ _ _ ((q.2)) ?_ ?_ ?_; (first | exact Or.inl rfl | exact Or.inr rfl); (focus (simp [-List.getD_eq_getElem?_getD, -List.drop_one, ↓splitB_true, ↓splitB_false, go_sem, Try.results228]; done)); (focus ((exact g2.mono (by omega)); done)))
    | skip)
noncomputable def l3PartnersC : Con := .prel fun
  | [.st [.list n_init c_init, .list n_ps c_ps], .st [.list n_lo c_lo, .list n_va c_va], .int .i64 p, .int .i64 e] => ((Is cI n_init c_init) ∧ (Is cR n_ps c_ps) ∧ (Is cI n_lo c_lo) ∧ (Is cI n_va c_va) ∧ (SysOk (de cI c_init) (de cR c_ps)) ∧ (StF (de cR c_ps) (de cI c_lo) (de cI c_va)) ∧ (EdgeAt (de cR c_ps) p e), fun c => l3Partners_enc (l3Partners_sel (de cI c_init) (de cR c_ps) (de cI c_lo) (de cI c_va) p e c))
  | _ => (False, fun _ => .any)
attribute [go_sem] l3PartnersC
theorem l3PartnersC_ok : ConOk Try.prog 228 l3PartnersC := by
  refine ⟨callable Try.func228 (by decide) rfl, fun args h => ?_⟩
  revert h
  dsimp only
  split
  · intro h
    obtain ⟨⟨init, rfl, rfl⟩, ⟨ps, rfl, rfl⟩, ⟨lo, rfl, rfl⟩, ⟨va, rfl, rfl⟩, hS, hT, hE⟩ := h
    try simp only [de_cat] at *
    exact ⟨l3Partners_pure init ps lo va _ _ hS hT hE, fun c => by simp [go_sem]⟩
  · intro h
    exact h.elim
noncomputable def Γe16 : FuncId → Con := ext Γe15 228 l3PartnersC
attribute [go_sem] Γe16
theorem Γe16_ok : ∀ g, ConOk Try.prog g (Γe16 g) := ext_ok Γe15_ok l3PartnersC_ok

end Go.Proofs.Ytoklpofekcclhaa.Vm


/-
  Systems: all steps; a step taken. No conditions.
-/
namespace Go.Proofs.Ytoklpofekcclhaa.Vm
open Go
set_option linter.unusedVariables false
set_option linter.unusedSimpArgs false
set_option maxRecDepth 200000

set_option maxHeartbeats 1000000 in

noncomputable def l3Steps_enc : List Tr4 → D := fun x => fr 4 cT x
attribute [go_sem] l3Steps_enc
def l3Steps_good (init : List Int) (ps : List Pr) (lo : List Int) (va : List Int) : List Tr4 → Prop := fun xs => StepsF ps 324 xs
noncomputable def l3Steps_sel (init : List Int) (ps : List Pr) (lo : List Int) (va : List Int) (c : Any) : List Tr4 := sel (l3Steps_good init ps lo va) ([]) c
theorem l3Steps_ok (init : List Int) (ps : List Pr) (lo : List Int) (va : List Int) (hS : SysOk init ps) (hT : StF ps lo va) (c : Any) : l3Steps_good init ps lo va (l3Steps_sel init ps lo va c) := sel_ok (p := l3Steps_good init ps lo va) (x0 := []) (by simp [l3Steps_good, StepsF]) c
theorem l3Steps_ret (init : List Int) (ps : List Pr) (lo : List Int) (va : List Int) {e_ : Exit} {S_ : St} (x : List Tr4) (he_ : e_ = .ret ∨ e_ = .normal)
    (h1 : (takeRes Try.prog S_ Try.f210.results.toList).1 ∧ resD (takeRes Try.prog S_ Try.f210.results.toList).2.1 = l3Steps_enc x) (hg : l3Steps_good init ps lo va x) :
    retR Try.prog Try.f210 (fun c => (l3Steps_enc (l3Steps_sel init ps lo va c), fun _ => none)) e_ S_ := ret_prel (enc := l3Steps_enc) x he_ h1 hg
theorem l3Steps_retE (init : List Int) (ps : List Pr) (lo : List Int) (va : List Int) {e_ : Exit} {S_ : St} (he_ : e_ = .ret ∨ e_ = .normal)
    (h : ∃ x, (takeRes Try.prog S_ Try.f210.results.toList).1 ∧ resD (takeRes Try.prog S_ Try.f210.results.toList).2.1 = l3Steps_enc x ∧ l3Steps_good init ps lo va x) :
    retR Try.prog Try.f210 (fun c => (l3Steps_enc (l3Steps_sel init ps lo va c), fun _ => none)) e_ S_ := by
  obtain ⟨x, h1, h2, h3⟩ := h
  exact l3Steps_ret _ _ _ _ x he_ ⟨h1, h2⟩ h3
theorem l3Steps_pure (init : List Int) (ps : List Pr) (lo : List Int) (va : List Int) (hS : SysOk init ps) (hT : StF ps lo va) : PureR Try.prog 210 [.st [li cI init, li cR ps], .st [li cI lo, li cI va]] (fun c => l3Steps_enc (l3Steps_sel init ps lo va c)) := by
  refine PureR.of_walk Try.func210 rfl (by simp [Try.f210]) (fun c => by simp [-List.drop_one, go_sem]) fun B hK => ?_
  have hp3 := hS.2.2.1; have he6 : ∀ i, i < ps.length → (nth ps i).es.length ≤ 6 := (fun i hi => (hS.2.2.2 i hi).2.2.1)
  all_goals (repeat' (first
    | refine AW_seq ?_
    | refine AW_region (id := 0) Γe16_ok [] (by kernel_rfl) ?_; simp  [-List.getD_eq_getElem?_getD, -List.drop_one, ↓splitB_true, ↓splitB_false, go_sem]; try (refine AW_data hK 2 ?_; refine AW_data hK 3 ?_; simp [go_sem])
    | refine AW_region (id := 1) Γe16_ok [] (by kernel_rfl) ?_; simp  [-List.getD_eq_getElem?_getD, -List.drop_one, ↓splitB_true, ↓splitB_false, go_sem]
    | refine AW_region (id := 2) Γe16_ok [] (by kernel_rfl) ?_; simp  [-List.getD_eq_getElem?_getD, -List.drop_one, ↓splitB_true, ↓splitB_false, go_sem]
    | refine AW_region (id := 3) Γe16_ok [] (by kernel_rfl) ?_; simp  [-List.getD_eq_getElem?_getD, -List.drop_one, ↓splitB_true, ↓splitB_false, go_sem]
    | refine AW_region (id := 5) Γe16_ok [] (by kernel_rfl) ?_; simp  [-List.getD_eq_getElem?_getD, -List.drop_one, ↓splitB_true, ↓splitB_false, go_sem]
    | refine AW_region (id := 6) Γe16_ok [] (by kernel_rfl) ?_; simp  [-List.getD_eq_getElem?_getD, -List.drop_one, ↓splitB_true, ↓splitB_false, go_sem, c14, ne_nil c14, Nat.sub_pos_of_lt c14]
    | (have hEA := EdgeAt.mk' c14 c25); refine AW_region (id := 8) Γe16_ok [] (by kernel_rfl) ?_; simp  [-List.getD_eq_getElem?_getD, -List.drop_one, ↓splitB_true, ↓splitB_false, go_sem, c14, ne_nil c14, Nat.sub_pos_of_lt c14, c25, ne_nil c25, Nat.sub_pos_of_lt c25]; try ((generalize (nth (nth ps q.1).es r.1).sy = sy))
    | refine AW_region (id := 9) Γe16_ok [40] (by kernel_rfl) ?_; simp  [-List.getD_eq_getElem?_getD, -List.drop_one, ↓splitB_true, ↓splitB_false, go_sem, hS, hT, hEA]; try (refine ⟨fun s9a => ?_, fun s9a => ?_⟩ <;> (try simp [B_iff, B_not] at s9a) <;> try (refine ⟨fun s9b => ?_, fun s9b => ?_⟩ <;> (try simp [B_iff, B_not] at s9b)))
    | refine AW_region (id := 10) Γe16_ok [] (by kernel_rfl) ?_; simp  [-List.getD_eq_getElem?_getD, -List.drop_one, ↓splitB_true, ↓splitB_false, go_sem]
    | refine AW_region (id := 11) Γe16_ok [] (by kernel_rfl) ?_; simp  [-List.getD_eq_getElem?_getD, -List.drop_one, ↓splitB_true, ↓splitB_false, go_sem, (show r.2.length + 1 ≤ 9223372036854775807 by omega), (show 2 * (r.2.length + 1) * 32 ≤ 281474976710656 by omega), snoc_cT]
    | (have hql := l3Partners_ok init ps lo va q.1 r.1 hS hT hEA); refine AW_region (id := 12) Γe16_ok [] (by kernel_rfl) ?_; simp  [-List.getD_eq_getElem?_getD, -List.drop_one, ↓splitB_true, ↓splitB_false, go_sem, hS, hT, hEA, (fun c => (show (l3Partners_sel init ps lo va q.1 r.1 c).length ≤ 18 from (hql c).1)), (fun c => (show r.2.length + (l3Partners_sel init ps lo va q.1 r.1 c).length ≤ 9223372036854775807 by have := (hql c).1; omega)), (fun c => (show 2 * (r.2.length + (l3Partners_sel init ps lo va q.1 r.1 c).length) * 32 ≤ 281474976710656 by have := (hql c).1; omega))]; try (intro c12; have h12 := hql c12; (generalize l3Partners_sel init ps lo va q.1 r.1 c12 = z12 at *); (simp only [l3Partners_good] at h12))
    | refine AW_region (id := 7) Γe16_ok [] (by kernel_rfl) ?_; simp  [-List.getD_eq_getElem?_getD, -List.drop_one, ↓splitB_true, ↓splitB_false, go_sem, wrapS (k := r.1) (by omega)]
    | refine AW_region (id := 4) Γe16_ok [] (by kernel_rfl) ?_; simp  [-List.getD_eq_getElem?_getD, -List.drop_one, ↓splitB_true, ↓splitB_false, go_sem, wrapS (k := q.1) (by omega)]
    | refine AW_region (id := 13) Γe16_ok [] (by kernel_rfl) ?_; simp  [-List.getD_eq_getElem?_getD, -List.drop_one, ↓splitB_true, ↓splitB_false, go_sem]
    | refine AW_condA (c := .tmp 14) ?_; simp [-List.getD_eq_getElem?_getD, -List.drop_one, ↓splitB_true, ↓splitB_false, go_sem]; try first | (refine ⟨?_, ?_⟩ <;> change AW _ _ _ _ _ _) | (refine ⟨fun c14 => ?_, fun c14 => ?_⟩ <;> (try simp [B_iff, B_not] at c14))
    | refine AW_condA (c := .tmp 25) ?_; simp [-List.getD_eq_getElem?_getD, -List.drop_one, ↓splitB_true, ↓splitB_false, go_sem]; try first | (refine ⟨?_, ?_⟩ <;> change AW _ _ _ _ _ _) | (refine ⟨fun c25 => ?_, fun c25 => ?_⟩ <;> (try simp [B_iff, B_not] at c25))
    | refine AW_condA (c := .tmp 47) ?_; simp [-List.getD_eq_getElem?_getD, -List.drop_one, ↓splitB_true, ↓splitB_false, go_sem]; try first | (refine ⟨?_, ?_⟩ <;> change AW _ _ _ _ _ _) | (refine ⟨fun c47 => ?_, fun c47 => ?_⟩ <;> (try simp [B_iff, B_not] at c47))
    | refine AW_condA (c := .tmp 49) ?_; simp [-List.getD_eq_getElem?_getD, -List.drop_one, ↓splitB_true, ↓splitB_false, go_sem]; try first | (refine ⟨?_, ?_⟩ <;> change AW _ _ _ _ _ _) | (refine ⟨fun c49 => ?_, fun c49 => ?_⟩ <;> (try simp [B_iff, B_not] at c49))
    | (refine AW_block (id := 0) (AW_loop (ι := Nat × List Tr4) (fun q : Nat × List Tr4 => ⟨(upd (upd (upd (upd (fun _ => .any) 2 (.pd [li cI init, li cR ps])) 3 (.pd [li cI lo, li cI va])) 5 (.fr 4 q.2.length (cat cT q.2))) 6 (.int .i64 q.1)), fun _ => none⟩) (fun q => q.1 ≤ ps.length ∧ StepsF ps (108 * q.1) q.2) (fun q => ps.length - q.1) ((0, [])) ?_ ?_ ?_); exact ⟨Nat.zero_le _, by simp [StepsF]⟩; ((repeat' (first | exact sub_noneH (by assumption) | exact sub_none | refine sub_upd ?_ ?_ | refine sub_noneE ?_)) <;> simp [-List.getD_eq_getElem?_getD, -List.drop_one, ↓splitB_true, ↓splitB_false, go_sem, cat]); rintro q ⟨g1, g2⟩)
    | (refine ⟨(q.1 + 1, r.2), ⟨by dsimp only; omega, r2.mono (by dsimp only; omega)⟩, by first | omega | (simp; done) | (simp; omega), ?_⟩; ((repeat' (first | exact sub_noneH (by assumption) | exact sub_none | refine sub_upd ?_ ?_ | refine sub_noneE ?_)) <;> simp [-List.getD_eq_getElem?_getD, -List.drop_one, ↓splitB_true, ↓splitB_false, go_sem, cat]); done)
    | (refine AW_block (id := 2) (AW_loop (ι := Nat × List Tr4) (fun r : Nat × List Tr4 => ⟨(upd (upd (upd (upd (upd (fun _ => .any) 2 (.pd [li cI init, li cR ps])) 3 (.pd [li cI lo, li cI va])) 5 (.fr 4 r.2.length (cat cT r.2))) 6 (.int .i64 q.1)) 7 (.int .i64 r.1)), fun _ => none⟩) (fun r => r.1 ≤ (nth ps q.1).es.length ∧ StepsF ps (108 * q.1 + 18 * r.1) r.2) (fun r => (nth ps q.1).es.length - r.1) ((0, q.2)) ?_ ?_ ?_); exact ⟨Nat.zero_le _, g2⟩; ((repeat' (first | exact sub_noneH (by assumption) | exact sub_none | refine sub_upd ?_ ?_ | refine sub_noneE ?_)) <;> simp [-List.getD_eq_getElem?_getD, -List.drop_one, ↓splitB_true, ↓splitB_false, go_sem, cat]); rintro r ⟨r1, r2⟩; have r3 := he6 q.1 c14; have r4 := r2.1)
    | (refine ⟨(r.1 + 1, r.2 ++ z12), ⟨by dsimp only; omega, r2.app h12 (by dsimp only; omega)⟩, by first | omega | (simp; done) | (simp; omega), ?_⟩; ((repeat' (first | exact sub_noneH (by assumption) | exact sub_none | refine sub_upd ?_ ?_ | refine sub_noneE ?_)) <;> simp [-List.getD_eq_getElem?_getD, -List.drop_one, ↓splitB_true, ↓splitB_false, go_sem, cat_append]); done)
    | (refine AW_block ?_)
    | (refine AW_exit ?_; simp [-List.getD_eq_getElem?_getD, -List.drop_one, ↓splitB_true, ↓splitB_false, go_sem])
    | (refine AW_skip ?_; simp [-List.getD_eq_getElem?_getD, -List.drop_one, ↓splitB_true, ↓splitB_false, go_sem])
    | (refine AW_ret ?_; try simp [-List.getD_eq_getElem?_getD, -List.drop_one, ↓splitB_true, ↓splitB_false, go_sem, Try.results210])
    | (intro hx; change AW _ _ _ _ _ _)
    | (intro hx; change retR _ _ _ _ _)
    | (refine ⟨?_, ?_⟩ <;> change AW _ _ _ _ _ _)
    | (intro hx; refine ⟨fun hs => ?_, fun hs => ?_⟩)
    | (refine ⟨fun hs => ?_, fun hs => ?_⟩)
    | (refine ⟨?_, fun hs => ?_⟩; change AW _ _ _ _ _ _)
    | (refine ⟨fun hs => ?_, ?_⟩; rotate_left; change AW _ _ _ _ _ _; rotate_left)
    | ((fail_if_success change retR _ _ _ _ _); (refine ⟨(r.1 + 1, r.2 ++ [(((q.1 : Int), (r.1 : Int), -1, -1) : Tr4)]), ⟨by dsimp only; omega, r2.snoc ⟨hEA, fun h => by simp at h⟩ (by dsimp only; omega)⟩, by dsimp only; omega, ?_⟩; ((repeat' (first | exact sub_noneH (by assumption) | exact sub_none | refine sub_upd ?_ ?_ | refine sub_noneE ?_)) <;> simp [-List.getD_eq_getElem?_getD, -List.drop_one, go_sem]); done))
    | ((fail_if_success change retR _ _ _ _ _); (refine ⟨(r.1 + 1, r.2), ⟨by dsimp only; omega, r2.mono (by dsimp only; omega)⟩, by dsimp only; omega, ?_⟩; ((repeat' (first | exact sub_noneH (by assumption) | exact sub_none | refine sub_upd ?_ ?_ | refine sub_noneE ?_)) <;> simp [-List.getD_eq_getElem?_getD, -List.drop_one, go_sem])))))
  all_goals (first
    | (refine l3Steps_ret _ _ _ _ ((q.2)) ?_ ?_ ?_; (first | exact Or.inl rfl | exact Or.inr rfl); (focus (simp [-List.getD_eq_getElem?_getD, -List.drop_one, ↓splitB_true, ↓splitB_false, go_sem, Try.results210]; done)); (focus ((exact g2.mono (by omega)); done)))
    | skip)
noncomputable def l3StepsC : Con := .prel fun
  | [.st [.list n_init c_init, .list n_ps c_ps], .st [.list n_lo c_lo, .list n_va c_va]] => ((Is cI n_init c_init) ∧ (Is cR n_ps c_ps) ∧ (Is cI n_lo c_lo) ∧ (Is cI n_va c_va) ∧ (SysOk (de cI c_init) (de cR c_ps)) ∧ (StF (de cR c_ps) (de cI c_lo) (de cI c_va)), fun c => l3Steps_enc (l3Steps_sel (de cI c_init) (de cR c_ps) (de cI c_lo) (de cI c_va) c))
  | _ => (False, fun _ => .any)
attribute [go_sem] l3StepsC
theorem l3StepsC_ok : ConOk Try.prog 210 l3StepsC := by
  refine ⟨callable Try.func210 (by decide) rfl, fun args h => ?_⟩
  revert h
  dsimp only
  split
  · intro h
    obtain ⟨⟨init, rfl, rfl⟩, ⟨ps, rfl, rfl⟩, ⟨lo, rfl, rfl⟩, ⟨va, rfl, rfl⟩, hS, hT⟩ := h
    try simp only [de_cat] at *
    exact ⟨l3Steps_pure init ps lo va hS hT, fun c => by simp [go_sem]⟩
  · intro h
    exact h.elim
noncomputable def Γe17 : FuncId → Con := ext Γe16 210 l3StepsC
attribute [go_sem] Γe17
theorem Γe17_ok : ∀ g, ConOk Try.prog g (Γe17 g) := ext_ok Γe16_ok l3StepsC_ok

theorem ValsOk.set {xs : List Int} (h : ValsOk xs) {k : Nat} {v : Int} (h0 : 0 ≤ v) (h1 : v ≤ 3) : ValsOk (xs.set k v) := by
  refine ⟨by rw [List.length_set]; exact h.1, fun i hi => ?_⟩
  rw [List.length_set] at hi
  by_cases e : k = i
  · subst e; rw [nth_set_self hi]; exact ⟨h0, h1⟩
  · rw [nth_set_ne e]; exact h.2 i hi
theorem ret_own {P : Program} {fn : Func} {e : Exit} {S : St} {α : Type} {good : α → Prop} {x0 : α} {r : D} {K : α → Hp} (x : α) (he : e = .ret ∨ e = .normal)
    (h1 : (takeRes P S fn.results.toList).1 ∧ resD (takeRes P S fn.results.toList).2.1 = r) (h2 : ∀ z cs, K x z = some cs → (takeRes P S fn.results.toList).2.2.H z = some cs) (hg : good x) :
    retR P fn (fun c => (r, K (sel good x0 c))) e S := by
  have key : ∃ c : Any, (takeRes P S fn.results.toList).1 ∧ resD (takeRes P S fn.results.toList).2.1 = r ∧ ∀ z cs, K (sel good x0 c) z = some cs → (takeRes P S fn.results.toList).2.2.H z = some cs :=
    ⟨⟨α, x⟩, h1.1, h1.2, by rw [sel_at hg]; exact h2⟩
  rcases he with rfl | rfl
  · exact key
  · exact key
/-- An edge that may be taken. -/
def EdgeT (v : Int) (e : Tree) : Prop := v ≤ 2 ∧ (0 ≤ v → Well e)
theorem EdOk.take {x : Ed} {loc : Int} (h : EdOk x loc) : EdgeT x.v x.e := ⟨h.2.2.2.2.2.2.2.2.2.1, fun k => (h.2.2.2.2.2.2.2.2.2.2 k).well⟩
noncomputable def take_sel (va : List Int) (c : Any) : List Int := sel ValsOk va c
set_option maxHeartbeats 1000000 in
theorem l3Take_spec (lo va : List Int) (p fr0 to gk gv : Int) (gs : List Tree) (v ek ev : Int) (es : List Tree) (sy : Int) (x y c1 c2 : Nat) (j1 j2 : List D) (H : Hp) (h1 : H x = some (cat cI lo ++ j1)) (h2 : H y = some (cat cI va ++ j2)) (hne : ¬ x = y)
    (hp : 0 ≤ p) (hp2 : p < lo.length) (hv : ValsOk va) (hE : EdgeT v (.mk ek ev es)) :
    SpecR Try.prog 229 [.st [.sl x 1 0 lo.length c1, .sl y 1 0 va.length c2], .int .i64 p, .st [.int .i64 fr0, .int .i64 to, .int .i64 gk, .int .i64 gv, li cX gs, .int .i64 v, .int .i64 ek, .int .i64 ev, li cX es, .int .i64 sy]] H
      (fun c => (.st [.sl x 1 0 lo.length c1, .sl y 1 0 va.length c2], upd (upd H x (some (cat cI (lo.set p.toNat to) ++ j1))) y (some (cat cI (take_sel va c) ++ j2)))) := by
  refine SpecR.of_walk Try.func229 rfl (by simp [Try.f229]) fun B => ?_
  have hpl : p.toNat < lo.length := by omega
  have hvl := hv.1
  obtain ⟨hE1, hE2⟩ := hE
  (repeat' (first
    | refine AW_seq ?_
    | refine AW_region (id := 0) Γe17_ok [] (by kernel_rfl) ?_; simp  [-List.getD_eq_getElem?_getD, -List.drop_one, ↓splitB_true, ↓splitB_false, go_sem]; try ((refine AW_shut 5 ?_); (refine AW_matBox 3 rfl fun pb hpb => ?_); (have n1 : ¬ x = pb := (by rintro rfl; dsimp only at hpb; rw [h1] at hpb; cases hpb)); (have n2 : ¬ y = pb := (by rintro rfl; dsimp only at hpb; rw [h2] at hpb; cases hpb)); (dsimp only at hpb); (simp [go_sem]))
    | refine AW_region (id := 1) Γe17_ok [] (by kernel_rfl) ?_; simp  [-List.getD_eq_getElem?_getD, -List.drop_one, ↓splitB_true, ↓splitB_false, go_sem, h1, n1, Ne.symm n1, hp, hp2, hpl, (show p.toNat < lo.length + j1.length by omega), (show p.toNat + 1 ≤ lo.length + j1.length by omega)]
    | refine AW_region (id := 2) Γe17_ok [] (by kernel_rfl) ?_; simp  [-List.getD_eq_getElem?_getD, -List.drop_one, ↓splitB_true, ↓splitB_false, go_sem]
    | ((have hv0 : 0 ≤ v := (by simpa using c15)); (have hvt : v.toNat < va.length := (by omega)); have hW := hE2 hv0); refine AW_region_draw (id := 3) Γe17_ok mixed [] [5, 3] (by kernel_rfl) (by kernel_rfl) (by simp [-List.getD_eq_getElem?_getD, -List.drop_one, ↓splitB_true, ↓splitB_false, go_sem, h2, n1, n2, Ne.symm n1, Ne.symm n2, hne, Ne.symm hne, hv0, (show v < (va.length : Int) by omega), hvt, hW, hv, (show v.toNat < va.length + j2.length by omega), (show v.toNat + 1 ≤ va.length + j2.length by omega), cat_take_app1]) ?_; simp  [-List.getD_eq_getElem?_getD, -List.drop_one, ↓splitB_true, ↓splitB_false, go_sem, h2, n1, n2, Ne.symm n1, Ne.symm n2, hne, Ne.symm hne, hv0, (show v < (va.length : Int) by omega), hvt, hW, hv, (show v.toNat < va.length + j2.length by omega), (show v.toNat + 1 ≤ va.length + j2.length by omega), cat_take_app1]; try (intro c3; have hz := l1Eval_ok ek ev es va hW hv c3; (generalize l1Eval_sel ek ev es va c3 = z3 at *); (simp only [l1Eval_good] at hz))
    | refine AW_region (id := 4) Γe17_ok [] (by kernel_rfl) ?_; simp  [-List.getD_eq_getElem?_getD, -List.drop_one, ↓splitB_true, ↓splitB_false, go_sem, n1, n2, Ne.symm n1, Ne.symm n2, hne, Ne.symm hne]
    | refine AW_condA (c := .tmp 15) ?_; simp [-List.getD_eq_getElem?_getD, -List.drop_one, ↓splitB_true, ↓splitB_false, go_sem]; try first | (refine ⟨?_, ?_⟩ <;> change AW _ _ _ _ _ _) | (refine ⟨fun c15 => ?_, fun c15 => ?_⟩ <;> (try simp [B_iff, B_not] at c15))
    | (refine AW_block ?_)
    | (refine AW_exit ?_; simp [-List.getD_eq_getElem?_getD, -List.drop_one, ↓splitB_true, ↓splitB_false, go_sem])
    | (refine AW_skip ?_; simp [-List.getD_eq_getElem?_getD, -List.drop_one, ↓splitB_true, ↓splitB_false, go_sem])
    | (refine AW_ret ?_; simp [-List.getD_eq_getElem?_getD, -List.drop_one, ↓splitB_true, ↓splitB_false, go_sem, Try.results229])
    | (intro hx; change AW _ _ _ _ _ _)
    | (refine ⟨?_, ?_⟩ <;> change AW _ _ _ _ _ _)
    | (intro hx; refine ⟨fun hs => ?_, fun hs => ?_⟩)
    | (refine ⟨fun hs => ?_, fun hs => ?_⟩)
    | (refine ⟨?_, fun hs => ?_⟩; change AW _ _ _ _ _ _)
    | (refine ⟨fun hs => ?_, ?_⟩; rotate_left; change AW _ _ _ _ _ _; rotate_left)
    | (refine AW_ret ?_)))
  all_goals (first
    | (refine ret_own (good := ValsOk) (x0 := va) (K := fun q => upd (upd H x (some (cat cI (lo.set p.toNat to) ++ j1))) y (some (cat cI q ++ j2))) (va.set v.toNat z3) ?_ ?_ ?_ ?_; (first | exact Or.inl rfl | exact Or.inr rfl); (focus (simp [-List.getD_eq_getElem?_getD, -List.drop_one, go_sem, Try.results229]; done)); (focus (intro z cs hz; simp only [go_sem, Try.results229, Try.f229] at hz ⊢; (by_cases e1 : z = y <;> by_cases e2 : z = x <;> by_cases e3 : z = pb <;> simp_all [upd]); done)); (exact hv.set hz.1 hz.2))
    | (refine ret_own (good := ValsOk) (x0 := va) (K := fun q => upd (upd H x (some (cat cI (lo.set p.toNat to) ++ j1))) y (some (cat cI q ++ j2))) va ?_ ?_ ?_ ?_; (first | exact Or.inl rfl | exact Or.inr rfl); (focus (simp [-List.getD_eq_getElem?_getD, -List.drop_one, go_sem, Try.results229]; done)); (focus (intro z cs hz; simp only [go_sem, Try.results229, Try.f229] at hz ⊢; (by_cases e1 : z = y <;> by_cases e2 : z = x <;> by_cases e3 : z = pb <;> simp_all [upd]); done)); (exact hv))
    | skip)
end Go.Proofs.Ytoklpofekcclhaa.Vm


/-
  Systems: a step taken. No conditions.
-/
namespace Go.Proofs.Ytoklpofekcclhaa.Vm
open Go
set_option linter.unusedVariables false
set_option linter.unusedSimpArgs false
set_option maxRecDepth 200000

noncomputable def l3TakeC : Con := .rel fun args H => match args with
  | [.st [.sl x 1 0 n c1, .sl y 1 0 m c2], .int .i64 p, .st [.int .i64 fr0, .int .i64 to, .int .i64 gk, .int .i64 gv, .list ng cg, .int .i64 v, .int .i64 ek, .int .i64 ev, .list ne ce, .int .i64 sy]] =>
    match H x, H y with
    | some a1, some a2 => (¬ x = y ∧ n ≤ a1.length ∧ m ≤ a2.length ∧ Is cI n (a1.take n) ∧ Is cI m (a2.take m) ∧ Is cX ng cg ∧ Is cX ne ce ∧ 0 ≤ p ∧ p < n ∧ ValsOk (de cI (a2.take m)) ∧ EdgeT v (.mk ek ev (de cX ce)),
        fun c => (.st [.sl x 1 0 n c1, .sl y 1 0 m c2], upd (upd H x (some (cat cI ((de cI (a1.take n)).set p.toNat to) ++ a1.drop n))) y (some (cat cI (take_sel (de cI (a2.take m)) c) ++ a2.drop m))))
    | _, _ => (False, fun _ => (.any, H))
  | _ => (False, fun _ => (.any, H))
attribute [go_sem] l3TakeC
theorem l3TakeC_ok : ConOk Try.prog 229 l3TakeC := by
  refine ⟨callable Try.func229 (by decide) rfl, fun args H h => ?_⟩
  revert h
  dsimp only
  split
  · split
    · rename_i a1 a2 hH1 hH2
      rintro ⟨g0, g1, g2, ⟨xs, hn, he⟩, ⟨ys, hm, hf⟩, ⟨gs, rfl, rfl⟩, ⟨es, rfl, rfl⟩, g5, g6, g7, g8⟩
      subst hn hm
      have e1 : a1 = cat cI xs ++ a1.drop xs.length := by rw [← he, List.take_append_drop]
      have e2 : a2 = cat cI ys ++ a2.drop ys.length := by rw [← hf, List.take_append_drop]
      rw [hf, de_cat] at g7
      rw [de_cat] at g8
      simp only [he, hf, de_cat]
      rw [e1] at hH1
      rw [e2] at hH2
      exact l3Take_spec xs ys _ _ _ _ _ gs _ _ _ es _ _ _ _ _ _ _ H hH1 hH2 g0 g5 g6 g7 g8
    · intro h; exact h.elim
  · intro h
    exact h.elim
noncomputable def Γe18 : FuncId → Con := ext Γe17 229 l3TakeC
attribute [go_sem] Γe18
theorem Γe18_ok : ∀ g, ConOk Try.prog g (Γe18 g) := ext_ok Γe17_ok l3TakeC_ok
theorem take_ok {va : List Int} (h : ValsOk va) (c : Any) : ValsOk (take_sel va c) := sel_ok (p := ValsOk) h c

set_option maxHeartbeats 2000000 in

noncomputable def l3Apply_enc : List Int × List Int → D := fun x => .st [fr 1 cI x.1, fr 1 cI x.2]
attribute [go_sem] l3Apply_enc
def l3Apply_good (init : List Int) (ps : List Pr) (lo : List Int) (va : List Int) (s1 : Int) (s2 : Int) (s3 : Int) (s4 : Int) : List Int × List Int → Prop := fun x => StF ps x.1 x.2
noncomputable def l3Apply_sel (init : List Int) (ps : List Pr) (lo : List Int) (va : List Int) (s1 : Int) (s2 : Int) (s3 : Int) (s4 : Int) (c : Any) : List Int × List Int := sel (l3Apply_good init ps lo va s1 s2 s3 s4) ((lo, va)) c
theorem l3Apply_ok (init : List Int) (ps : List Pr) (lo : List Int) (va : List Int) (s1 : Int) (s2 : Int) (s3 : Int) (s4 : Int) (hS : SysOk init ps) (hT : StF ps lo va) (hP : StepF ps (s1, s2, s3, s4)) (c : Any) : l3Apply_good init ps lo va s1 s2 s3 s4 (l3Apply_sel init ps lo va s1 s2 s3 s4 c) := sel_ok (p := l3Apply_good init ps lo va s1 s2 s3 s4) (x0 := (lo, va)) (hT) c
theorem l3Apply_ret (init : List Int) (ps : List Pr) (lo : List Int) (va : List Int) (s1 : Int) (s2 : Int) (s3 : Int) (s4 : Int) {e_ : Exit} {S_ : St} (x : List Int × List Int) (he_ : e_ = .ret ∨ e_ = .normal)
    (h1 : (takeRes Try.prog S_ Try.f211.results.toList).1 ∧ resD (takeRes Try.prog S_ Try.f211.results.toList).2.1 = l3Apply_enc x) (hg : l3Apply_good init ps lo va s1 s2 s3 s4 x) :
    retR Try.prog Try.f211 (fun c => (l3Apply_enc (l3Apply_sel init ps lo va s1 s2 s3 s4 c), fun _ => none)) e_ S_ := ret_prel (enc := l3Apply_enc) x he_ h1 hg
theorem l3Apply_retE (init : List Int) (ps : List Pr) (lo : List Int) (va : List Int) (s1 : Int) (s2 : Int) (s3 : Int) (s4 : Int) {e_ : Exit} {S_ : St} (he_ : e_ = .ret ∨ e_ = .normal)
    (h : ∃ x, (takeRes Try.prog S_ Try.f211.results.toList).1 ∧ resD (takeRes Try.prog S_ Try.f211.results.toList).2.1 = l3Apply_enc x ∧ l3Apply_good init ps lo va s1 s2 s3 s4 x) :
    retR Try.prog Try.f211 (fun c => (l3Apply_enc (l3Apply_sel init ps lo va s1 s2 s3 s4 c), fun _ => none)) e_ S_ := by
  obtain ⟨x, h1, h2, h3⟩ := h
  exact l3Apply_ret _ _ _ _ _ _ _ _ x he_ ⟨h1, h2⟩ h3
theorem l3Apply_pure (init : List Int) (ps : List Pr) (lo : List Int) (va : List Int) (s1 : Int) (s2 : Int) (s3 : Int) (s4 : Int) (hS : SysOk init ps) (hT : StF ps lo va) (hP : StepF ps (s1, s2, s3, s4)) : PureR Try.prog 211 [.st [li cI init, li cR ps], .st [li cI lo, li cI va], .st [.int .i64 s1, .int .i64 s2, .int .i64 s3, .int .i64 s4]] (fun c => l3Apply_enc (l3Apply_sel init ps lo va s1 s2 s3 s4 c)) := by
  refine PureR.of_walk Try.func211 rfl (by simp [Try.f211]) (fun c => by simp [-List.drop_one, go_sem]) fun B hK => ?_
  obtain ⟨t1, t2⟩ := hT; obtain ⟨⟨p1, p2, p3, p4⟩, p5⟩ := hP; (dsimp only at p1 p2 p3 p4 p5); have hp3 := hS.2.2.1; have hvl := t2.1; have hE1 := (hS.edge ⟨p1, p2, p3, p4⟩).take; have kp : s1.toNat < ps.length := (by omega); have ke : s2.toNat < (nth ps s1.toNat).es.length := (by omega)
  all_goals (repeat' (first
    | refine AW_seq ?_
    | refine AW_region (id := 0) Γe18_ok [] (by kernel_rfl) ?_; simp  [-List.getD_eq_getElem?_getD, -List.drop_one, ↓splitB_true, ↓splitB_false, go_sem]; try (refine AW_data hK 3 ?_; refine AW_data hK 4 ?_; refine AW_data hK 5 ?_; simp [go_sem])
    | refine AW_region_draw (id := 1) Γe18_ok mixed [] [4] (by kernel_rfl) (by kernel_rfl) (by simp [-List.getD_eq_getElem?_getD, -List.drop_one, ↓splitB_true, ↓splitB_false, go_sem, (show lo.length ≤ 9223372036854775807 by omega), (show 2 * lo.length * 8 ≤ 281474976710656 by omega), (show va.length ≤ 9223372036854775807 by omega), (show 2 * va.length * 8 ≤ 281474976710656 by omega)]) ?_; simp  [-List.getD_eq_getElem?_getD, -List.drop_one, ↓splitB_true, ↓splitB_false, go_sem, (show lo.length ≤ 9223372036854775807 by omega), (show 2 * lo.length * 8 ≤ 281474976710656 by omega), (show va.length ≤ 9223372036854775807 by omega), (show 2 * va.length * 8 ≤ 281474976710656 by omega)]; try ((refine AW_box2z 7 rfl fun pb x y jx jy cx cy hpb hx hy n1 n2 n3 dx ex dy ey => ?_); (clear hpb hx hy); (simp [go_sem]))
    | refine AW_region_draw (id := 2) Γe18_ok mixed [] [5] (by kernel_rfl) (by kernel_rfl) (by simp [-List.getD_eq_getElem?_getD, -List.drop_one, ↓splitB_true, ↓splitB_false, go_sem, n1, n2, n3, Ne.symm n1, Ne.symm n2, Ne.symm n3, p1, p2, p3, p4, kp, ne_nil kp, Nat.sub_pos_of_lt kp, ke, ne_nil ke, Nat.sub_pos_of_lt ke, (show s1 < (lo.length : Int) by omega), t2, hE1, Tree.eta, cat_take_app1, (show lo.length ≤ lo.length + jx by omega), (show va.length ≤ va.length + jy by omega)]) ?_; simp  [-List.getD_eq_getElem?_getD, -List.drop_one, ↓splitB_true, ↓splitB_false, go_sem, n1, n2, n3, Ne.symm n1, Ne.symm n2, Ne.symm n3, p1, p2, p3, p4, kp, ne_nil kp, Nat.sub_pos_of_lt kp, ke, ne_nil ke, Nat.sub_pos_of_lt ke, (show s1 < (lo.length : Int) by omega), t2, hE1, Tree.eta, cat_take_app1, (show lo.length ≤ lo.length + jx by omega), (show va.length ≤ va.length + jy by omega)]; try (intro c2; have h2 := take_ok t2 c2; (generalize take_sel va c2 = va2 at *); have hv2 := h2.1)
    | refine AW_region (id := 3) Γe18_ok [] (by kernel_rfl) ?_; simp  [-List.getD_eq_getElem?_getD, -List.drop_one, ↓splitB_true, ↓splitB_false, go_sem]
    | ((obtain ⟨r1, r2, r3, r4⟩ := p5 (by simpa using c34)); have hE2 := (hS.edge ⟨r1, r2, r3, r4⟩).take; (have kr : s3.toNat < ps.length := (by omega)); (have kf : s4.toNat < (nth ps s3.toNat).es.length := (by omega)); (have hv3 : va2.length = va.length := (by omega))); refine AW_region_draw (id := 4) Γe18_ok mixed [] [5] (by kernel_rfl) (by kernel_rfl) (by simp [-List.getD_eq_getElem?_getD, -List.drop_one, ↓splitB_true, ↓splitB_false, go_sem, n1, n2, n3, Ne.symm n1, Ne.symm n2, Ne.symm n3, r1, r2, r3, r4, kr, ne_nil kr, Nat.sub_pos_of_lt kr, kf, ne_nil kf, Nat.sub_pos_of_lt kf, (show s3 < (lo.length : Int) by omega), h2, hE2, Tree.eta, hv3, cat_take_app1c (f := cI) va2 (List.replicate jy .any) (n := va.length) hv3.symm, cat_take_app1c (f := cI) (lo.set s1.toNat (nth (nth ps s1.toNat).es s2.toNat).to) (List.replicate jx .any) (n := lo.length) (by simp), (show lo.length ≤ lo.length + jx by omega), (show va.length ≤ va.length + jy by omega), (show va.length ≤ va2.length + jy by omega), (show ((List.set lo s1.toNat (nth (nth ps s1.toNat).es s2.toNat).to)).length = lo.length by simp)]) ?_; simp  [-List.getD_eq_getElem?_getD, -List.drop_one, ↓splitB_true, ↓splitB_false, go_sem, n1, n2, n3, Ne.symm n1, Ne.symm n2, Ne.symm n3, r1, r2, r3, r4, kr, ne_nil kr, Nat.sub_pos_of_lt kr, kf, ne_nil kf, Nat.sub_pos_of_lt kf, (show s3 < (lo.length : Int) by omega), h2, hE2, Tree.eta, hv3, cat_take_app1c (f := cI) va2 (List.replicate jy .any) (n := va.length) hv3.symm, cat_take_app1c (f := cI) (lo.set s1.toNat (nth (nth ps s1.toNat).es s2.toNat).to) (List.replicate jx .any) (n := lo.length) (by simp), (show lo.length ≤ lo.length + jx by omega), (show va.length ≤ va.length + jy by omega), (show va.length ≤ va2.length + jy by omega), (show ((List.set lo s1.toNat (nth (nth ps s1.toNat).es s2.toNat).to)).length = lo.length by simp)]; try (intro c4; have h4 := take_ok h2 c4; (generalize take_sel va2 c4 = va4 at *); have hv4 := h4.1)
    | (first | (refine AW_unmatCell pb 0 (b' := x) (sz := 1) (m := lo.length) (cp := cx) (all := [.sl x 1 0 lo.length cx, .sl y 1 0 va.length cy]) (cs := cat cI ((lo.set s1.toNat (nth (nth ps s1.toNat).es s2.toNat).to).set s3.toNat (nth (nth ps s3.toNat).es s4.toNat).to) ++ List.replicate jx .any) (by simp [upd, n1, n2, n3, Ne.symm n1, Ne.symm n2, Ne.symm n3]) rfl n1 (by simp [upd, n1, n2, n3, Ne.symm n1, Ne.symm n2, Ne.symm n3]) (by omega) (by simp [cat_length]) (by simp [cat_length]; omega) ?_; refine AW_unmatCell pb 1 (b' := y) (sz := 1) (m := va.length) (cp := cy) (all := [.fr 1 lo.length (cat cI ((lo.set s1.toNat (nth (nth ps s1.toNat).es s2.toNat).to).set s3.toNat (nth (nth ps s3.toNat).es s4.toNat).to)), .sl y 1 0 va.length cy]) (cs := cat cI va4 ++ List.replicate jy .any) (by simp [upd, n1, n2, n3, Ne.symm n1, Ne.symm n2, Ne.symm n3, cat_take_app1c (f := cI) ((lo.set s1.toNat (nth (nth ps s1.toNat).es s2.toNat).to).set s3.toNat (nth (nth ps s3.toNat).es s4.toNat).to) (List.replicate jx .any) (n := lo.length) (by simp)]) rfl n2 (by simp [upd, n1, n2, n3, Ne.symm n1, Ne.symm n2, Ne.symm n3]) (by omega) (by simp [cat_length]; omega) (by simp [cat_length]; omega) ?_) | (refine AW_unmatCell pb 0 (b' := x) (sz := 1) (m := lo.length) (cp := cx) (all := [.sl x 1 0 lo.length cx, .sl y 1 0 va.length cy]) (cs := cat cI (lo.set s1.toNat (nth (nth ps s1.toNat).es s2.toNat).to) ++ List.replicate jx .any) (by simp [upd, n1, n2, n3, Ne.symm n1, Ne.symm n2, Ne.symm n3]) rfl n1 (by simp [upd, n1, n2, n3, Ne.symm n1, Ne.symm n2, Ne.symm n3]) (by omega) (by simp [cat_length]) (by simp [cat_length]; omega) ?_; refine AW_unmatCell pb 1 (b' := y) (sz := 1) (m := va.length) (cp := cy) (all := [.fr 1 lo.length (cat cI (lo.set s1.toNat (nth (nth ps s1.toNat).es s2.toNat).to)), .sl y 1 0 va.length cy]) (cs := cat cI va2 ++ List.replicate jy .any) (by simp [upd, n1, n2, n3, Ne.symm n1, Ne.symm n2, Ne.symm n3, cat_take_app1c (f := cI) (lo.set s1.toNat (nth (nth ps s1.toNat).es s2.toNat).to) (List.replicate jx .any) (n := lo.length) (by simp)]) rfl n2 (by simp [upd, n1, n2, n3, Ne.symm n1, Ne.symm n2, Ne.symm n3]) (by omega) (by simp [cat_length]; omega) (by simp [cat_length]; omega) ?_)); refine AW_region (id := 5) Γe18_ok [] (by kernel_rfl) ?_; simp  [-List.getD_eq_getElem?_getD, -List.drop_one, ↓splitB_true, ↓splitB_false, go_sem, n1, n2, n3, Ne.symm n1, Ne.symm n2, Ne.symm n3]
    | refine AW_condA (c := .tmp 34) ?_; simp [-List.getD_eq_getElem?_getD, -List.drop_one, ↓splitB_true, ↓splitB_false, go_sem]; try first | (refine ⟨?_, ?_⟩ <;> change AW _ _ _ _ _ _) | (refine ⟨fun c34 => ?_, fun c34 => ?_⟩ <;> (try simp [B_iff, B_not] at c34))
    | (refine AW_block ?_)
    | (refine AW_exit ?_; simp [-List.getD_eq_getElem?_getD, -List.drop_one, ↓splitB_true, ↓splitB_false, go_sem])
    | (refine AW_skip ?_; simp [-List.getD_eq_getElem?_getD, -List.drop_one, ↓splitB_true, ↓splitB_false, go_sem])
    | (refine AW_ret ?_; try simp [-List.getD_eq_getElem?_getD, -List.drop_one, ↓splitB_true, ↓splitB_false, go_sem, Try.results211])
    | (intro hx; change AW _ _ _ _ _ _)
    | (intro hx; change retR _ _ _ _ _)
    | (refine ⟨?_, ?_⟩ <;> change AW _ _ _ _ _ _)
    | (intro hx; refine ⟨fun hs => ?_, fun hs => ?_⟩)
    | (refine ⟨fun hs => ?_, fun hs => ?_⟩)
    | (refine ⟨?_, fun hs => ?_⟩; change AW _ _ _ _ _ _)
    | (refine ⟨fun hs => ?_, ?_⟩; rotate_left; change AW _ _ _ _ _ _; rotate_left)))
  all_goals (first
    | (refine l3Apply_ret _ _ _ _ _ _ _ _ ((((lo.set s1.toNat (nth (nth ps s1.toNat).es s2.toNat).to).set s3.toNat (nth (nth ps s3.toNat).es s4.toNat).to, va4) : List Int × List Int)) ?_ ?_ ?_; (first | exact Or.inl rfl | exact Or.inr rfl); (focus (simp [-List.getD_eq_getElem?_getD, -List.drop_one, ↓splitB_true, ↓splitB_false, go_sem, Try.results211, cat_take_app1c (f := cI) va4 (List.replicate jy .any) (n := va.length) (by omega), (show va4.length = va.length by omega)]; done)); (focus ((exact ⟨by simp; omega, h4⟩); done)))
    | (refine l3Apply_ret _ _ _ _ _ _ _ _ (((lo.set s1.toNat (nth (nth ps s1.toNat).es s2.toNat).to, va2) : List Int × List Int)) ?_ ?_ ?_; (first | exact Or.inl rfl | exact Or.inr rfl); (focus (simp [-List.getD_eq_getElem?_getD, -List.drop_one, ↓splitB_true, ↓splitB_false, go_sem, Try.results211, cat_take_app1c (f := cI) va2 (List.replicate jy .any) (n := va.length) (by omega), (show va2.length = va.length by omega)]; done)); (focus ((exact ⟨by simp; omega, h2⟩); done)))
    | skip)
noncomputable def l3ApplyC : Con := .prel fun
  | [.st [.list n_init c_init, .list n_ps c_ps], .st [.list n_lo c_lo, .list n_va c_va], .st [.int .i64 s1, .int .i64 s2, .int .i64 s3, .int .i64 s4]] => ((Is cI n_init c_init) ∧ (Is cR n_ps c_ps) ∧ (Is cI n_lo c_lo) ∧ (Is cI n_va c_va) ∧ (SysOk (de cI c_init) (de cR c_ps)) ∧ (StF (de cR c_ps) (de cI c_lo) (de cI c_va)) ∧ (StepF (de cR c_ps) (s1, s2, s3, s4)), fun c => l3Apply_enc (l3Apply_sel (de cI c_init) (de cR c_ps) (de cI c_lo) (de cI c_va) s1 s2 s3 s4 c))
  | _ => (False, fun _ => .any)
attribute [go_sem] l3ApplyC
theorem l3ApplyC_ok : ConOk Try.prog 211 l3ApplyC := by
  refine ⟨callable Try.func211 (by decide) rfl, fun args h => ?_⟩
  revert h
  dsimp only
  split
  · intro h
    obtain ⟨⟨init, rfl, rfl⟩, ⟨ps, rfl, rfl⟩, ⟨lo, rfl, rfl⟩, ⟨va, rfl, rfl⟩, hS, hT, hP⟩ := h
    try simp only [de_cat] at *
    exact ⟨l3Apply_pure init ps lo va _ _ _ _ hS hT hP, fun c => by simp [go_sem]⟩
  · intro h
    exact h.elim
noncomputable def Γe19 : FuncId → Con := ext Γe18 211 l3ApplyC
attribute [go_sem] Γe19
theorem Γe19_ok : ∀ g, ConOk Try.prog g (Γe19 g) := ext_ok Γe18_ok l3ApplyC_ok

theorem l4Find_pure (xs : List Ints2) (lo : List Int) (va : List Int)  : Pure Try.prog 212 [li cP xs, .st [li cI lo, li cI va]] (.int .i64 (findI (fun z => decide (z = ((lo, va) : Ints2))) xs)) := by
  refine Pure.of_walk Try.func212 rfl (by simp [Try.f212]) (by simp [-List.drop_one, go_sem]) fun B hK => ?_
  (repeat' (first
    | refine AW_seq ?_
    | (refine AW_len 0 rfl fun hm => ?_); refine AW_region (id := 0) Γe19_ok [] (by kernel_rfl) ?_; simp  [-List.getD_eq_getElem?_getD, -List.drop_one, ↓splitB_true, ↓splitB_false, go_sem]; try (refine AW_data hK 3 ?_; simp [go_sem])
    | refine AW_region (id := 1) Γe19_ok [] (by kernel_rfl) ?_; simp  [-List.getD_eq_getElem?_getD, -List.drop_one, ↓splitB_true, ↓splitB_false, go_sem]
    | refine AW_region (id := 2) Γe19_ok [] (by kernel_rfl) ?_; simp  [-List.getD_eq_getElem?_getD, -List.drop_one, ↓splitB_true, ↓splitB_false, go_sem]
    | refine AW_region_draw (id := 4) Γe19_ok mixed [] [] (by kernel_rfl) (by kernel_rfl) (by simp [-List.getD_eq_getElem?_getD, -List.drop_one, ↓splitB_true, ↓splitB_false, go_sem, c9, ne_nil c9, Nat.sub_pos_of_lt c9]) ?_; simp  [-List.getD_eq_getElem?_getD, -List.drop_one, ↓splitB_true, ↓splitB_false, go_sem, c9, ne_nil c9, Nat.sub_pos_of_lt c9]
    | refine AW_region (id := 5) Γe19_ok [] (by kernel_rfl) ?_; simp  [-List.getD_eq_getElem?_getD, -List.drop_one, ↓splitB_true, ↓splitB_false, go_sem]
    | refine AW_region (id := 3) Γe19_ok [] (by kernel_rfl) ?_; simp  [-List.getD_eq_getElem?_getD, -List.drop_one, ↓splitB_true, ↓splitB_false, go_sem, wrapS (k := k) (by omega)]
    | refine AW_region (id := 6) Γe19_ok [] (by kernel_rfl) ?_; simp  [-List.getD_eq_getElem?_getD, -List.drop_one, ↓splitB_true, ↓splitB_false, go_sem]
    | refine AW_condA (c := .tmp 9) ?_; simp [-List.getD_eq_getElem?_getD, -List.drop_one, ↓splitB_true, ↓splitB_false, go_sem]; try first | (refine ⟨?_, ?_⟩ <;> change AW _ _ _ _ _ _) | (refine ⟨fun c9 => ?_, fun c9 => ?_⟩ <;> (try simp [B_iff, B_not] at c9))
    | refine AW_condA (c := .tmp 17) ?_; simp [-List.getD_eq_getElem?_getD, -List.drop_one, ↓splitB_true, ↓splitB_false, go_sem]; try first | (refine ⟨?_, ?_⟩ <;> change AW _ _ _ _ _ _) | (refine ⟨fun c17 => ?_, fun c17 => ?_⟩ <;> (try simp [B_iff, B_not] at c17))
    | (refine AW_block (id := 0) (AW_loop (ι := Nat) (fun k : Nat => ⟨(upd (upd (upd (fun _ => .any) 0 (li cP xs)) 3 (.pd [li cI lo, li cI va])) 5 (.int .i64 k)), fun _ => none⟩) (fun k => k ≤ xs.length ∧ NoneTill (fun i => decide (nth xs i = ((lo, va) : Ints2))) k) (fun k => xs.length - k) (0) ?_ ?_ ?_); exact ⟨Nat.zero_le _, .zero _⟩; ((repeat' (first | exact sub_noneH (by assumption) | exact sub_none | refine sub_upd ?_ ?_ | refine sub_noneE ?_)) <;> simp [-List.getD_eq_getElem?_getD, -List.drop_one, ↓splitB_true, ↓splitB_false, go_sem]); rintro k ⟨hk, ht⟩)
    | (refine ⟨k + 1, ⟨by omega, ht.succ (by simp only [decide_eq_false_iff_not]; intro e; rw [e] at c17; simp at c17)⟩, by first | omega | (simp; done) | (simp; omega), ?_⟩; ((repeat' (first | exact sub_noneH (by assumption) | exact sub_none | refine sub_upd ?_ ?_ | refine sub_noneE ?_)) <;> simp [-List.getD_eq_getElem?_getD, -List.drop_one, ↓splitB_true, ↓splitB_false, go_sem]))
    | (refine AW_block ?_)
    | (refine AW_exit ?_; simp [-List.getD_eq_getElem?_getD, -List.drop_one, ↓splitB_true, ↓splitB_false, go_sem])
    | (refine AW_skip ?_; simp [-List.getD_eq_getElem?_getD, -List.drop_one, ↓splitB_true, ↓splitB_false, go_sem])
    | (refine AW_ret ?_; simp [-List.getD_eq_getElem?_getD, -List.drop_one, ↓splitB_true, ↓splitB_false, go_sem, Try.results212])
    | (intro hx; change AW _ _ _ _ _ _)
    | (refine ⟨?_, ?_⟩ <;> change AW _ _ _ _ _ _)
    | (intro hx; refine ⟨fun hs => ?_, fun hs => ?_⟩)
    | (refine ⟨fun hs => ?_, fun hs => ?_⟩)
    | (refine ⟨?_, fun hs => ?_⟩; change AW _ _ _ _ _ _)
    | (refine ⟨fun hs => ?_, ?_⟩; rotate_left; change AW _ _ _ _ _ _; rotate_left)))
  all_goals (first
    | (rw [findI_at (p := fun z => decide (z = ((lo, va) : Ints2))) ht c9 (by simp only [decide_eq_true_eq]; exact Prod.ext (by simp_all) (by simp_all))])
    | (rw [findI_none (p := fun z => decide (z = ((lo, va) : Ints2))) ht (by omega)])
    | skip)
noncomputable def l4Find_pureC : Con := .pure fun
  | [.list n_xs c_xs, .st [.list n_lo c_lo, .list n_va c_va]] => ((Is cP n_xs c_xs) ∧ (Is cI n_lo c_lo) ∧ (Is cI n_va c_va), .int .i64 (findI (fun z => decide (z = (((de cI c_lo), (de cI c_va)) : Ints2))) (de cP c_xs)))
  | _ => (False, .any)
attribute [go_sem] l4Find_pureC
theorem l4Find_pureC_ok : ConOk Try.prog 212 l4Find_pureC := by
  refine ⟨callable Try.func212 (by decide) rfl, fun args h => ?_⟩
  revert h
  dsimp only
  split
  · intro h
    obtain ⟨⟨xs, rfl, rfl⟩, ⟨lo, rfl, rfl⟩, ⟨va, rfl, rfl⟩⟩ := h
    try simp only [de_cat] at *
    exact ⟨l4Find_pure xs lo va, by simp [go_sem]⟩
  · intro h
    exact h.elim
noncomputable def Γe20 : FuncId → Con := ext Γe19 212 l4Find_pureC
attribute [go_sem] Γe20
theorem Γe20_ok : ∀ g, ConOk Try.prog g (Γe20 g) := ext_ok Γe19_ok l4Find_pureC_ok

end Go.Proofs.Ytoklpofekcclhaa.Vm

