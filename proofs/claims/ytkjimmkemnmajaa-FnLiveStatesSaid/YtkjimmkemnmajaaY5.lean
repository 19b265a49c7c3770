/-
  Formulas: what follows, letters, phases, pairs. No conditions.
-/
import Derived.Test.YtkjimmkemnmajaaY4
namespace Go.Proofs.Ytkjimmkemnmajaa.Vm
open Go
set_option linter.unusedVariables false
set_option linter.unusedSimpArgs false
set_option maxRecDepth 200000

noncomputable def l7Follows_enc : Bool → D := fun x => .bool x
attribute [go_sem] l7Follows_enc
def l7Follows_good (bs : List Tree) (s : Int) (t : Int) : Bool → Prop := fun _ => True
noncomputable def l7Follows_sel (bs : List Tree) (s : Int) (t : Int) (c : Any) : Bool := sel (l7Follows_good bs s t) (true) c
theorem l7Follows_ret (bs : List Tree) (s : Int) (t : Int) {e_ : Exit} {S_ : St} (x : Bool) (he_ : e_ = .ret ∨ e_ = .normal)
    (h1 : (zaak Try.prog S_ Try.f219.results.toList).1 ∧ resD (zaak Try.prog S_ Try.f219.results.toList).2.1 = l7Follows_enc x) (hg : l7Follows_good bs s t x) :
    retR Try.prog Try.f219 (fun c => (l7Follows_enc (l7Follows_sel bs s t c), fun _ => none)) e_ S_ := ret_prel (enc := l7Follows_enc) x he_ h1 hg
theorem l7Follows_retE (bs : List Tree) (s : Int) (t : Int) {e_ : Exit} {S_ : St} (he_ : e_ = .ret ∨ e_ = .normal)
    (h : ∃ x, (zaak Try.prog S_ Try.f219.results.toList).1 ∧ resD (zaak Try.prog S_ Try.f219.results.toList).2.1 = l7Follows_enc x ∧ l7Follows_good bs s t x) :
    retR Try.prog Try.f219 (fun c => (l7Follows_enc (l7Follows_sel bs s t c), fun _ => none)) e_ S_ := by
  obtain ⟨x, h1, h2, h3⟩ := h
  exact l7Follows_ret _ _ _ x he_ ⟨h1, h2⟩ h3
set_option maxHeartbeats 8000000 in
theorem l7Follows_pure (bs : List Tree) (s : Int) (t : Int) (hA : AllW bs) : PureR Try.prog 219 [li cX bs, .int .i64 s, .int .i64 t] (fun c => l7Follows_enc (l7Follows_sel bs s t c)) := by
  refine PureR.of_walk Try.func219 rfl (by simp [Try.f219]) (fun c => by simp [-List.drop_one, go_sem]) fun B hK => ?_
  (repeat' (first
    | refine AW_seq ?_
    | refine zaac (id := 0) Γy17_ok [] (by kernel_rfl) ?_; simp  [-List.getD_eq_getElem?_getD, -List.drop_one, ↓zaab, ↓zaaa, go_sem]
    | (refine AW_len 0 rfl fun hm => ?_); refine zaac (id := 1) Γy17_ok [] (by kernel_rfl) ?_; simp  [-List.getD_eq_getElem?_getD, -List.drop_one, ↓zaab, ↓zaaa, go_sem]
    | refine zaac (id := 2) Γy17_ok [] (by kernel_rfl) ?_; simp  [-List.getD_eq_getElem?_getD, -List.drop_one, ↓zaab, ↓zaaa, go_sem]
    | ((obtain ⟨⟨uk, uv, us⟩, hu⟩ : ∃ u, nth bs i = u := ⟨_, rfl⟩); (have hw : WellF (.mk uk uv us) := (by rw [← hu]; exact hA.at c14)); (have hk1 := hw.ks1); (have hk2 := hw.ks2); (have w4 := hw.at.2.2.2)); refine zaac (id := 4) Γy17_ok [] (by kernel_rfl) ?_; simp  [-List.getD_eq_getElem?_getD, -List.drop_one, ↓zaab, ↓zaaa, go_sem, c14, zaas c14, Nat.sub_pos_of_lt c14, hu]; try ((refine AW_data hK 8 ?_); (simp [go_sem]))
    | refine zaac (id := 5) Γy17_ok [] (by kernel_rfl) ?_; simp  [-List.getD_eq_getElem?_getD, -List.drop_one, ↓zaab, ↓zaaa, go_sem]
    | refine zaac (id := 6) Γy17_ok [] (by kernel_rfl) ?_; simp  [-List.getD_eq_getElem?_getD, -List.drop_one, ↓zaab, ↓zaaa, go_sem]
    | refine zaac (id := 7) Γy17_ok [] (by kernel_rfl) ?_; simp  [-List.getD_eq_getElem?_getD, -List.drop_one, ↓zaab, ↓zaaa, go_sem]
    | refine zaac (id := 8) Γy17_ok [] (by kernel_rfl) ?_; simp  [-List.getD_eq_getElem?_getD, -List.drop_one, ↓zaab, ↓zaaa, go_sem]
    | ((have ql := hk1 (by omega)); (have qk : 0 < us.length := (by omega)); (have qw := (w4 0 qk).valu)); refine zaac (id := 9) Γy17_ok [] (by kernel_rfl) ?_; simp  [-List.getD_eq_getElem?_getD, -List.drop_one, ↓zaab, ↓zaaa, go_sem, qk, zaas qk, Nat.sub_pos_of_lt qk, cat_take0 (f := cX) qk, (show 3 ≤ us.length * 3 by omega), Tree.eta, qw]
    | refine zaac (id := 10) Γy17_ok [] (by kernel_rfl) ?_; simp  [-List.getD_eq_getElem?_getD, -List.drop_one, ↓zaab, ↓zaaa, go_sem]
    | ((have ql := hk2 (by omega) (by omega) (by omega) (by omega) (by omega) (by omega)); (have qk : 0 < us.length := (by omega)); (have qj : 1 < us.length := (by omega)); (have qw := (w4 0 qk).valu); (have qx := (w4 1 qj).valu)); refine zaac (id := 11) Γy17_ok [45, 53] (by kernel_rfl) ?_; simp  [-List.getD_eq_getElem?_getD, -List.drop_one, ↓zaab, ↓zaaa, go_sem, qk, zaas qk, Nat.sub_pos_of_lt qk, qj, cat_take0 (f := cX) qk, (show 3 ≤ us.length * 3 by omega), (show (cat cX us).drop 3 = cat cX (us.drop 1) from cat_drop (f := cX) (sz := 3) us 1), (show 3 ≤ us.length * 3 - 3 by omega), (show 3 ≤ (us.length - 1) * 3 by omega), (show (1 : Int) < (us.length : Int) by omega), Nat.sub_pos_of_lt qj, Tree.eta, qw, qx]; try (refine ⟨fun s11a => ?_, fun s11a => ?_⟩ <;> (try simp [B_iff, B_not] at s11a) <;> try (refine ⟨fun s11b => ?_, fun s11b => ?_⟩ <;> (try simp [B_iff, B_not] at s11b) <;> try (refine ⟨fun s11c => ?_, fun s11c => ?_⟩ <;> (try simp [B_iff, B_not] at s11c))))
    | refine zaac (id := 12) Γy17_ok [] (by kernel_rfl) ?_; simp  [-List.getD_eq_getElem?_getD, -List.drop_one, ↓zaab, ↓zaaa, go_sem]
    | ((have ql := hk2 (by omega) (by omega) (by omega) (by omega) (by omega) (by omega)); (have qk : 0 < us.length := (by omega)); (have qj : 1 < us.length := (by omega)); (have qw := (w4 0 qk).valu); (have qx := (w4 1 qj).valu)); refine zaac (id := 13) Γy17_ok [68, 76] (by kernel_rfl) ?_; simp  [-List.getD_eq_getElem?_getD, -List.drop_one, ↓zaab, ↓zaaa, go_sem, qk, zaas qk, Nat.sub_pos_of_lt qk, qj, cat_take0 (f := cX) qk, (show 3 ≤ us.length * 3 by omega), (show (cat cX us).drop 3 = cat cX (us.drop 1) from cat_drop (f := cX) (sz := 3) us 1), (show 3 ≤ us.length * 3 - 3 by omega), (show 3 ≤ (us.length - 1) * 3 by omega), (show (1 : Int) < (us.length : Int) by omega), Nat.sub_pos_of_lt qj, Tree.eta, qw, qx]; try (refine ⟨fun s13a => ?_, fun s13a => ?_⟩ <;> (try simp [B_iff, B_not] at s13a) <;> try (refine ⟨fun s13b => ?_, fun s13b => ?_⟩ <;> (try simp [B_iff, B_not] at s13b) <;> try (refine ⟨fun s13c => ?_, fun s13c => ?_⟩ <;> (try simp [B_iff, B_not] at s13c))))
    | refine zaac (id := 14) Γy17_ok [] (by kernel_rfl) ?_; simp  [-List.getD_eq_getElem?_getD, -List.drop_one, ↓zaab, ↓zaaa, go_sem]
    | refine zaac (id := 15) Γy17_ok [] (by kernel_rfl) ?_; simp  [-List.getD_eq_getElem?_getD, -List.drop_one, ↓zaab, ↓zaaa, go_sem]
    | refine zaac (id := 3) Γy17_ok [] (by kernel_rfl) ?_; simp  [-List.getD_eq_getElem?_getD, -List.drop_one, ↓zaab, ↓zaaa, go_sem, wrapS (k := i) (by omega)]
    | refine zaac (id := 16) Γy17_ok [] (by kernel_rfl) ?_; simp  [-List.getD_eq_getElem?_getD, -List.drop_one, ↓zaab, ↓zaaa, go_sem]
    | refine zaaf (c := .tmp 14) ?_; simp [-List.getD_eq_getElem?_getD, -List.drop_one, ↓zaab, ↓zaaa, go_sem]; try first | (refine ⟨?_, ?_⟩ <;> change AW _ _ _ _ _ _) | (refine ⟨fun c14 => ?_, fun c14 => ?_⟩ <;> (try simp [B_iff, B_not] at c14))
    | refine zaaf (c := .tmp 27) ?_; simp [-List.getD_eq_getElem?_getD, -List.drop_one, ↓zaab, ↓zaaa, go_sem]; try first | (refine ⟨?_, ?_⟩ <;> change AW _ _ _ _ _ _) | (refine ⟨fun c27 => ?_, fun c27 => ?_⟩ <;> (try simp [B_iff, B_not] at c27))
    | refine zaaf (c := .tmp 36) ?_; simp [-List.getD_eq_getElem?_getD, -List.drop_one, ↓zaab, ↓zaaa, go_sem]; try first | (refine ⟨?_, ?_⟩ <;> change AW _ _ _ _ _ _) | (refine ⟨fun c36 => ?_, fun c36 => ?_⟩ <;> (try simp [B_iff, B_not] at c36))
    | refine zaaf (c := .tmp 59) ?_; simp [-List.getD_eq_getElem?_getD, -List.drop_one, ↓zaab, ↓zaaa, go_sem]; try first | (refine ⟨?_, ?_⟩ <;> change AW _ _ _ _ _ _) | (refine ⟨fun c59 => ?_, fun c59 => ?_⟩ <;> (try simp [B_iff, B_not] at c59))
    | refine zaaf (c := .tmp 84) ?_; simp [-List.getD_eq_getElem?_getD, -List.drop_one, ↓zaab, ↓zaaa, go_sem]; try first | (refine ⟨?_, ?_⟩ <;> change AW _ _ _ _ _ _) | (refine ⟨fun c84 => ?_, fun c84 => ?_⟩ <;> (try simp [B_iff, B_not] at c84))
    | (refine zaag (id := 0) (AW_loop (ι := Nat) (fun i : Nat => ⟨(upd (upd (upd (upd (fun _ => .any) 0 (li cX bs)) 1 (.int .i64 s)) 2 (.int .i64 t)) 7 (.int .i64 i)), fun _ => none⟩) (fun i => i ≤ bs.length) (fun i => bs.length - i) (0) ?_ ?_ ?_); exact Nat.zero_le _; ((repeat' (first | exact zaad (by assumption) | exact zaah | refine zaai ?_ ?_ | refine zaae ?_)) <;> simp [-List.getD_eq_getElem?_getD, -List.drop_one, ↓zaab, ↓zaaa, go_sem]); rintro i hi)
    | (refine ⟨i + 1, by omega, by first | omega | (simp; done) | (simp; omega), ?_⟩; ((repeat' (first | exact zaad (by assumption) | exact zaah | refine zaai ?_ ?_ | refine zaae ?_)) <;> simp [-List.getD_eq_getElem?_getD, -List.drop_one, ↓zaab, ↓zaaa, go_sem]))
    | (refine zaag ?_)
    | (refine zaap ?_; simp [-List.getD_eq_getElem?_getD, -List.drop_one, ↓zaab, ↓zaaa, go_sem])
    | (refine zaan ?_; simp [-List.getD_eq_getElem?_getD, -List.drop_one, ↓zaab, ↓zaaa, go_sem])
    | (refine AW_ret ?_; try simp [-List.getD_eq_getElem?_getD, -List.drop_one, ↓zaab, ↓zaaa, go_sem, Try.results219])
    | (intro hx; change AW _ _ _ _ _ _)
    | (intro hx; change retR _ _ _ _ _)
    | (refine ⟨?_, ?_⟩ <;> change AW _ _ _ _ _ _)
    | (intro hx; refine ⟨fun hs => ?_, fun hs => ?_⟩)
    | (refine ⟨fun hs => ?_, fun hs => ?_⟩)
    | (refine ⟨?_, fun hs => ?_⟩; change AW _ _ _ _ _ _)
    | (refine ⟨fun hs => ?_, ?_⟩; rotate_left; change AW _ _ _ _ _ _; rotate_left)))
  all_goals (first
    | (refine l7Follows_retE _ _ _ ?_ ?_; (first | exact Or.inl rfl | exact Or.inr rfl); (simp [-List.getD_eq_getElem?_getD, -List.drop_one, ↓zaab, ↓zaaa, go_sem, Try.results219, l7Follows_good]); ((trivial); done))
    | (refine l7Follows_retE _ _ _ ?_ ?_; (first | exact Or.inl rfl | exact Or.inr rfl); (simp [-List.getD_eq_getElem?_getD, -List.drop_one, ↓zaab, ↓zaaa, go_sem, Try.results219, l7Follows_good]; done))
    | skip)
noncomputable def l7FollowsC : Con := .prel fun
  | [.list n_bs c_bs, .int .i64 s, .int .i64 t] => ((Is cX n_bs c_bs) ∧ (AllW (de cX c_bs)), fun c => l7Follows_enc (l7Follows_sel (de cX c_bs) s t c))
  | _ => (False, fun _ => .any)
attribute [go_sem] l7FollowsC
theorem l7FollowsC_ok : ConOk Try.prog 219 l7FollowsC := by
  refine ⟨zaal Try.func219 (by decide) rfl, fun args h => ?_⟩
  revert h
  dsimp only
  split
  · intro h
    obtain ⟨⟨bs, rfl, rfl⟩, hA⟩ := h
    try simp only [de_cat] at *
    exact ⟨l7Follows_pure bs _ _ hA, fun c => by simp [go_sem]⟩
  · intro h
    exact h.elim
noncomputable def Γy18 : FuncId → Con := ext Γy17 219 l7FollowsC
attribute [go_sem] Γy18
theorem Γy18_ok : ∀ g, ConOk Try.prog g (Γy18 g) := ext_ok Γy17_ok l7FollowsC_ok

noncomputable def l7Fulfils_enc : Bool → D := fun x => .bool x
attribute [go_sem] l7Fulfils_enc
def l7Fulfils_good (bs : List Tree) (s : Int) (u : Int) : Bool → Prop := fun _ => True
noncomputable def l7Fulfils_sel (bs : List Tree) (s : Int) (u : Int) (c : Any) : Bool := sel (l7Fulfils_good bs s u) (true) c
theorem l7Fulfils_ret (bs : List Tree) (s : Int) (u : Int) {e_ : Exit} {S_ : St} (x : Bool) (he_ : e_ = .ret ∨ e_ = .normal)
    (h1 : (zaak Try.prog S_ Try.f245.results.toList).1 ∧ resD (zaak Try.prog S_ Try.f245.results.toList).2.1 = l7Fulfils_enc x) (hg : l7Fulfils_good bs s u x) :
    retR Try.prog Try.f245 (fun c => (l7Fulfils_enc (l7Fulfils_sel bs s u c), fun _ => none)) e_ S_ := ret_prel (enc := l7Fulfils_enc) x he_ h1 hg
theorem l7Fulfils_retE (bs : List Tree) (s : Int) (u : Int) {e_ : Exit} {S_ : St} (he_ : e_ = .ret ∨ e_ = .normal)
    (h : ∃ x, (zaak Try.prog S_ Try.f245.results.toList).1 ∧ resD (zaak Try.prog S_ Try.f245.results.toList).2.1 = l7Fulfils_enc x ∧ l7Fulfils_good bs s u x) :
    retR Try.prog Try.f245 (fun c => (l7Fulfils_enc (l7Fulfils_sel bs s u c), fun _ => none)) e_ S_ := by
  obtain ⟨x, h1, h2, h3⟩ := h
  exact l7Fulfils_ret _ _ _ x he_ ⟨h1, h2⟩ h3
set_option maxHeartbeats 8000000 in
theorem l7Fulfils_pure (bs : List Tree) (s : Int) (u : Int) (hA : AllW bs) (h0 : 0 ≤ u) (h1 : u < bs.length) (hk : (nth bs u.toNat).k = 7) : PureR Try.prog 245 [li cX bs, .int .i64 s, .int .i64 u] (fun c => l7Fulfils_enc (l7Fulfils_sel bs s u c)) := by
  refine PureR.of_walk Try.func245 rfl (by simp [Try.f245]) (fun c => by simp [-List.drop_one, go_sem]) fun B hK => ?_
  have hul : u.toNat < bs.length := (by omega); obtain ⟨⟨uk, uv, us⟩, hu⟩ : ∃ x, nth bs u.toNat = x := ⟨_, rfl⟩; have hw : WellF (.mk uk uv us) := (by rw [← hu]; exact hA.at hul); have hk7 : uk = 7 := (by rw [hu] at hk; exact hk); have ql := hw.ks2 (by omega) (by omega) (by omega) (by omega) (by omega) (by omega); have qj : 1 < us.length := (by omega); have qk : 0 < us.length := (by omega); have qx := (hw.at.2.2.2 1 qj).valu
  all_goals (repeat' (first
    | refine AW_seq ?_
    | refine zaac (id := 0) Γy18_ok [] (by kernel_rfl) ?_; simp  [-List.getD_eq_getElem?_getD, -List.drop_one, ↓zaab, ↓zaaa, go_sem]
    | refine zaac (id := 1) Γy18_ok [11] (by kernel_rfl) ?_; simp  [-List.getD_eq_getElem?_getD, -List.drop_one, ↓zaab, ↓zaaa, go_sem, hul, zaas hul, Nat.sub_pos_of_lt hul, h0, h1, hu, qk, zaas qk, Nat.sub_pos_of_lt qk, qj, (show 3 ≤ us.length * 3 by omega), (show (cat cX us).drop 3 = cat cX (us.drop 1) from cat_drop (f := cX) (sz := 3) us 1), (show 3 ≤ us.length * 3 - 3 by omega), (show 3 ≤ (us.length - 1) * 3 by omega), (show (1 : Int) < (us.length : Int) by omega), Nat.sub_pos_of_lt qj, Tree.eta, qx]; try (refine ⟨fun s1a => ?_, fun s1a => ?_⟩ <;> (try simp [B_iff, B_not] at s1a) <;> try (refine ⟨fun s1b => ?_, fun s1b => ?_⟩ <;> (try simp [B_iff, B_not] at s1b)))
    | (refine zaag ?_)
    | (refine zaap ?_; simp [-List.getD_eq_getElem?_getD, -List.drop_one, ↓zaab, ↓zaaa, go_sem])
    | (refine zaan ?_; simp [-List.getD_eq_getElem?_getD, -List.drop_one, ↓zaab, ↓zaaa, go_sem])
    | (refine AW_ret ?_; try simp [-List.getD_eq_getElem?_getD, -List.drop_one, ↓zaab, ↓zaaa, go_sem, Try.results245])
    | (intro hx; change AW _ _ _ _ _ _)
    | (intro hx; change retR _ _ _ _ _)
    | (refine ⟨?_, ?_⟩ <;> change AW _ _ _ _ _ _)
    | (intro hx; refine ⟨fun hs => ?_, fun hs => ?_⟩)
    | (refine ⟨fun hs => ?_, fun hs => ?_⟩)
    | (refine ⟨?_, fun hs => ?_⟩; change AW _ _ _ _ _ _)
    | (refine ⟨fun hs => ?_, ?_⟩; rotate_left; change AW _ _ _ _ _ _; rotate_left)))
  all_goals (first
    | (refine l7Fulfils_retE _ _ _ ?_ ?_; (first | exact Or.inl rfl | exact Or.inr rfl); (simp [-List.getD_eq_getElem?_getD, -List.drop_one, ↓zaab, ↓zaaa, go_sem, Try.results245, l7Fulfils_good]); ((trivial); done))
    | (refine l7Fulfils_retE _ _ _ ?_ ?_; (first | exact Or.inl rfl | exact Or.inr rfl); (simp [-List.getD_eq_getElem?_getD, -List.drop_one, ↓zaab, ↓zaaa, go_sem, Try.results245, l7Fulfils_good]; done))
    | skip)
noncomputable def l7FulfilsC : Con := .prel fun
  | [.list n_bs c_bs, .int .i64 s, .int .i64 u] => ((Is cX n_bs c_bs) ∧ (AllW (de cX c_bs)) ∧ (0 ≤ u) ∧ (u < (de cX c_bs).length) ∧ ((nth (de cX c_bs) u.toNat).k = 7), fun c => l7Fulfils_enc (l7Fulfils_sel (de cX c_bs) s u c))
  | _ => (False, fun _ => .any)
attribute [go_sem] l7FulfilsC
theorem l7FulfilsC_ok : ConOk Try.prog 245 l7FulfilsC := by
  refine ⟨zaal Try.func245 (by decide) rfl, fun args h => ?_⟩
  revert h
  dsimp only
  split
  · intro h
    obtain ⟨⟨bs, rfl, rfl⟩, hA, h0, h1, hk⟩ := h
    try simp only [de_cat] at *
    exact ⟨l7Fulfils_pure bs _ _ hA h0 h1 hk, fun c => by simp [go_sem]⟩
  · intro h
    exact h.elim
noncomputable def Γy19 : FuncId → Con := ext Γy18 245 l7FulfilsC
attribute [go_sem] Γy19
theorem Γy19_ok : ∀ g, ConOk Try.prog g (Γy19 g) := ext_ok Γy18_ok l7FulfilsC_ok

theorem bitsD_le (x y : Int) : bitsD .or .i64 x y ≤ 9223372036854775807 := by
  show IntKind.i64.wrap _ ≤ _
  unfold IntKind.wrap; simp [IntKind.bits, IntKind.signed]; split <;> omega

noncomputable def l7Letter_enc : Int × Int → D := fun x => .tup [.int .i64 x.1, .int .i64 x.2]
attribute [go_sem] l7Letter_enc
def l7Letter_good (bs : List Tree) (s : Int) : Int × Int → Prop := fun x => x.2 ≤ 9223372036854775807
noncomputable def l7Letter_sel (bs : List Tree) (s : Int) (c : Any) : Int × Int := sel (l7Letter_good bs s) ((0, 0)) c
theorem l7Letter_ok (bs : List Tree) (s : Int) (hA : AllW bs) (c : Any) : l7Letter_good bs s (l7Letter_sel bs s c) := sel_ok (p := l7Letter_good bs s) (x0 := (0, 0)) (by simp [l7Letter_good]) c
theorem l7Letter_ret (bs : List Tree) (s : Int) {e_ : Exit} {S_ : St} (x : Int × Int) (he_ : e_ = .ret ∨ e_ = .normal)
    (h1 : (zaak Try.prog S_ Try.f218.results.toList).1 ∧ resD (zaak Try.prog S_ Try.f218.results.toList).2.1 = l7Letter_enc x) (hg : l7Letter_good bs s x) :
    retR Try.prog Try.f218 (fun c => (l7Letter_enc (l7Letter_sel bs s c), fun _ => none)) e_ S_ := ret_prel (enc := l7Letter_enc) x he_ h1 hg
set_option maxHeartbeats 8000000 in
theorem l7Letter_pure (bs : List Tree) (s : Int) (hA : AllW bs) : PureR Try.prog 218 [li cX bs, .int .i64 s] (fun c => l7Letter_enc (l7Letter_sel bs s c)) := by
  refine PureR.of_walk Try.func218 rfl (by simp [Try.f218]) (fun c => by simp [-List.drop_one, go_sem]) fun B hK => ?_
  (repeat' (first
    | refine AW_seq ?_
    | refine zaac (id := 0) Γy19_ok [] (by kernel_rfl) ?_; simp  [-List.getD_eq_getElem?_getD, -List.drop_one, ↓zaab, ↓zaaa, go_sem]
    | refine zaac (id := 1) Γy19_ok [] (by kernel_rfl) ?_; simp  [-List.getD_eq_getElem?_getD, -List.drop_one, ↓zaab, ↓zaaa, go_sem]
    | refine zaac (id := 2) Γy19_ok [] (by kernel_rfl) ?_; simp  [-List.getD_eq_getElem?_getD, -List.drop_one, ↓zaab, ↓zaaa, go_sem]
    | (refine AW_len 0 rfl fun hm => ?_); refine zaac (id := 3) Γy19_ok [] (by kernel_rfl) ?_; simp  [-List.getD_eq_getElem?_getD, -List.drop_one, ↓zaab, ↓zaaa, go_sem]
    | refine zaac (id := 4) Γy19_ok [] (by kernel_rfl) ?_; simp  [-List.getD_eq_getElem?_getD, -List.drop_one, ↓zaab, ↓zaaa, go_sem]
    | ((obtain ⟨⟨uk, uv, us⟩, hu⟩ : ∃ u, nth bs q.1 = u := ⟨_, rfl⟩); (have hw : WellF (.mk uk uv us) := (by rw [← hu]; exact hA.at c12)); (have hv := hw.at); (obtain ⟨v1, v2, v3, v4⟩ := hv)); refine zaac (id := 6) Γy19_ok [] (by kernel_rfl) ?_; simp  [-List.getD_eq_getElem?_getD, -List.drop_one, ↓zaab, ↓zaaa, go_sem, c12, zaas c12, Nat.sub_pos_of_lt c12, hu]
    | refine zaac (id := 7) Γy19_ok [] (by kernel_rfl) ?_; simp  [-List.getD_eq_getElem?_getD, -List.drop_one, ↓zaab, ↓zaaa, go_sem, c12, zaas c12, Nat.sub_pos_of_lt c12, hu, wrapu_nn uv]; try ((generalize bitsD BinOp.or IntKind.i64 q.2.1 (IntKind.i64.wrap (2 ^ min (IntKind.u64.wrap uv).toNat 64)) = cr at *))
    | refine zaac (id := 8) Γy19_ok [] (by kernel_rfl) ?_; simp  [-List.getD_eq_getElem?_getD, -List.drop_one, ↓zaab, ↓zaaa, go_sem]
    | refine zaac (id := 9) Γy19_ok [] (by kernel_rfl) ?_; simp  [-List.getD_eq_getElem?_getD, -List.drop_one, ↓zaab, ↓zaaa, go_sem, c12, zaas c12, Nat.sub_pos_of_lt c12, hu, wrapu_nn uv]; try ((have h9 := bitsD_le q.2.2 (IntKind.i64.wrap (2 ^ min (IntKind.u64.wrap uv).toNat 64))); (generalize bitsD BinOp.or IntKind.i64 q.2.2 (IntKind.i64.wrap (2 ^ min (IntKind.u64.wrap uv).toNat 64)) = vr at *))
    | refine zaac (id := 5) Γy19_ok [] (by kernel_rfl) ?_; simp  [-List.getD_eq_getElem?_getD, -List.drop_one, ↓zaab, ↓zaaa, go_sem, wrapS (k := q.1) (by omega)]
    | refine zaac (id := 10) Γy19_ok [] (by kernel_rfl) ?_; simp  [-List.getD_eq_getElem?_getD, -List.drop_one, ↓zaab, ↓zaaa, go_sem]
    | refine zaaf (c := .tmp 12) ?_; simp [-List.getD_eq_getElem?_getD, -List.drop_one, ↓zaab, ↓zaaa, go_sem]; try first | (refine ⟨?_, ?_⟩ <;> change AW _ _ _ _ _ _) | (refine ⟨fun c12 => ?_, fun c12 => ?_⟩ <;> (try simp [B_iff, B_not] at c12))
    | refine zaaf (c := .tmp 20) ?_; simp [-List.getD_eq_getElem?_getD, -List.drop_one, ↓zaab, ↓zaaa, go_sem]; try first | (refine ⟨?_, ?_⟩ <;> change AW _ _ _ _ _ _) | (refine ⟨fun c20 => ?_, fun c20 => ?_⟩ <;> (try simp [B_iff, B_not] at c20))
    | refine zaaf (c := .tmp 32) ?_; simp [-List.getD_eq_getElem?_getD, -List.drop_one, ↓zaab, ↓zaaa, go_sem]; try first | (refine ⟨?_, ?_⟩ <;> change AW _ _ _ _ _ _) | (refine ⟨fun c32 => ?_, fun c32 => ?_⟩ <;> (try simp [B_iff, B_not] at c32))
    | (refine zaag (id := 0) (AW_loop (ι := Nat × Int × Int) (fun q : Nat × Int × Int => ⟨(upd (upd (upd (upd (upd (fun _ => .any) 0 (li cX bs)) 1 (.int .i64 s)) 6 (.int .i64 q.2.1)) 7 (.int .i64 q.2.2)) 8 (.int .i64 q.1)), fun _ => none⟩) (fun q => q.1 ≤ bs.length ∧ q.2.2 ≤ 9223372036854775807) (fun q => bs.length - q.1) ((0, 0, 0)) ?_ ?_ ?_); exact ⟨Nat.zero_le _, by dsimp only; omega⟩; ((repeat' (first | exact zaad (by assumption) | exact zaah | refine zaai ?_ ?_ | refine zaae ?_)) <;> simp [-List.getD_eq_getElem?_getD, -List.drop_one, ↓zaab, ↓zaaa, go_sem]); rintro q ⟨g1, g2⟩)
    | (refine ⟨(q.1 + 1, cr, vr), ⟨by dsimp only; omega, h9⟩, by first | omega | (simp; done) | (simp; omega), ?_⟩; ((repeat' (first | exact zaad (by assumption) | exact zaah | refine zaai ?_ ?_ | refine zaae ?_)) <;> simp [-List.getD_eq_getElem?_getD, -List.drop_one, ↓zaab, ↓zaaa, go_sem]))
    | (refine zaag ?_)
    | (refine zaap ?_; simp [-List.getD_eq_getElem?_getD, -List.drop_one, ↓zaab, ↓zaaa, go_sem])
    | (refine zaan ?_; simp [-List.getD_eq_getElem?_getD, -List.drop_one, ↓zaab, ↓zaaa, go_sem])
    | (refine AW_ret ?_; try simp [-List.getD_eq_getElem?_getD, -List.drop_one, ↓zaab, ↓zaaa, go_sem, Try.results218])
    | (intro hx; change AW _ _ _ _ _ _)
    | (intro hx; change retR _ _ _ _ _)
    | (refine ⟨?_, ?_⟩ <;> change AW _ _ _ _ _ _)
    | (intro hx; refine ⟨fun hs => ?_, fun hs => ?_⟩)
    | (refine ⟨fun hs => ?_, fun hs => ?_⟩)
    | (refine ⟨?_, fun hs => ?_⟩; change AW _ _ _ _ _ _)
    | (refine ⟨fun hs => ?_, ?_⟩; rotate_left; change AW _ _ _ _ _ _; rotate_left)
    | ((fail_if_success change retR _ _ _ _ _); (refine ⟨(q.1 + 1, cr, q.2.2), ⟨by dsimp only; omega, g2⟩, by dsimp only; omega, ?_⟩; ((repeat' (first | exact zaad (by assumption) | exact zaah | refine zaai ?_ ?_ | refine zaae ?_)) <;> simp [-List.getD_eq_getElem?_getD, -List.drop_one, go_sem]); done))
    | ((fail_if_success change retR _ _ _ _ _); (refine ⟨(q.1 + 1, q.2.1, q.2.2), ⟨by dsimp only; omega, g2⟩, by dsimp only; omega, ?_⟩; ((repeat' (first | exact zaad (by assumption) | exact zaah | refine zaai ?_ ?_ | refine zaae ?_)) <;> simp [-List.getD_eq_getElem?_getD, -List.drop_one, go_sem]); done))))
  all_goals (first
    | (refine l7Letter_ret _ _ ((q.2.1, q.2.2)) ?_ ?_ ?_; (first | exact Or.inl rfl | exact Or.inr rfl); (focus (simp [-List.getD_eq_getElem?_getD, -List.drop_one, ↓zaab, ↓zaaa, go_sem, Try.results218]; done)); (focus ((exact g2); done)))
    | skip)
noncomputable def l7LetterC : Con := .prel fun
  | [.list n_bs c_bs, .int .i64 s] => ((Is cX n_bs c_bs) ∧ (AllW (de cX c_bs)), fun c => l7Letter_enc (l7Letter_sel (de cX c_bs) s c))
  | _ => (False, fun _ => .any)
attribute [go_sem] l7LetterC
theorem l7LetterC_ok : ConOk Try.prog 218 l7LetterC := by
  refine ⟨zaal Try.func218 (by decide) rfl, fun args h => ?_⟩
  revert h
  dsimp only
  split
  · intro h
    obtain ⟨⟨bs, rfl, rfl⟩, hA⟩ := h
    try simp only [de_cat] at *
    exact ⟨l7Letter_pure bs _ hA, fun c => by simp [go_sem]⟩
  · intro h
    exact h.elim
noncomputable def Γy20 : FuncId → Con := ext Γy19 218 l7LetterC
attribute [go_sem] Γy20
theorem Γy20_ok : ∀ g, ConOk Try.prog g (Γy20 g) := ext_ok Γy19_ok l7LetterC_ok

def UntOk (bs : List Tree) (us : List Int) : Prop := us.length ≤ bs.length ∧ ∀ u, u ∈ us → 0 ≤ u ∧ u < bs.length ∧ (nth bs u.toNat).k = 7
theorem UntOk.nil (bs : List Tree) : UntOk bs [] := ⟨by simp, fun u h => nomatch h⟩
def UntK (bs : List Tree) (us : List Int) (k : Nat) : Prop := us.length ≤ k ∧ ∀ u, u ∈ us → 0 ≤ u ∧ u < bs.length ∧ (nth bs u.toNat).k = 7
theorem UntK.snoc {bs : List Tree} {us : List Int} {k : Nat} (h : UntK bs us k) (hk : k < bs.length) (e : (nth bs k).k = 7) : UntK bs (us ++ [(k : Int)]) (k + 1) := by
  refine ⟨by have := h.1; simp; omega, fun u hu => ?_⟩
  rcases List.mem_append.1 hu with q | q
  · exact h.2 u q
  · have : u = (k : Int) := by simpa using q
    subst this
    exact ⟨by omega, by omega, by rw [Int.toNat_natCast]; exact e⟩
theorem UntK.skip {bs : List Tree} {us : List Int} {k : Nat} (h : UntK bs us k) : UntK bs us (k + 1) := ⟨by have := h.1; omega, h.2⟩

noncomputable def l7Untils_enc : List Int → D := fun x => fr 1 cI x
attribute [go_sem] l7Untils_enc
def l7Untils_good (bs : List Tree) : List Int → Prop := fun x => UntOk bs x
noncomputable def l7Untils_sel (bs : List Tree) (c : Any) : List Int := sel (l7Untils_good bs) ([]) c
theorem l7Untils_ok (bs : List Tree) (hl : bs.length ≤ 1000) (c : Any) : l7Untils_good bs (l7Untils_sel bs c) := sel_ok (p := l7Untils_good bs) (x0 := []) (UntOk.nil bs) c
theorem l7Untils_ret (bs : List Tree) {e_ : Exit} {S_ : St} (x : List Int) (he_ : e_ = .ret ∨ e_ = .normal)
    (h1 : (zaak Try.prog S_ Try.f215.results.toList).1 ∧ resD (zaak Try.prog S_ Try.f215.results.toList).2.1 = l7Untils_enc x) (hg : l7Untils_good bs x) :
    retR Try.prog Try.f215 (fun c => (l7Untils_enc (l7Untils_sel bs c), fun _ => none)) e_ S_ := ret_prel (enc := l7Untils_enc) x he_ h1 hg
set_option maxHeartbeats 8000000 in
theorem l7Untils_pure (bs : List Tree) (hl : bs.length ≤ 1000) : PureR Try.prog 215 [li cX bs] (fun c => l7Untils_enc (l7Untils_sel bs c)) := by
  refine PureR.of_walk Try.func215 rfl (by simp [Try.f215]) (fun c => by simp [-List.drop_one, go_sem]) fun B hK => ?_
  (repeat' (first
    | refine AW_seq ?_
    | refine zaac (id := 0) Γy20_ok [] (by kernel_rfl) ?_; simp  [-List.getD_eq_getElem?_getD, -List.drop_one, ↓zaab, ↓zaaa, go_sem]
    | refine zaac (id := 1) Γy20_ok [] (by kernel_rfl) ?_; simp  [-List.getD_eq_getElem?_getD, -List.drop_one, ↓zaab, ↓zaaa, go_sem]
    | refine zaac (id := 2) Γy20_ok [] (by kernel_rfl) ?_; simp  [-List.getD_eq_getElem?_getD, -List.drop_one, ↓zaab, ↓zaaa, go_sem]
    | refine zaac (id := 3) Γy20_ok [] (by kernel_rfl) ?_; simp  [-List.getD_eq_getElem?_getD, -List.drop_one, ↓zaab, ↓zaaa, go_sem]
    | ((have g3 := g2.1); (obtain ⟨⟨uk, uv, us⟩, hu⟩ : ∃ u, nth bs q.1 = u := ⟨_, rfl⟩)); refine zaac (id := 5) Γy20_ok [] (by kernel_rfl) ?_; simp  [-List.getD_eq_getElem?_getD, -List.drop_one, ↓zaab, ↓zaaa, go_sem, c9, zaas c9, Nat.sub_pos_of_lt c9, hu]
    | refine zaac (id := 6) Γy20_ok [] (by kernel_rfl) ?_; simp  [-List.getD_eq_getElem?_getD, -List.drop_one, ↓zaab, ↓zaaa, go_sem, (show q.2.length ≤ 9223372036854775806 by omega), (show 2 * (q.2.length + 1) * 8 ≤ 281474976710656 by omega), snoc_cI]; try ((have o4 := g2.snoc c9 (by rw [hu]; simp only [Tree.k]; omega)); (have o3 : (q.2 ++ [(q.1 : Int)]).length = q.2.length + 1 := (by simp)); (rw [← o3]); (generalize q.2 ++ [(q.1 : Int)] = o2 at *))
    | refine zaac (id := 4) Γy20_ok [] (by kernel_rfl) ?_; simp  [-List.getD_eq_getElem?_getD, -List.drop_one, ↓zaab, ↓zaaa, go_sem, wrapS (k := q.1) (by omega)]
    | refine zaac (id := 7) Γy20_ok [] (by kernel_rfl) ?_; simp  [-List.getD_eq_getElem?_getD, -List.drop_one, ↓zaab, ↓zaaa, go_sem]
    | refine zaaf (c := .tmp 9) ?_; simp [-List.getD_eq_getElem?_getD, -List.drop_one, ↓zaab, ↓zaaa, go_sem]; try first | (refine ⟨?_, ?_⟩ <;> change AW _ _ _ _ _ _) | (refine ⟨fun c9 => ?_, fun c9 => ?_⟩ <;> (try simp [B_iff, B_not] at c9))
    | refine zaaf (c := .tmp 17) ?_; simp [-List.getD_eq_getElem?_getD, -List.drop_one, ↓zaab, ↓zaaa, go_sem]; try first | (refine ⟨?_, ?_⟩ <;> change AW _ _ _ _ _ _) | (refine ⟨fun c17 => ?_, fun c17 => ?_⟩ <;> (try simp [B_iff, B_not] at c17))
    | (refine zaag (id := 0) (AW_loop (ι := Nat × List Int) (fun q : Nat × List Int => ⟨(upd (upd (upd (fun _ => .any) 0 (li cX bs)) 3 (.fr 1 q.2.length (cat cI q.2))) 4 (.int .i64 q.1)), fun _ => none⟩) (fun q => q.1 ≤ bs.length ∧ UntK bs q.2 q.1) (fun q => bs.length - q.1) ((0, [])) ?_ ?_ ?_); exact ⟨Nat.zero_le _, Nat.le_refl _, fun u h => nomatch h⟩; ((repeat' (first | exact zaad (by assumption) | exact zaah | refine zaai ?_ ?_ | refine zaae ?_)) <;> simp [-List.getD_eq_getElem?_getD, -List.drop_one, ↓zaab, ↓zaaa, go_sem, List.length_nil, cat_nil]); rintro q ⟨g1, g2⟩)
    | (refine ⟨(q.1 + 1, o2), ⟨by dsimp only; omega, o4⟩, by first | omega | (simp; done) | (simp; omega), ?_⟩; ((repeat' (first | exact zaad (by assumption) | exact zaah | refine zaai ?_ ?_ | refine zaae ?_)) <;> simp [-List.getD_eq_getElem?_getD, -List.drop_one, ↓zaab, ↓zaaa, go_sem, List.length_nil, cat_nil]))
    | (refine zaag ?_)
    | (refine zaap ?_; simp [-List.getD_eq_getElem?_getD, -List.drop_one, ↓zaab, ↓zaaa, go_sem])
    | (refine zaan ?_; simp [-List.getD_eq_getElem?_getD, -List.drop_one, ↓zaab, ↓zaaa, go_sem])
    | (refine AW_ret ?_; try simp [-List.getD_eq_getElem?_getD, -List.drop_one, ↓zaab, ↓zaaa, go_sem, Try.results215])
    | (intro hx; change AW _ _ _ _ _ _)
    | (intro hx; change retR _ _ _ _ _)
    | (refine ⟨?_, ?_⟩ <;> change AW _ _ _ _ _ _)
    | (intro hx; refine ⟨fun hs => ?_, fun hs => ?_⟩)
    | (refine ⟨fun hs => ?_, fun hs => ?_⟩)
    | (refine ⟨?_, fun hs => ?_⟩; change AW _ _ _ _ _ _)
    | (refine ⟨fun hs => ?_, ?_⟩; rotate_left; change AW _ _ _ _ _ _; rotate_left)
    | ((fail_if_success change retR _ _ _ _ _); (refine ⟨(q.1 + 1, q.2), ⟨by dsimp only; omega, g2.skip⟩, by dsimp only; omega, ?_⟩; ((repeat' (first | exact zaad (by assumption) | exact zaah | refine zaai ?_ ?_ | refine zaae ?_)) <;> simp [-List.getD_eq_getElem?_getD, -List.drop_one, go_sem]); done))))
  all_goals (first
    | (refine l7Untils_ret _ (q.2) ?_ ?_ ?_; (first | exact Or.inl rfl | exact Or.inr rfl); (focus (simp [-List.getD_eq_getElem?_getD, -List.drop_one, ↓zaab, ↓zaaa, go_sem, Try.results215, li, fr]; done)); (focus (((show UntOk bs q.2); exact ⟨by have := g2.1; omega, g2.2⟩); done)))
    | skip)
noncomputable def l7UntilsC : Con := .prel fun
  | [.list n_bs c_bs] => ((Is cX n_bs c_bs) ∧ ((de cX c_bs).length ≤ 1000), fun c => l7Untils_enc (l7Untils_sel (de cX c_bs) c))
  | _ => (False, fun _ => .any)
attribute [go_sem] l7UntilsC
theorem l7UntilsC_ok : ConOk Try.prog 215 l7UntilsC := by
  refine ⟨zaal Try.func215 (by decide) rfl, fun args h => ?_⟩
  revert h
  dsimp only
  split
  · intro h
    obtain ⟨⟨bs, rfl, rfl⟩, hl⟩ := h
    try simp only [de_cat] at *
    exact ⟨l7Untils_pure bs hl, fun c => by simp [go_sem]⟩
  · intro h
    exact h.elim
noncomputable def Γy21 : FuncId → Con := ext Γy20 215 l7UntilsC
attribute [go_sem] Γy21
theorem Γy21_ok : ∀ g, ConOk Try.prog g (Γy21 g) := ext_ok Γy20_ok l7UntilsC_ok

def PhOk (us : List Int) (ph : Int) : Prop := 0 ≤ ph ∧ ph ≤ 1000 ∧ (us.length = 0 ∨ ph < us.length)
theorem PhOk.zero (us : List Int) : PhOk us 0 := ⟨by omega, by omega, by omega⟩
theorem PhOk.next {us : List Int} {ph : Int} (h : PhOk us ph) (hl : us.length ≤ 1000) (hn : ¬ us.length = 0) : PhOk us ((ph + 1).tmod us.length) := by
  obtain ⟨h1, h2, h3⟩ := h
  have a := Int.tmod_nonneg (a := ph + 1) (us.length : Int) (by omega)
  have b := Int.tmod_lt_of_pos (ph + 1) (b := (us.length : Int)) (by omega)
  exact ⟨a, by omega, .inr b⟩

noncomputable def l7Phase_enc : Int × Bool → D := fun x => .tup [.int .i64 x.1, .bool x.2]
attribute [go_sem] l7Phase_enc
def l7Phase_good (bs : List Tree) (us : List Int) (s : Int) (ph : Int) : Int × Bool → Prop := fun x => PhOk us x.1
noncomputable def l7Phase_sel (bs : List Tree) (us : List Int) (s : Int) (ph : Int) (c : Any) : Int × Bool := sel (l7Phase_good bs us s ph) ((0, true)) c
theorem l7Phase_ok (bs : List Tree) (us : List Int) (s : Int) (ph : Int) (hA : AllW bs) (hU : UntOk bs us) (hp : PhOk us ph) (hl : us.length ≤ 1000) (c : Any) : l7Phase_good bs us s ph (l7Phase_sel bs us s ph c) := sel_ok (p := l7Phase_good bs us s ph) (x0 := (0, true)) (PhOk.zero us) c
theorem l7Phase_ret (bs : List Tree) (us : List Int) (s : Int) (ph : Int) {e_ : Exit} {S_ : St} (x : Int × Bool) (he_ : e_ = .ret ∨ e_ = .normal)
    (h1 : (zaak Try.prog S_ Try.f217.results.toList).1 ∧ resD (zaak Try.prog S_ Try.f217.results.toList).2.1 = l7Phase_enc x) (hg : l7Phase_good bs us s ph x) :
    retR Try.prog Try.f217 (fun c => (l7Phase_enc (l7Phase_sel bs us s ph c), fun _ => none)) e_ S_ := ret_prel (enc := l7Phase_enc) x he_ h1 hg
set_option maxHeartbeats 8000000 in
theorem l7Phase_pure (bs : List Tree) (us : List Int) (s : Int) (ph : Int) (hA : AllW bs) (hU : UntOk bs us) (hp : PhOk us ph) (hl : us.length ≤ 1000) : PureR Try.prog 217 [li cX bs, li cI us, .int .i64 s, .int .i64 ph] (fun c => l7Phase_enc (l7Phase_sel bs us s ph c)) := by
  refine PureR.of_walk Try.func217 rfl (by simp [Try.f217]) (fun c => by simp [-List.drop_one, go_sem]) fun B hK => ?_
  obtain ⟨p1, p2, p3⟩ := id hp
  all_goals (repeat' (first
    | refine AW_seq ?_
    | refine zaac (id := 0) Γy21_ok [] (by kernel_rfl) ?_; simp  [-List.getD_eq_getElem?_getD, -List.drop_one, ↓zaab, ↓zaaa, go_sem]
    | refine zaac (id := 1) Γy21_ok [] (by kernel_rfl) ?_; simp  [-List.getD_eq_getElem?_getD, -List.drop_one, ↓zaab, ↓zaaa, go_sem]
    | refine zaac (id := 2) Γy21_ok [] (by kernel_rfl) ?_; simp  [-List.getD_eq_getElem?_getD, -List.drop_one, ↓zaab, ↓zaaa, go_sem]
    | ((have hn : ¬ us.length = 0 := (fun h => c12 (List.length_eq_zero_iff.1 h))); (have hpl : ph.toNat < us.length := (by omega)); (obtain ⟨u0, u1, u2⟩ := hU.2 (nth us ph.toNat) (nth_mem hpl))); refine zaac (id := 3) Γy21_ok [] (by kernel_rfl) ?_; simp  [-List.getD_eq_getElem?_getD, -List.drop_one, ↓zaab, ↓zaaa, go_sem, hpl, zaas hpl, Nat.sub_pos_of_lt hpl, p1, (show ph < (us.length : Int) by omega), hA, u0, u1, u2]; try ((intro c3); (generalize l7Fulfils_sel bs s (nth us ph.toNat) c3 = zf at *))
    | refine zaac (id := 4) Γy21_ok [] (by kernel_rfl) ?_; simp  [-List.getD_eq_getElem?_getD, -List.drop_one, ↓zaab, ↓zaaa, go_sem, wrap_in (x := ph + 1) (by omega) (by omega), hn, (show ¬ us = [] by rintro rfl; simp at hn)]
    | refine zaac (id := 5) Γy21_ok [] (by kernel_rfl) ?_; simp  [-List.getD_eq_getElem?_getD, -List.drop_one, ↓zaab, ↓zaaa, go_sem]
    | refine zaaf (c := .tmp 12) ?_; simp [-List.getD_eq_getElem?_getD, -List.drop_one, ↓zaab, ↓zaaa, go_sem]; try first | (refine ⟨?_, ?_⟩ <;> change AW _ _ _ _ _ _) | (refine ⟨fun c12 => ?_, fun c12 => ?_⟩ <;> (try simp [B_iff, B_not] at c12))
    | refine zaaf (c := .tmp 19) ?_; simp [-List.getD_eq_getElem?_getD, -List.drop_one, ↓zaab, ↓zaaa, go_sem]; try first | (refine ⟨?_, ?_⟩ <;> change AW _ _ _ _ _ _) | (refine ⟨fun c19 => ?_, fun c19 => ?_⟩ <;> (try simp [B_iff, B_not] at c19))
    | (refine zaag ?_)
    | (refine zaap ?_; simp [-List.getD_eq_getElem?_getD, -List.drop_one, ↓zaab, ↓zaaa, go_sem])
    | (refine zaan ?_; simp [-List.getD_eq_getElem?_getD, -List.drop_one, ↓zaab, ↓zaaa, go_sem])
    | (refine AW_ret ?_; try simp [-List.getD_eq_getElem?_getD, -List.drop_one, ↓zaab, ↓zaaa, go_sem, Try.results217])
    | (intro hx; change AW _ _ _ _ _ _)
    | (intro hx; change retR _ _ _ _ _)
    | (refine ⟨?_, ?_⟩ <;> change AW _ _ _ _ _ _)
    | (intro hx; refine ⟨fun hs => ?_, fun hs => ?_⟩)
    | (refine ⟨fun hs => ?_, fun hs => ?_⟩)
    | (refine ⟨?_, fun hs => ?_⟩; change AW _ _ _ _ _ _)
    | (refine ⟨fun hs => ?_, ?_⟩; rotate_left; change AW _ _ _ _ _ _; rotate_left)))
  all_goals (first
    | (refine l7Phase_ret _ _ _ _ ((0, true)) ?_ ?_ ?_; (first | exact Or.inl rfl | exact Or.inr rfl); (focus (simp [-List.getD_eq_getElem?_getD, -List.drop_one, ↓zaab, ↓zaaa, go_sem, Try.results217]; done)); (focus ((exact PhOk.zero us); done)))
    | (refine l7Phase_ret _ _ _ _ (((ph + 1).tmod us.length, decide (ph = 0))) ?_ ?_ ?_; (first | exact Or.inl rfl | exact Or.inr rfl); (focus (simp [-List.getD_eq_getElem?_getD, -List.drop_one, ↓zaab, ↓zaaa, go_sem, Try.results217]; done)); (focus ((exact hp.next hl hn); done)))
    | (refine l7Phase_ret _ _ _ _ ((ph, false)) ?_ ?_ ?_; (first | exact Or.inl rfl | exact Or.inr rfl); (focus (simp [-List.getD_eq_getElem?_getD, -List.drop_one, ↓zaab, ↓zaaa, go_sem, Try.results217]; done)); (focus ((exact hp); done)))
    | skip)
noncomputable def l7PhaseC : Con := .prel fun
  | [.list n_bs c_bs, .list n_us c_us, .int .i64 s, .int .i64 ph] => ((Is cX n_bs c_bs) ∧ (Is cI n_us c_us) ∧ (AllW (de cX c_bs)) ∧ (UntOk (de cX c_bs) (de cI c_us)) ∧ (PhOk (de cI c_us) ph) ∧ ((de cI c_us).length ≤ 1000), fun c => l7Phase_enc (l7Phase_sel (de cX c_bs) (de cI c_us) s ph c))
  | _ => (False, fun _ => .any)
attribute [go_sem] l7PhaseC
theorem l7PhaseC_ok : ConOk Try.prog 217 l7PhaseC := by
  refine ⟨zaal Try.func217 (by decide) rfl, fun args h => ?_⟩
  revert h
  dsimp only
  split
  · intro h
    obtain ⟨⟨bs, rfl, rfl⟩, ⟨us, rfl, rfl⟩, hA, hU, hp, hl⟩ := h
    try simp only [de_cat] at *
    exact ⟨l7Phase_pure bs us _ _ hA hU hp hl, fun c => by simp [go_sem]⟩
  · intro h
    exact h.elim
noncomputable def Γy22 : FuncId → Con := ext Γy21 217 l7PhaseC
attribute [go_sem] Γy22
theorem Γy22_ok : ∀ g, ConOk Try.prog g (Γy22 g) := ext_ok Γy21_ok l7PhaseC_ok

noncomputable def Γy22x : FuncId → Con := ext Γy22 115 l2Ints_pureC
attribute [go_sem] Γy22x
theorem Γy22x_ok : ∀ g, ConOk Try.prog g (Γy22x g) := ext_ok Γy22_ok l2Ints_pureC_ok

noncomputable def l7Pair_enc0 : List (List Int) × Int → D := fun x => .tup [.fr 1 x.1.length (cat cL x.1), .int .i64 x.2]
attribute [go_sem] l7Pair_enc0
def l7Pair_good (xs : List (List Int)) (pr : List Int) : List (List Int) × Int → Prop := fun x => (x.1 = xs ∨ x.1 = xs ++ [pr])
noncomputable def l7Pair_sel (xs : List (List Int)) (pr : List Int) (c : Any) : List (List Int) × Int := sel (l7Pair_good xs pr) ((xs, 0)) c
theorem l7Pair_ok (xs : List (List Int)) (pr : List Int) (hn : xs.length ≤ 100000) (c : Any) : l7Pair_good xs pr (l7Pair_sel xs pr c) := sel_ok (p := l7Pair_good xs pr) (x0 := (xs, 0)) (.inl rfl) c
theorem l7Pair_ret (xs : List (List Int)) (pr : List Int) {e_ : Exit} {S_ : St} (x : List (List Int) × Int) (he_ : e_ = .ret ∨ e_ = .normal)
    (h1 : (zaak Try.prog S_ Try.f86.results.toList).1 ∧ resD (zaak Try.prog S_ Try.f86.results.toList).2.1 = l7Pair_enc0 x) (hg : l7Pair_good xs pr x) :
    retR Try.prog Try.f86 (fun c => (l7Pair_enc0 (l7Pair_sel xs pr c), fun _ => none)) e_ S_ := ret_prel (enc := l7Pair_enc0) x he_ h1 hg
set_option maxHeartbeats 8000000 in
theorem l7Pair_pure (xs : List (List Int)) (pr : List Int) (hn : xs.length ≤ 100000) : SpecR Try.prog 86 [fr 1 cL xs, fr 1 cI pr] (fun _ => none) (fun c => (l7Pair_enc0 (l7Pair_sel xs pr c), fun _ => none)) := by
  refine SpecR.of_walk Try.func86 rfl (by simp [Try.f86]) fun B => ?_
  (repeat' (first
    | refine AW_seq ?_
    | ((refine AW_shut 1 ?_); (simp only [go_sem, dat, datL_map, cat_flat2]); (refine AW_mat 0 rfl fun nb cp j hnb hcp hcj => ?_); (simp only [go_sem] at hnb ⊢); (clear hnb); (have e0 := cat_take_app1 (f := cL) xs (List.replicate j D.any))); refine zaac (id := 0) Γy22x_ok [] (by kernel_rfl) ?_; simp  [-List.getD_eq_getElem?_getD, -List.drop_one, ↓zaab, ↓zaaa, go_sem]
    | refine zaac (id := 1) Γy22x_ok [] (by kernel_rfl) ?_; simp  [-List.getD_eq_getElem?_getD, -List.drop_one, ↓zaab, ↓zaaa, go_sem]
    | refine zaac (id := 2) Γy22x_ok [] (by kernel_rfl) ?_; simp  [-List.getD_eq_getElem?_getD, -List.drop_one, ↓zaab, ↓zaaa, go_sem]
    | refine zaac (id := 4) Γy22x_ok [] (by kernel_rfl) ?_; simp  [-List.getD_eq_getElem?_getD, -List.drop_one, ↓zaab, ↓zaaa, go_sem, c10, zaas c10, Nat.sub_pos_of_lt c10, (show i < xs.length + j by omega)]
    | ((refine AW_unmat 0 (b := nb) (all := cat cL xs ++ List.replicate j D.any) rfl (by simp [upd]) (by omega) (by simp [zaaj]) (by simp [zaaj]; omega) ?_)); refine zaac (id := 5) Γy22x_ok [] (by kernel_rfl) ?_; simp  [-List.getD_eq_getElem?_getD, -List.drop_one, ↓zaab, ↓zaaa, go_sem]
    | refine zaac (id := 3) Γy22x_ok [] (by kernel_rfl) ?_; simp  [-List.getD_eq_getElem?_getD, -List.drop_one, ↓zaab, ↓zaaa, go_sem, wrapS (k := i) (by omega)]
    | refine zaac (id := 6) Γy22x_ok [] (by kernel_rfl) ?_; simp  [-List.getD_eq_getElem?_getD, -List.drop_one, ↓zaab, ↓zaaa, go_sem, (show xs.length ≤ 9223372036854775806 by omega), (show 2 * (xs.length + 1) * 24 ≤ 281474976710656 by omega), (show cp ≤ xs.length + j by omega), hcj, (show xs.length ≤ xs.length + j by omega)]
    | refine zaaf (c := .tmp 10) ?_; simp [-List.getD_eq_getElem?_getD, -List.drop_one, ↓zaab, ↓zaaa, go_sem]; try first | (refine ⟨?_, ?_⟩ <;> change AW _ _ _ _ _ _) | (refine ⟨fun c10 => ?_, fun c10 => ?_⟩ <;> (try simp [B_iff, B_not] at c10))
    | refine zaaf (c := .tmp 18) ?_; simp [-List.getD_eq_getElem?_getD, -List.drop_one, ↓zaab, ↓zaaa, go_sem]; try first | (refine ⟨?_, ?_⟩ <;> change AW _ _ _ _ _ _) | (refine ⟨fun c18 => ?_, fun c18 => ?_⟩ <;> (try simp [B_iff, B_not] at c18))
    | (refine zaag (id := 0) (AW_loop (ι := Nat) (fun i : Nat => ⟨(upd (upd (upd (fun _ => .any) 0 (.sl nb 1 0 xs.length cp)) 1 (.list pr.length (cat cI pr))) 6 (.int .i64 i)), upd (fun _ => none) nb (some (cat cL xs ++ List.replicate j D.any))⟩) (fun i => i ≤ xs.length) (fun i => xs.length - i) (0) ?_ ?_ ?_); exact Nat.zero_le _; ((repeat' (first | exact zaad (by assumption) | exact zaah | refine zaai ?_ ?_ | refine zaae ?_)) <;> simp [-List.getD_eq_getElem?_getD, -List.drop_one, ↓zaab, ↓zaaa, go_sem]); rintro i hi)
    | (refine ⟨i + 1, by omega, by first | omega | (simp; done) | (simp; omega), ?_⟩; ((repeat' (first | exact zaad (by assumption) | exact zaah | refine zaai ?_ ?_ | refine zaae ?_)) <;> simp [-List.getD_eq_getElem?_getD, -List.drop_one, ↓zaab, ↓zaaa, go_sem]))
    | (refine zaag ?_)
    | (refine zaap ?_; simp [-List.getD_eq_getElem?_getD, -List.drop_one, ↓zaab, ↓zaaa, go_sem])
    | (refine zaan ?_; simp [-List.getD_eq_getElem?_getD, -List.drop_one, ↓zaab, ↓zaaa, go_sem])
    | (refine AW_ret ?_; try simp [-List.getD_eq_getElem?_getD, -List.drop_one, ↓zaab, ↓zaaa, go_sem, Try.results86])
    | (intro hx; change AW _ _ _ _ _ _)
    | (intro hx; change retR _ _ _ _ _)
    | (refine ⟨?_, ?_⟩ <;> change AW _ _ _ _ _ _)
    | (intro hx; refine ⟨fun hs => ?_, fun hs => ?_⟩)
    | (refine ⟨fun hs => ?_, fun hs => ?_⟩)
    | (refine ⟨?_, fun hs => ?_⟩; change AW _ _ _ _ _ _)
    | (refine ⟨fun hs => ?_, ?_⟩; rotate_left; change AW _ _ _ _ _ _; rotate_left)))
  all_goals (first
    | (refine l7Pair_ret _ _ ((xs, (i : Int))) ?_ ?_ ?_; (first | exact Or.inl rfl | exact Or.inr rfl); (focus (simp [-List.getD_eq_getElem?_getD, -List.drop_one, ↓zaab, ↓zaaa, go_sem, Try.results86, cat_take_app1]; done)); (focus ((exact .inl rfl); done)))
    | (refine l7Pair_ret _ _ ((xs ++ [pr], (xs.length : Int))) ?_ ?_ ?_; (first | exact Or.inl rfl | exact Or.inr rfl); (focus (simp [-List.getD_eq_getElem?_getD, -List.drop_one, ↓zaab, ↓zaaa, go_sem, Try.results86, cat_append, cat_one, li, cL]; done)); (focus ((exact .inr rfl); done)))
    | skip)
noncomputable def l7PairC : Con := .rel fun args H => match args with
  | [.fr 1 n_xs c_xs, .fr 1 n_pr c_pr] => ((Is cL n_xs c_xs) ∧ (Is cI n_pr c_pr) ∧ ((de cL c_xs).length ≤ 100000), fun c => (l7Pair_enc0 (l7Pair_sel (de cL c_xs) (de cI c_pr) c), H))
  | _ => (False, fun _ => (.any, H))
attribute [go_sem] l7PairC
theorem l7PairC_ok : ConOk Try.prog 86 l7PairC := by
  refine ⟨zaal Try.func86 (by decide) rfl, fun args H h => ?_⟩
  revert h
  dsimp only
  split
  · intro h
    obtain ⟨⟨xs, rfl, rfl⟩, ⟨pr, rfl, rfl⟩, hn⟩ := h
    try simp only [de_cat] at *
    exact (SpecR.frame0 (l7Pair_pure xs pr hn) (H := H))
  · intro h
    exact h.elim
noncomputable def Γy23 : FuncId → Con := ext Γy22x 86 l7PairC
attribute [go_sem] Γy23
theorem Γy23_ok : ∀ g, ConOk Try.prog g (Γy23 g) := ext_ok Γy22x_ok l7PairC_ok

end Go.Proofs.Ytkjimmkemnmajaa.Vm

