/-
  Blocks get names and lose them; how a walk over abstract states begins, goes and ends. No conditions; nothing of the program is named here.
-/
import Derived.Test.YtlbbhkpjjciaiaaVm9
namespace Go.Proofs.Ytlbbhkpjjciaiaa.Vm
open Go
set_option linter.unusedVariables false
set_option linter.unusedSimpArgs false
set_option linter.unusedSectionVars false
section
variable {P : Program} {Γ : FuncId → Con} {B : Base} {n : Nat} {S : St} {ds : List D} {vs : List Value} {a : Act} {w : World} {μ : Nat → Nat} {fp : Root → List Nat} {N : Nat}

theorem R.hlt (h : R B n S ds vs a w μ fp N) {b : Nat} {cs : List D} (hc : S.H b = some cs) : b < N := (h.bH b cs hc).1
theorem R.hN (h : R B n S ds vs a w μ fp N) : S.H N = none := by
  cases hc : S.H N with
  | none => rfl
  | some cs => exact absurd (h.hlt hc) (Nat.lt_irrefl _)
/-- The bag is read in other words. -/
theorem R.rebag (h : R B n S ds vs a w μ fp N) {ds' : List D} {vs' : List Value} (hr : RepL μ (Im B w fp) w ds' vs' (fp .bag)) (hb : bndL N ds') : R B n S ds' vs' a w μ fp N := { h with bg := hr, bB := hb }

/-! ### Names -/
/-- A new name for a block of the bag's first value. -/
theorem R.name {d : D} {v : Value} (h : R B n S (d :: ds) (v :: vs) a w μ fp N) {x : Nat} {cs : List D} {cells : Array Value} {f f2 : List Nat} (hf : fp .bag = (x :: f) ++ f2) (h2 : RepL μ (Im B w fp) w ds vs f2) (hw : Whole w x cells) (hr : RepL μ (Im B w fp) w cs (cells.toList.take cs.length) f) (hcs : bndL N cs)
    {d' : D} (hd : ∀ μ' I, μ' N = x → Rep μ' I w d' v []) (hdb : bnd (N + 1) d') :
    ∃ fp', R B n ⟨S.T, upd S.H N (some (cs ++ List.replicate (cells.size - cs.length) .any))⟩ (d' :: ds) (v :: vs) a w (upd μ N x) fp' (N + 1) := by
  have hnod : ((x :: f) ++ f2).Nodup := hf ▸ h.nod .bag
  have hn' := List.nodup_append.1 hnod
  have hnx := List.nodup_cons.1 hn'.1
  obtain ⟨g, g1, g2, g3, g4⟩ := hr.slots hnx.2
  have hNn := h.hN
  have hNf := h.hn N hNn
  let fp' : Root → List Nat := fun r => match r with
    | .bag => f2
    | .blk b => if b = N then [x] else fp (.blk b)
    | .cell b i => if b = N then g i else fp (.cell b i)
    | .slot t => fp (.slot t)
  have hkey : ∀ r y, y ∈ fp' r → (y ∈ fp r ∧ r ≠ .bag ∧ r ≠ .blk N ∧ ∀ i, r ≠ .cell N i) ∨ (r = .bag ∧ y ∈ f2) ∨ (r = .blk N ∧ y = x) ∨ ∃ i, r = .cell N i ∧ y ∈ g i := by
    intro r y hy
    cases r with
    | slot t => exact .inl ⟨hy, by simp, by simp, by simp⟩
    | bag => exact .inr (.inl ⟨rfl, hy⟩)
    | blk b =>
      simp only [fp'] at hy
      split at hy
      · rename_i e; subst e; exact .inr (.inr (.inl ⟨rfl, by simpa using hy⟩))
      · rename_i e; exact .inl ⟨hy, by simp, by simp [e], by simp⟩
    | cell b i =>
      simp only [fp'] at hy
      split at hy
      · rename_i e; subst e; exact .inr (.inr (.inr ⟨i, rfl, hy⟩))
      · rename_i e; exact .inl ⟨hy, by simp, by simp, fun j hj => by simp at hj; exact e hj.1⟩
  have inbag : ∀ y, y ∈ f2 ∨ y = x ∨ (∃ i, y ∈ g i) → y ∈ fp .bag := by
    intro y hy
    rw [hf]
    rcases hy with hy | rfl | ⟨i, hy⟩
    · exact List.mem_append_right _ hy
    · simp
    · have := g2 i y hy; simp [this]
  have hm : Moves fp fp' := by
    refine ⟨fun r y hy => ?_, fun r => ?_, fun r r' y hy hz => ?_⟩
    · rcases hkey r y hy with ⟨k, _⟩ | ⟨_, k⟩ | ⟨_, k⟩ | ⟨i, _, k⟩
      · exact ⟨r, k⟩
      · exact ⟨_, inbag y (.inl k)⟩
      · exact ⟨_, inbag y (.inr (.inl k))⟩
      · exact ⟨_, inbag y (.inr (.inr ⟨i, k⟩))⟩
    · cases r with
      | slot t => exact h.nod _
      | bag => exact hn'.2.1
      | blk b => simp only [fp']; split; simp; exact h.nod _
      | cell b i => simp only [fp']; split; exact g3 i; exact h.nod _
    · have no : ∀ r, r ≠ .bag → y ∈ fp r → ¬ (y ∈ f2 ∨ y = x ∨ ∃ i, y ∈ g i) := fun r hr hy hx => hr (h.dis _ _ y hy (inbag y hx))
      rcases hkey r y hy with ⟨k, k2, _⟩ | ⟨e, k⟩ | ⟨e, k⟩ | ⟨i, e, k⟩ <;> rcases hkey r' y hz with ⟨l, l2, _⟩ | ⟨e', l⟩ | ⟨e', l⟩ | ⟨i', e', l⟩
      · exact h.dis _ _ y k l
      · exact (no r k2 k (.inl l)).elim
      · exact (no r k2 k (.inr (.inl l))).elim
      · exact (no r k2 k (.inr (.inr ⟨i', l⟩))).elim
      · exact (no r' l2 l (.inl k)).elim
      · rw [e, e']
      · subst l; exact (hn'.2.2 y (by simp) y k rfl).elim
      · exact (hn'.2.2 y (by simp [g2 i' y l]) y k rfl).elim
      · exact (no r' l2 l (.inr (.inl k))).elim
      · subst k; exact (hn'.2.2 y (by simp) y l rfl).elim
      · rw [e, e']
      · subst k; exact (hnx.1 (g2 i' y l)).elim
      · exact (no r' l2 l (.inr (.inr ⟨i, k⟩))).elim
      · exact (hn'.2.2 y (by simp [g2 i y k]) y l rfl).elim
      · subst l; exact (hnx.1 (g2 i y k)).elim
      · rw [e, e', g4 i i' y k l]
  have hμ : ∀ b, b < N → upd μ N x b = μ b := fun b hb => upd_ne (Nat.ne_of_lt hb)
  have hbb := h.bB
  simp only [bndL] at hbb
  refine ⟨fp', h.len, h.dfs, h.frm, h.jk, h.own' hm, hm.nod, hm.dis, fun t => Rep.ren hμ (h.bT t) ((h.tm t).sub hm.sub), ?_, ?_, ?_, fun t => bnd.mono (Nat.le_succ N) (h.bT t), ?_, ?_, ?_⟩
  · simp only [RepL]
    exact ⟨v, vs, [], f2, rfl, rfl, hd _ _ (upd_eq ..), RepL.ren hμ hbb.2 (h2.sub hm.sub)⟩
  · intro b cs' hc
    by_cases e : b = N
    · subst e
      dsimp only at hc
      rw [upd_eq] at hc
      cases hc
      have hlen : cs.length ≤ cells.size := by have := hr.length; rw [List.length_take] at this; simp at this; omega
      by_cases h0 : cells.size = 0
      · refine .inr ⟨cells, by rw [upd_eq]; exact hw, by simp; omega, by rw [upd_eq]; simp [fp'], fun i d hd => ?_, fun i hi => ?_⟩
        · have : cs = [] := List.eq_nil_of_length_eq_zero (by omega)
          subst this
          simp [h0] at hd
        · simp only [fp', if_true]
          refine List.eq_nil_iff_forall_not_mem.2 fun y hy => ?_
          have := hr.length
          rw [List.length_take] at this
          have hc0 : cs = [] := List.eq_nil_of_length_eq_zero (by omega)
          subst hc0
          simp only [RepL] at hr
          have := g2 i y hy
          rw [hr.2] at this
          cases this
      · refine .inr ⟨cells, by rw [upd_eq]; exact hw, by simp; omega, by rw [upd_eq]; simp [fp'], fun i d hd => ?_, fun i hi => ?_⟩
        · by_cases hi : i < cs.length
          · rw [List.getElem?_append_left hi] at hd
            have hr1 := g1 i
            have e1 : cs.getD i .any = d := by rw [List.getD_eq_getElem?_getD, hd]; rfl
            have e2 : (cells.toList.take cs.length).getD i undef = cells[i]'(by omega) := by
              rw [List.getD_eq_getElem?_getD, List.getElem?_take, if_pos hi]; simp; rw [Array.getElem?_eq_getElem (by omega)]; rfl
            rw [e1, e2] at hr1
            refine ⟨_, Array.getElem?_eq_getElem (by omega), ?_⟩
            simp only [fp', if_true]
            exact Rep.ren hμ (bndL_iff.1 hcs d (List.mem_of_getElem? hd)) (hr1.sub hm.sub)
          · rw [List.getElem?_append_right (by omega), List.getElem?_replicate] at hd
            split at hd
            · cases hd
              have gi : g i = [] := by
                have hr1 := g1 i
                have e1 : cs.getD i .any = .any := by rw [List.getD_eq_getElem?_getD, List.getElem?_eq_none (by omega)]; rfl
                rw [e1] at hr1
                simpa [Rep] using hr1
              exact ⟨_, Array.getElem?_eq_getElem (by omega), by simp only [fp', if_true, gi, Rep]⟩
            · cases hd
        · simp only [fp', if_true]
          have hr1 := g1 i
          have e1 : cs.getD i .any = .any := by rw [List.getD_eq_getElem?_getD, List.getElem?_eq_none (by simp at hi; omega)]; rfl
          rw [e1] at hr1
          simpa [Rep] using hr1
    · dsimp only at hc
      rw [upd_ne e] at hc
      have hb := h.bH b cs' hc
      have := (h.hp b cs' hc).sub hm.sub (by simp [fp', e]) (by simp [fp', e])
      rcases this with q | ⟨cells2, q1, q2, q3, q4, q5⟩
      · exact .inl q
      · refine .inr ⟨cells2, by rw [hμ b hb.1]; exact q1, q2, by rw [hμ b hb.1]; exact q3, fun i d hd => ?_, q5⟩
        obtain ⟨y, hy, hr⟩ := q4 i d hd
        exact ⟨y, hy, Rep.ren hμ (bndL_iff.1 hb.2 d (List.mem_of_getElem? hd)) hr⟩
  · intro b hb
    have e : b ≠ N := by rintro rfl; dsimp only at hb; rw [upd_eq] at hb; cases hb
    dsimp only at hb
    rw [upd_ne e] at hb
    have := h.hn b hb
    simp [fp', e, this]
  · simp only [bndL]
    exact ⟨hdb, bndL.mono (Nat.le_succ N) hbb.2⟩
  · intro b cs' hc
    by_cases e : b = N
    · subst e
      dsimp only at hc
      rw [upd_eq] at hc
      cases hc
      refine ⟨Nat.lt_succ_self _, bndL_iff.2 fun d hd => ?_⟩
      rcases List.mem_append.1 hd with hd | hd
      · exact bnd.mono (Nat.le_succ _) (bndL_iff.1 hcs d hd)
      · rw [(List.mem_replicate.1 hd).2]; simp [bnd]
    · dsimp only at hc
      rw [upd_ne e] at hc
      have hb := h.bH b cs' hc
      exact ⟨Nat.lt_succ_of_lt hb.1, bndL.mono (Nat.le_succ N) hb.2⟩
  · exact ⟨Nat.le_succ_of_le h.rn.1, fun b hb => (hμ b (Nat.lt_of_lt_of_le hb h.rn.1)).trans (h.rn.2 b hb)⟩
/-- The bag's first value, a slice of its own, gets a name. -/
theorem R.mat {sz m : Nat} {cs : List D} {v : Value} (h : R B n S (.fr sz m cs :: ds) (v :: vs) a w μ fp N) :
    ∃ c k μ' fp', m ≤ c ∧ c * sz ≤ m * sz + k ∧ (∀ b, b < N → μ' b = μ b) ∧ R B n ⟨S.T, upd S.H N (some (cs ++ List.replicate k .any))⟩ (.sl N sz 0 m c :: ds) (v :: vs) a w μ' fp' (N + 1) := by
  have hbg := h.bg
  simp only [RepL] at hbg
  obtain ⟨v', vs', f1, f2, he, hf, h1, h2⟩ := hbg
  cases he
  have hb := h.bB
  simp only [bndL, bnd] at hb
  simp only [Rep] at h1
  obtain ⟨hmax, hlen, h1⟩ := h1
  rcases h1 with ⟨rfl, rfl, A, rfl⟩ | ⟨b, c, cells, us, f, rfl, hmc, hw, hcs, hcell, hrep, rfl⟩
  · have hc0 : cs = [] := List.eq_nil_of_length_eq_zero (by simpa using hlen)
    subst hc0
    refine ⟨0, 0, μ, fp, Nat.le_refl _, by simp, fun _ _ => rfl, ?_⟩
    have hN := h.hN
    have hNf := h.hn N hN
    refine ⟨h.len, h.dfs, h.frm, h.jk, h.own, h.nod, h.dis, h.tm, ?_, ?_, ?_, fun t => bnd.mono (Nat.le_succ N) (h.bT t), ?_, ?_, ⟨Nat.le_succ_of_le h.rn.1, h.rn.2⟩⟩
    · rw [hf]
      simp only [RepL, List.nil_append]
      exact ⟨_, vs, [], f2, rfl, rfl, by simp only [Rep]; exact ⟨trivial, Nat.le_refl _, hmax, ⟨A, rfl⟩, .inl trivial⟩, h2⟩
    · intro b cs' hc
      by_cases e : b = N
      · subst e
        dsimp only at hc
        rw [upd_eq] at hc
        cases hc
        exact .inl ⟨by simp, hNf⟩
      · dsimp only at hc
        rw [upd_ne e] at hc
        exact h.hp b cs' hc
    · intro b hb'
      have e : b ≠ N := by rintro rfl; dsimp only at hb'; rw [upd_eq] at hb'; cases hb'
      dsimp only at hb'
      rw [upd_ne e] at hb'
      exact h.hn b hb'
    · simp only [bndL, bnd]; exact ⟨Nat.lt_succ_self _, bndL.mono (Nat.le_succ N) hb.2⟩
    · intro b cs' hc
      by_cases e : b = N
      · subst e
        dsimp only at hc
        rw [upd_eq] at hc
        cases hc
        exact ⟨Nat.lt_succ_self _, by simp [bndL]⟩
      · dsimp only at hc
        rw [upd_ne e] at hc
        have hb := h.bH b cs' hc
        exact ⟨Nat.lt_succ_of_lt hb.1, bndL.mono (Nat.le_succ N) hb.2⟩
  · have hul := hrep.length
    have hle : cs.length ≤ cells.size := by rw [hlen]; exact Nat.le_trans (Nat.mul_le_mul_right sz hmc) hcs
    have hus : us = cells.toList.take cs.length := by
      apply List.ext_getElem?
      intro i
      rw [List.getElem?_take]
      by_cases hi : i < cs.length
      · rw [if_pos hi]
        obtain ⟨u, hu⟩ : ∃ u, us[i]? = some u := ⟨_, List.getElem?_eq_getElem (by omega)⟩
        rw [hu]
        have := hcell i u hu
        simpa using this.symm
      · rw [if_neg hi, List.getElem?_eq_none (by omega)]
    rw [hus] at hrep
    obtain ⟨fp', h'⟩ := h.name hf h2 hw hrep hb.1 (d' := .sl N sz 0 m c) (fun μ' I hμ => by simp only [Rep]; exact ⟨trivial, hmc, hmax, ⟨_, rfl⟩, .inr (by rw [hμ])⟩) (by simp [bnd])
    exact ⟨c, cells.size - cs.length, _, fp', hmc, by omega, fun b hb => upd_ne (Nat.ne_of_lt hb), h'⟩
/-- The bag's first value, a pointer to memory of its own, gets a name. -/
theorem R.matBox {cs : List D} {v : Value} (h : R B n S (.box cs :: ds) (v :: vs) a w μ fp N) :
    ∃ μ' fp', R B n ⟨S.T, upd S.H N (some cs)⟩ (.ptr N 0 :: ds) (v :: vs) a w μ' fp' (N + 1) := by
  have hbg := h.bg
  simp only [RepL] at hbg
  obtain ⟨v', vs', f1, f2, he, hf, h1, h2⟩ := hbg
  cases he
  have hb := h.bB
  simp only [bndL, bnd] at hb
  simp only [Rep] at h1
  obtain ⟨b, cells, f, rfl, hw, hrep, rfl⟩ := h1
  have hul := hrep.length
  have e : cells.toList.take cs.length = cells.toList := List.take_of_length_le (by omega)
  rw [← e] at hrep
  obtain ⟨fp', h'⟩ := h.name hf h2 hw hrep hb.1 (d' := .ptr N 0) (fun μ' I hμ => by simp only [Rep]; exact ⟨trivial, by rw [hμ]⟩) (by simp [bnd])
  have e2 : cells.size - cs.length = 0 := by simp at hul; omega
  rw [e2] at h'
  simp only [List.replicate_zero, List.append_nil] at h'
  exact ⟨_, fp', h'⟩
end
end Go.Proofs.Ytlbbhkpjjciaiaa.Vm

