/-
  The rules of walks over abstract states; contracts out of walks. No conditions; nothing of the program is named here.
-/
import Derived.Test.YtlbbhkpjjciaiaaVm10
namespace Go.Proofs.Ytlbbhkpjjciaiaa.Vm
open Go
set_option linter.unusedVariables false
set_option linter.unusedSimpArgs false
set_option linter.unusedSectionVars false
section
variable {P : Program} {Γ : FuncId → Con} {B : Base} {n : Nat} {S S' : St} {Q : Exit → St → Prop}

/-! ### Control -/
def Exit.thenA (next : St → Prop) (Q : Exit → St → Prop) : Exit → St → Prop
  | .normal, S => next S
  | e, S => Q e S
theorem AW_seq {x y : Code} (h : AW P B n x (Exit.thenA (AW P B n y Q) Q) S) : AW P B n (.seq x y) Q S := fun a w μ fp N hR =>
  wp_seq (wp_mono (h a w μ fp N hR) fun e a' w' he => by
    cases e with
    | normal => obtain ⟨S', μ', fp', N', h1, h2⟩ := he; exact h2 a' w' μ' fp' N' h1
    | exit id => exact he
    | ret => exact he
    | goto l => exact he
    | panic c => exact he
    | outgrown => exact he)
/-- Between the two stands what the first is asked for. -/
theorem AW_cut {x y : Code} (M : St → Prop) (h : AW P B n x (Exit.thenA M Q) S) (k : ∀ S', M S' → AW P B n y Q S') : AW P B n (.seq x y) Q S := fun a w μ fp N hR =>
  wp_seq (wp_mono (h a w μ fp N hR) fun e a' w' he => by
    cases e with
    | normal => obtain ⟨S', μ', fp', N', h1, h2⟩ := he; exact k S' h2 a' w' μ' fp' N' h1
    | exit id => exact he
    | ret => exact he
    | goto l => exact he
    | panic c => exact he
    | outgrown => exact he)
theorem AW_mono {c : Code} {Q' : Exit → St → Prop} (h : AW P B n c Q S) (k : ∀ e S, Q e S → Q' e S) : AW P B n c Q' S := fun a w μ fp N hR =>
  wp_mono (h a w μ fp N hR) fun e a' w' he => by
    cases e with
    | normal => obtain ⟨S', μ', fp', N', h1, h2⟩ := he; exact ⟨S', μ', fp', N', h1, k _ _ h2⟩
    | exit id => obtain ⟨S', μ', fp', N', h1, h2⟩ := he; exact ⟨S', μ', fp', N', h1, k _ _ h2⟩
    | ret => obtain ⟨S', μ', fp', N', h1, h2⟩ := he; exact ⟨S', μ', fp', N', h1, k _ _ h2⟩
    | goto l => exact he
    | panic c => exact he
    | outgrown => exact he
theorem AW_skip (h : Q .normal S) : AW P B n .skip Q S := fun a w μ fp N hR => wp_skip ⟨S, μ, fp, N, hR, h⟩
theorem AW_exit {id : Nat} (h : Q (.exit id) S) : AW P B n (.exit id) Q S := fun a w μ fp N hR => wp_exit ⟨S, μ, fp, N, hR, h⟩
theorem AW_ret (h : Q .ret S) : AW P B n .ret Q S := fun a w μ fp N hR => wp_ret ⟨S, μ, fp, N, hR, h⟩
theorem AW_cond {c : Operand} {x y : Code} {b : Bool} (hc : look S.T c = .bool b) (h1 : b = true → AW P B n x Q S) (h2 : b = false → AW P B n y Q S) : AW P B n (.cond c x y) Q S := fun a w μ fp N hR =>
  wp_cond_split (t := b) (by have := (hR.look c).1; rw [hc] at this; simp only [Rep] at this; exact this.2) (fun e => h1 e a w μ fp N hR) (fun e => h2 e a w μ fp N hR)
theorem AW_cond2 {c : Operand} {x y : Code} (hc : look S.T c = .ubool) (h1 : AW P B n x Q S) (h2 : AW P B n y Q S) : AW P B n (.cond c x y) Q S := fun a w μ fp N hR => by
  have := (hR.look c).1
  rw [hc] at this
  simp only [Rep] at this
  obtain ⟨_, b, hb⟩ := this
  exact wp_cond_split hb (fun _ => h1 a w μ fp N hR) (fun _ => h2 a w μ fp N hR)
def Exit.inBlockA (id : Nat) (Q : Exit → St → Prop) : Exit → St → Prop
  | .exit id', S => if id' = id then Q .normal S else Q (.exit id') S
  | e, S => Q e S
theorem AW_block {id : Nat} {c : Code} (h : AW P B n c (Exit.inBlockA id Q) S) : AW P B n (.block id c) Q S := fun a w μ fp N hR =>
  wp_block (wp_mono (h a w μ fp N hR) fun e a' w' he => by
    cases e with
    | normal => exact he
    | exit id' =>
      obtain ⟨S', μ', fp', N', h1, h2⟩ := he
      simp only [Exit.inBlock, Exit.inBlockA] at h2 ⊢
      split
      · rename_i e; rw [if_pos e] at h2; exact ⟨S', μ', fp', N', h1, h2⟩
      · rename_i e; rw [if_neg e] at h2; exact ⟨S', μ', fp', N', h1, h2⟩
    | ret => exact he
    | goto l => exact he
    | panic c => exact he
    | outgrown => exact he)
theorem AW_less {c : Code} (k : Sub S S') (h : AW P B n c Q S') : AW P B n c Q S := fun a w μ fp N hR => by
  obtain ⟨fp', h'⟩ := hR.less k
  exact h a w μ fp' N h'
theorem wp_loop_ix {c : Code} {Q : Exit → Act → World → Prop} (I : Nat → Act → World → Prop) {k0 : Nat} {a : Act} {w : World} (h₀ : I k0 a w)
    (round : ∀ k a w, I k a w → c.wp P (Exit.then (fun a' w' => ∃ k', k' < k ∧ I k' a' w') Q) a w) : (Code.loop c).wp P Q a w := by
  intro b k cs
  have key : ∀ n a w, I n a w → ∃ e a' w', Q e a' w' ∧ Arrives P (lone (b.at a (.code c :: .inLoop c :: k)) cs w) b k cs e a' w' := by
    intro n
    induction n using Nat.strongRecOn with
    | _ n ih =>
      intro a w hI
      obtain ⟨e, a₁, w₁, hq, harr⟩ := round n a w hI b (.inLoop c :: k) cs
      cases e with
      | normal =>
        obtain ⟨k', hlt, hI₁⟩ := hq
        obtain ⟨e₂, a₂, w₂, hq₂, harr₂⟩ := ih k' hlt a₁ w₁ hI₁
        exact ⟨e₂, a₂, w₂, hq₂, .of_steps (Steps.trans harr (.one step_inLoop)) harr₂⟩
      | exit id => exact ⟨_, a₁, w₁, hq, .pass (x := .inLoop c) rfl (fun _ _ => .inl (by simp)) harr⟩
      | goto l => exact ⟨_, a₁, w₁, hq, .pass (x := .inLoop c) rfl (fun _ _ => .inl (by simp)) harr⟩
      | ret => exact ⟨_, a₁, w₁, hq, .pass (x := .inLoop c) rfl (fun _ _ => .inl (by simp)) harr⟩
      | panic ch => exact ⟨_, a₁, w₁, hq, .pass (x := .inLoop c) rfl (fun _ _ => .inl (by simp)) harr⟩
      | outgrown => exact ⟨_, a₁, w₁, hq, .pass (x := .inLoop c) rfl (fun _ _ => .inl (by simp)) harr⟩
  obtain ⟨e, a', w', hq, harr⟩ := key _ a w h₀
  exact ⟨e, a', w', hq, .of_steps (.one step_loop) harr⟩
/-- A round's end: again one of the states, the measure less. -/
def Next {ι : Type} (I : ι → St) (p : ι → Prop) (m : ι → Nat) (i : ι) (S' : St) : Prop := ∃ j, p j ∧ m j < m i ∧ Sub S' (I j)
/-- A loop: at its head stands one of the states I i with p i; each round makes the measure less. -/
theorem AW_loop {c : Code} {ι : Type} (I : ι → St) (p : ι → Prop) (m : ι → Nat) (i0 : ι) (h0 : p i0) (hs : Sub S (I i0))
    (round : ∀ i, p i → AW P B n c (Exit.thenA (Next I p m i) Q) (I i)) : AW P B n (.loop c) Q S := fun a w μ fp N hR => by
  obtain ⟨fp0, h0'⟩ := hR.less hs
  refine wp_loop_ix (fun k a w => ∃ i μ fp N, p i ∧ m i = k ∧ R B n (I i) [] [] a w μ fp N) ⟨i0, μ, fp0, N, h0, rfl, h0'⟩ ?_
  rintro k a w ⟨i, μ, fp, N, hp, rfl, hR⟩
  refine wp_mono (round i hp a w μ fp N hR) fun e a' w' he => ?_
  cases e with
  | normal =>
    obtain ⟨S', μ', fp', N', h1, j, hj, hm, hsub⟩ := he
    obtain ⟨fp2, h2⟩ := h1.less hsub
    exact ⟨m j, hm, j, μ', fp2, N', hj, rfl, h2⟩
  | exit id => exact he
  | ret => exact he
  | goto l => exact he
  | panic c => exact he
  | outgrown => exact he

/-! ### Slots and blocks -/
theorem AW_mat (t : Nat) {c : Code} {sz m : Nat} {cs : List D} (hT : S.T t = .fr sz m cs) (h : ∀ b cp k, S.H b = none → m ≤ cp → cp * sz ≤ m * sz + k → AW P B n c Q ⟨upd S.T t (.sl b sz 0 m cp), upd S.H b (some (cs ++ List.replicate k .any))⟩) : AW P B n c Q S := fun a w μ fp N hR => by
  obtain ⟨fp1, h1⟩ := hR.grab t
  rw [hT, List.nil_append, List.nil_append] at h1
  obtain ⟨cp, k, μ', fp2, q1, q2, _, h2⟩ := h1.mat
  obtain ⟨fp3, h3⟩ := h2.putback
  have e : upd (grab S.T t) t (.sl N sz 0 m cp) = upd S.T t (.sl N sz 0 m cp) := by
    funext y
    by_cases ey : y = t
    · subst ey; rw [upd_eq, upd_eq]
    · rw [upd_ne ey, upd_ne ey]
      simp only [grab]
      split
      · rw [upd_ne ey]
      · rfl
  rw [e] at h3
  exact h N cp k h1.hN q1 q2 a w μ' fp3 (N + 1) h3
theorem AW_matBox (t : Nat) {c : Code} {cs : List D} (hT : S.T t = .box cs) (h : ∀ b, S.H b = none → AW P B n c Q ⟨upd S.T t (.ptr b 0), upd S.H b (some cs)⟩) : AW P B n c Q S := fun a w μ fp N hR => by
  obtain ⟨fp1, h1⟩ := hR.grab t
  rw [hT, List.nil_append, List.nil_append] at h1
  obtain ⟨μ', fp2, h2⟩ := h1.matBox
  obtain ⟨fp3, h3⟩ := h2.putback
  have e : upd (grab S.T t) t (.ptr N 0) = upd S.T t (.ptr N 0) := by
    funext y
    by_cases ey : y = t
    · subst ey; rw [upd_eq, upd_eq]
    · rw [upd_ne ey, upd_ne ey]
      simp only [grab]
      split
      · rw [upd_ne ey]
      · rfl
  rw [e] at h3
  exact h N h1.hN a w μ' fp3 (N + 1) h3
/-- A named slice becomes a value of its own again. -/
theorem AW_unmat (t : Nat) {c : Code} {b sz m cp : Nat} {all : List D} (hT : S.T t = .sl b sz 0 m cp) (hH : S.H b = some all) (hsz : 0 < sz) (hm : m * sz ≤ all.length) (hc : cp * sz ≤ all.length) (h : AW P B n c Q ⟨upd S.T t (.fr sz m (all.take (m * sz))), upd S.H b none⟩) : AW P B n c Q S := fun a w μ fp N hR => by
  obtain ⟨fp1, h1⟩ := hR.grab t
  rw [hT, List.nil_append, List.nil_append] at h1
  have e : grab S.T t = S.T := grab_no (by rw [hT]; rfl)
  rw [e] at h1
  obtain ⟨fp2, h2, _⟩ := h1.unname hH hsz hm hc
  obtain ⟨fp3, h3⟩ := h2.putback
  exact h a w μ fp3 N h3
mutual
theorem bnd_dat {N : Nat} : ∀ {d : D}, bnd N d → bnd N (dat d)
  | .any, h => by simp [dat, bnd]
  | .nil, h => by simp [dat, bnd, bndL]
  | .nilp, h => by simp [dat, bnd]
  | .ubool, h => by simp [dat, bnd]
  | .int _ _, h => by simp [dat, bnd]
  | .bool _, h => by simp [dat, bnd]
  | .str _, h => by simp [dat, bnd]
  | .list n cs, h => by simpa only [dat] using h
  | .fr _ _ cs, h => by simp only [dat, bnd] at h ⊢; exact bndL_dat h
  | .st cs, h => by simp only [dat, bnd] at h ⊢; exact bndL_dat h
  | .tup cs, h => by simp only [dat, bnd] at h ⊢; exact bndL_dat h
  | .sl .., h => by simpa only [dat] using h
  | .ptr .., h => by simpa only [dat] using h
  | .pd cs, h => by simpa only [dat] using h
  | .box cs, h => by simp only [dat, bnd] at h ⊢; exact bndL_dat h
  | .fn _ cs, h => by simp only [dat, bnd] at h ⊢; exact bndL_dat h
theorem bndL_dat {N : Nat} : ∀ {ds : List D}, bndL N ds → bndL N (datL ds)
  | [], h => by simp [datL, bndL]
  | d :: ds, h => by simp only [datL, bndL] at h ⊢; exact ⟨bnd_dat h.1, bndL_dat h.2⟩
end
/-- A value of its own is from now on shared data. -/
theorem AW_data (hK : ∀ x, ¬ B.K x) (t : Nat) {c : Code} (h : AW P B n c Q ⟨upd S.T t (dat (S.T t)), S.H⟩) : AW P B n c Q S := fun a w μ fp N hR => by
  have hm : Moves fp (fset fp (.slot t) []) := .drop hR.nod hR.dis fun r => by
    by_cases e : r = .slot t
    · subst e; exact .inr (fset_eq ..)
    · exact .inl (fset_ne e)
  refine h a w μ _ N ⟨hR.len, hR.dfs, hR.frm, hR.jk, hR.own' hm, hm.nod, hm.dis, fun t' => ?_, ?_, ?_, ?_, fun t' => ?_, hR.bB, hR.bH, hR.rn⟩
  · by_cases e : t' = t
    · subst e
      dsimp only
      rw [upd_eq, fset_eq]
      refine Rep.dat (I := Im B w fp) (fun b hb => hb.sub hm.sub) (fun b hb => ?_) (hR.tm t')
      have ho := hR.own _ b hb
      refine ⟨ho.2, ?_, fun r hr => ?_⟩
      · exact .inr (ho.1.resolve_left (hK b))
      · by_cases e : r = .slot t'
        · subst e; rw [fset_eq] at hr; cases hr
        · rw [fset_ne e] at hr; exact e (hR.dis _ _ b hr hb)
    · dsimp only
      rw [upd_ne e, fset_ne (by simp [e])]
      exact (hR.tm t').sub hm.sub
  · rw [fset_ne (by simp)]; exact hR.bg.sub hm.sub
  · intro b cs hc; exact (hR.hp b cs hc).sub hm.sub (by simp [fset]) (by simp [fset])
  · intro b hb; have := hR.hn b hb; simp [fset, this]
  · dsimp only
    simp only [upd]
    split
    · rename_i e; exact bnd_dat (hR.bT t)
    · exact hR.bT t'

/-! ### Results -/
/-- The bag takes a named block whole. -/
theorem R.takeBlock {ds : List D} {vs : List Value} {a : Act} {w : World} {μ : Nat → Nat} {fp : Root → List Nat} {N b : Nat} {cs : List D} (h : R B n S ds vs a w μ fp N) (hc : S.H b = some cs) (hne : cs ≠ []) :
    ∃ cells fp', Whole w (μ b) cells ∧ cells.size = cs.length ∧ R B n ⟨S.T, upd S.H b none⟩ (ds ++ [.st cs]) (vs ++ [.agg cells]) a w μ fp' N := by
  rcases h.hp b cs hc with ⟨k, _⟩ | ⟨cells, k1, k2, k3, k4, k5⟩
  · exact (hne k).elim
  let l := (List.range cs.length).flatMap fun i => fp (.cell b i)
  have hfl : l.Nodup := flat_nodup b h.nod h.dis cs.length
  have hmem : ∀ x, x ∈ l → ∃ i, x ∈ fp (.cell b i) := by
    intro x hx
    simp only [l, List.mem_flatMap] at hx
    obtain ⟨i, _, hx⟩ := hx
    exact ⟨i, hx⟩
  let fp' : Root → List Nat := fun r => match r with
    | .bag => fp .bag ++ l
    | .blk b' => if b' = b then [] else fp (.blk b')
    | .cell b' i => if b' = b then [] else fp (.cell b' i)
    | .slot t => fp (.slot t)
  have hkey : ∀ r x, x ∈ fp' r → r ≠ .bag → x ∈ fp r ∧ (∀ i, r ≠ .cell b i) := by
    intro r x hx hr
    cases r with
    | slot t => exact ⟨hx, by simp⟩
    | bag => exact (hr rfl).elim
    | blk b' =>
      simp only [fp'] at hx
      split at hx
      · cases hx
      · exact ⟨hx, by simp⟩
    | cell b' i =>
      simp only [fp'] at hx
      split at hx
      · cases hx
      · rename_i e; exact ⟨hx, fun j hj => by simp at hj; exact e hj.1⟩
  have hm : Moves fp fp' := by
    refine ⟨fun r x hx => ?_, fun r => ?_, fun r r' x hx hy => ?_⟩
    · by_cases e : r = .bag
      · subst e
        rcases List.mem_append.1 hx with hx | hx
        · exact ⟨_, hx⟩
        · obtain ⟨i, hx⟩ := hmem x hx; exact ⟨_, hx⟩
      · exact ⟨r, (hkey r x hx e).1⟩
    · cases r with
      | slot t => exact h.nod _
      | bag =>
        refine nodup_app (h.nod _) hfl fun x hx hy => ?_
        obtain ⟨i, hy⟩ := hmem x hy
        have := h.dis _ _ x hx hy; cases this
      | blk b' => simp only [fp']; split; exact .nil; exact h.nod _
      | cell b' i => simp only [fp']; split; exact .nil; exact h.nod _
    · have no : ∀ r, r ≠ .bag → x ∈ fp' r → x ∈ fp' .bag → False := by
        intro r hr hx hb
        obtain ⟨q1, q2⟩ := hkey r x hx hr
        rcases List.mem_append.1 hb with hb | hb
        · exact hr (h.dis _ _ x q1 hb)
        · obtain ⟨i, hb⟩ := hmem x hb
          exact q2 i (h.dis _ _ x q1 hb)
      by_cases e : r = .bag <;> by_cases e' : r' = .bag
      · rw [e, e']
      · subst e; exact (no r' e' hy hx).elim
      · subst e'; exact (no r e hx hy).elim
      · exact h.dis _ _ x (hkey r x hx e).1 (hkey r' x hy e').1
  have bH' : ∀ b' cs', upd S.H b none b' = some cs' → S.H b' = some cs' ∧ b' ≠ b := by
    intro b' cs' hb'
    by_cases e : b' = b
    · subst e; rw [upd_eq] at hb'; cases hb'
    · rw [upd_ne e] at hb'; exact ⟨hb', e⟩
  refine ⟨cells, fp', k1, k2, h.len, h.dfs, h.frm, h.jk, h.own' hm, hm.nod, hm.dis, fun t => (h.tm t).sub hm.sub, ?_, ?_, ?_, h.bT, ?_, fun b' cs' hb' => h.bH b' cs' (bH' b' cs' hb').1, h.rn⟩
  · have hcf := cells_flat (μ := μ) (I := Im B w fp) (w := w) b (us := cells.toList) (by simpa using k2) (fun i d hd => by obtain ⟨u, hu, hr⟩ := k4 i d hd; exact ⟨u, by simpa using hu, hr⟩) cs.length (Nat.le_refl _)
    rw [List.take_of_length_le (Nat.le_refl _), List.take_of_length_le (by simp; omega)] at hcf
    refine RepL.append ?_ (h.bg.sub hm.sub)
    simp only [RepL, Rep]
    exact ⟨_, [], l, [], rfl, by simp, ⟨cells.toList, by simp, hcf.sub hm.sub⟩, rfl, rfl⟩
  · intro b' cs' hb'
    obtain ⟨q1, q2⟩ := bH' b' cs' hb'
    exact (h.hp b' cs' q1).sub hm.sub (by simp [fp', q2]) (by simp [fp', q2])
  · intro b' hb'
    by_cases e : b' = b
    · subst e; simp [fp']
    · dsimp only at hb'; rw [upd_ne e] at hb'; have := h.hn b' hb'; simp [fp', e, this]
  · rw [bndL_iff]
    intro d hd
    rcases List.mem_append.1 hd with hd | hd
    · exact bndL_iff.1 h.bB d hd
    · simp at hd; subst hd; simp only [bnd]; exact (h.bH b cs hc).2
def resOne (tmps : Array Value) : ResultVar → Sem Value
  | .tmp t => pure (tmps.getD t undef)
  | .cell x t => do loadVar t (← asAddr (tmps.getD x undef))
theorem results_eq (fn : Func) (tmps : Array Value) : results fn tmps = (do let vs ← fn.results.mapM (resOne tmps); pure (if h : vs.size = 1 then vs[0] else .tuple vs)) := by
  unfold results
  congr 1
variable (P) in
/-- The results, taken out of a state one by one. -/
def takeRes : St → List ResultVar → Prop × List D × St
  | S, [] => (True, [], S)
  | S, .tmp t :: rs => ((takeRes ⟨grab S.T t, S.H⟩ rs).1, S.T t :: (takeRes ⟨grab S.T t, S.H⟩ rs).2.1, (takeRes ⟨grab S.T t, S.H⟩ rs).2.2)
  | S, .cell t ty :: rs =>
    match S.T t with
    | .ptr b 0 =>
      match S.H b, τ P ty with
      | some cs, some ti => (cs.length = ti.size ∧ cs ≠ [] ∧ (ti.agg = false → ti.size = 1) ∧ (takeRes ⟨S.T, upd S.H b none⟩ rs).1, (if ti.agg then .st cs else cs.getD 0 .any) :: (takeRes ⟨S.T, upd S.H b none⟩ rs).2.1, (takeRes ⟨S.T, upd S.H b none⟩ rs).2.2)
      | _, _ => (False, [], S)
    | .box cs =>
      match τ P ty with
      | some ti => (cs.length = ti.size ∧ cs ≠ [] ∧ (ti.agg = false → ti.size = 1) ∧ (takeRes ⟨grab S.T t, S.H⟩ rs).1, (if ti.agg then .st cs else cs.getD 0 .any) :: (takeRes ⟨grab S.T t, S.H⟩ rs).2.1, (takeRes ⟨grab S.T t, S.H⟩ rs).2.2)
      | _ => (False, [], S)
    | _ => (False, [], S)
theorem takeRes_run : ∀ {rs : List ResultVar} {S : St} {ds : List D} {vs : List Value} {a : Act} {w : World} {μ : Nat → Nat} {fp : Root → List Nat} {N : Nat}, R B n S ds vs a w μ fp N → (takeRes P S rs).1 →
    ∃ us fp', (rs.mapM (m := Sem) (resOne a.tmps)).run P w = .ok us w ∧ R B n (takeRes P S rs).2.2 (ds ++ (takeRes P S rs).2.1) (vs ++ us) a w μ fp' N
  | [], S, ds, vs, a, w, μ, fp, N, h, hp => ⟨[], fp, by simp, by simpa [takeRes] using h⟩
  | .tmp t :: rs, S, ds, vs, a, w, μ, fp, N, h, hp => by
    simp only [takeRes] at hp
    obtain ⟨fp1, h1⟩ := h.grab t
    obtain ⟨us, fp2, h2, h3⟩ := takeRes_run (rs := rs) h1 hp
    refine ⟨a.tmps.getD t undef :: us, fp2, ?_, ?_⟩
    · simp only [List.mapM_cons, resOne, Sem.run_bind, pure_bind, h2]
      rfl
    · simp only [takeRes]
      simpa using h3
  | .cell t ty :: rs, S, ds, vs, a, w, μ, fp, N, h, hp => by
    simp only [takeRes] at hp ⊢
    split at hp
    · rename_i b hT
      split at hp
      · rename_i cs ti hc ht
        obtain ⟨p1, p2, p3, p4⟩ := hp
        have htm := h.tm t
        rw [hT] at htm
        simp only [Rep] at htm
        have hA : (asAddr (a.tmps.getD t undef)).run P w = .ok ⟨μ b, 0, none⟩ w := by rw [htm.2]; rfl
        obtain ⟨cells, fp1, k1, k2, h1⟩ := h.takeBlock hc p2
        have hcell : ∀ (j : Nat) (v : Value), cells[j]? = some v → w.cell? ⟨μ b, j, none⟩ = some v := fun j v hj => k1.cell hj
        by_cases ha : ti.agg = true
        · obtain ⟨us, fp2, h2, h3⟩ := takeRes_run (rs := rs) h1 p4
          have hl := run_load_agg (P := P) ht ha (w := w) (b := μ b) (i := 0) (vs := cells.toList) (by simp; omega) fun j v hj => by rw [Nat.zero_add]; exact hcell j v (by simpa using hj)
          have hlv : (loadVar ty ⟨μ b, 0, none⟩).run P w = .ok (.agg cells) w := by simpa [Instr.loadAt, Instr.sureAddr] using hl
          refine ⟨.agg cells :: us, fp2, ?_, ?_⟩
          · simp only [List.mapM_cons, resOne, Sem.run_bind, hA, pure_bind, hlv, Result.andThen_ok, h2]
            rfl
          · simp only [hc, ht, ha, if_true]
            simpa using h3
        · have ha : ti.agg = false := by simpa using ha
          obtain ⟨d, rfl⟩ : ∃ d, cs = [d] := by
            have := p3 ha
            rw [this] at p1
            exact List.length_eq_one_iff.1 p1
          obtain ⟨v, hv⟩ : ∃ v, cells.toList = [v] := List.length_eq_one_iff.1 (by simpa using k2)
          have h1' : R B n ⟨S.T, upd S.H b none⟩ (ds ++ [d]) (vs ++ [v]) a w μ fp1 N := by
            refine h1.rebag ?_ ?_
            · obtain ⟨v1, v2, f1, f2, e1, e2, r1, r2⟩ := RepL.split h1.bg
              have hl1 := r1.length
              have hl2 := h.bg.length
              obtain ⟨rfl, rfl⟩ := List.append_inj e1.symm (by omega)
              rw [e2]
              refine RepL.append ?_ r1
              have := r2.one
              simp only [Rep] at this
              obtain ⟨us, hu, hr⟩ := this
              simp at hu
              subst hu
              have hv' : us = [v] := by simpa using hv
              rw [hv'] at hr
              exact hr
            · have := h1.bB
              rw [bndL_iff] at *
              intro x hx
              rcases List.mem_append.1 hx with hx | hx
              · exact this x (List.mem_append_left _ hx)
              · simp at hx; subst hx
                have := this (.st [x]) (by simp)
                simp only [bnd, bndL] at this
                exact this.1
          obtain ⟨us, fp2, h2, h3⟩ := takeRes_run (rs := rs) h1' p4
          have hc0 : cells[0]? = some v := by rw [← Array.getElem?_toList, hv]; rfl
          have hl := run_load_one (P := P) ht ha (hcell 0 v hc0)
          have hlv : (loadVar ty ⟨μ b, 0, none⟩).run P w = .ok v w := by simpa [Instr.loadAt, Instr.sureAddr] using hl
          refine ⟨v :: us, fp2, ?_, ?_⟩
          · simp only [List.mapM_cons, resOne, Sem.run_bind, hA, pure_bind, hlv, Result.andThen_ok, h2]
            rfl
          · simp only [hc, ht, ha, Bool.false_eq_true, if_false]
            simpa using h3
      · exact hp.elim
    · rename_i cs hT
      split at hp
      · rename_i ti ht
        obtain ⟨p1, p2, p3, p4⟩ := hp
        obtain ⟨fp1, h1⟩ := h.grab t
        rw [hT] at h1
        obtain ⟨v1, v2, f1, f2, e1, e2, r1, r2⟩ := RepL.split h1.bg
        have hl1 := r1.length
        have hl2 := h.bg.length
        obtain ⟨rfl, rfl⟩ := List.append_inj e1.symm (by omega)
        have hx := r2.one
        simp only [Rep] at hx
        obtain ⟨b, cells, f, hv, hw, hrep, rfl⟩ := hx
        have hA : (asAddr (a.tmps.getD t undef)).run P w = .ok ⟨b, 0, none⟩ w := by rw [hv]; rfl
        have hcell : ∀ (j : Nat) (v : Value), cells[j]? = some v → w.cell? ⟨b, j, none⟩ = some v := fun j v hj => hw.cell hj
        have hul := hrep.length
        have hnd := h1.nod .bag
        rw [e2] at hnd
        have hnd2 : (f1 ++ f).Nodup := by
          have := List.nodup_append.1 hnd
          exact nodup_app this.1 (List.nodup_cons.1 this.2.1).2 fun x hx hy => this.2.2 x hx x (by simp [hy]) rfl
        have hsub : ∀ x, x ∈ f1 ++ f → x ∈ fp1 .bag := fun x hx => by rw [e2]; simp only [List.mem_append, List.mem_cons] at hx ⊢; rcases hx with hx | hx; exact .inl hx; exact .inr (.inr hx)
        have hbB := h1.bB
        rw [bndL_iff] at hbB
        have hbc : bndL N cs := by have := hbB (.box cs) (by simp); simpa only [bnd] using this
        by_cases ha : ti.agg = true
        · obtain ⟨fp3, h2⟩ := h1.rebagF (ds' := ds ++ [.st cs]) (vs' := v1 ++ [.agg cells]) (RepL.append (by simp only [RepL, Rep]; exact ⟨_, [], f, [], rfl, by simp, ⟨cells.toList, by simp, hrep⟩, rfl, rfl⟩) r1) hnd2 hsub (by
            rw [bndL_iff]; intro d hd
            rcases List.mem_append.1 hd with hd | hd
            · exact hbB d (List.mem_append_left _ hd)
            · simp at hd; subst hd; simpa only [bnd] using hbc)
          obtain ⟨us, fp2, h4, h3⟩ := takeRes_run (rs := rs) h2 p4
          have hl := run_load_agg (P := P) ht ha (w := w) (b := b) (i := 0) (vs := cells.toList) (by omega) fun j v hj => by rw [Nat.zero_add]; exact hcell j v (by simpa using hj)
          have hlv : (loadVar ty ⟨b, 0, none⟩).run P w = .ok (.agg cells) w := by simpa [Instr.loadAt, Instr.sureAddr] using hl
          refine ⟨.agg cells :: us, fp2, ?_, ?_⟩
          · simp only [List.mapM_cons, resOne, Sem.run_bind, hA, pure_bind, hlv, Result.andThen_ok, h4]
            rfl
          · simp only [ht, ha, if_true]
            simpa using h3
        · have ha : ti.agg = false := by simpa using ha
          obtain ⟨d, rfl⟩ : ∃ d, cs = [d] := by
            have := p3 ha
            rw [this] at p1
            exact List.length_eq_one_iff.1 p1
          obtain ⟨v, hv1⟩ : ∃ v, cells.toList = [v] := List.length_eq_one_iff.1 (by simpa using hul)
          have hrep1 := hrep
          rw [hv1] at hrep1
          obtain ⟨fp3, h2⟩ := h1.rebagF (ds' := ds ++ [d]) (vs' := v1 ++ [v]) (RepL.append hrep1 r1) hnd2 hsub (by
            rw [bndL_iff]; intro x hx
            rcases List.mem_append.1 hx with hx | hx
            · exact hbB x (List.mem_append_left _ hx)
            · exact bndL_iff.1 hbc x hx)
          obtain ⟨us, fp2, h4, h3⟩ := takeRes_run (rs := rs) h2 p4
          have hc0 : cells[0]? = some v := by rw [← Array.getElem?_toList, hv1]; rfl
          have hl := run_load_one (P := P) ht ha (hcell 0 v hc0)
          have hlv : (loadVar ty ⟨b, 0, none⟩).run P w = .ok v w := by simpa [Instr.loadAt, Instr.sureAddr] using hl
          refine ⟨v :: us, fp2, ?_, ?_⟩
          · simp only [List.mapM_cons, resOne, Sem.run_bind, hA, pure_bind, hlv, Result.andThen_ok, h4]
            rfl
          · simp only [ht, ha, Bool.false_eq_true, if_false]
            simpa using h3
      · exact hp.elim
    · exact hp.elim
/-- All results as one value. -/
def resD : List D → D
  | [d] => d
  | ds => .tup ds
theorem results_run {fn : Func} {a : Act} {w : World} {μ : Nat → Nat} {fp : Root → List Nat} {N : Nat} (h : R B n S [] [] a w μ fp N) (hp : (takeRes P S fn.results.toList).1) :
    ∃ v fp', (results fn a.tmps).run P w = .ok v w ∧ R B n (takeRes P S fn.results.toList).2.2 [resD (takeRes P S fn.results.toList).2.1] [v] a w μ fp' N := by
  obtain ⟨us, fp', h1, h2⟩ := takeRes_run h hp
  rw [List.nil_append, List.nil_append] at h2
  have hl := h2.bg.length
  have hrun : (fn.results.mapM (m := Sem) (resOne a.tmps)).run P w = .ok us.toArray w := by
    rw [Array.mapM_eq_mapM_toList]
    simp only [Sem.run_map, h1, Result.andThen_ok]
  generalize (takeRes P S fn.results.toList).2.1 = rs at h2 hl ⊢
  generalize (takeRes P S fn.results.toList).2.2 = S' at h2 ⊢
  have two : us.length ≠ 1 → (results fn a.tmps).run P w = .ok (.tuple us.toArray) w := by
    intro hne
    rw [results_eq]
    simp only [Sem.run_bind, hrun, Result.andThen_ok]
    rw [dif_neg (by simpa using hne)]
    rfl
  have tp : ∀ ds, ds = rs → resD rs = .tup rs → R B n S' [resD rs] [.tuple us.toArray] a w μ fp' N := by
    intro ds _ e
    rw [e]
    refine h2.rebag ?_ ?_
    · simp only [RepL, Rep]
      exact ⟨_, [], _, [], rfl, by simp, ⟨us, rfl, h2.bg⟩, rfl, rfl⟩
    · simp only [bndL, bnd]; exact ⟨h2.bB, trivial⟩
  match rs, hl with
  | [], hl => exact ⟨_, fp', two (by simp at hl; simp [hl]), tp _ rfl rfl⟩
  | [d], hl =>
    obtain ⟨v, rfl⟩ : ∃ v, us = [v] := List.length_eq_one_iff.1 hl
    refine ⟨v, fp', ?_, h2⟩
    rw [results_eq]
    simp only [Sem.run_bind, hrun, Result.andThen_ok]
    rfl
  | d :: e :: rs, hl => exact ⟨_, fp', two (by simp at hl; omega), tp _ rfl rfl⟩
/-- How a function's walk must end: these results, these blocks. -/
def retQ (P : Program) (fn : Func) (r : D) (H' : Hp) : Exit → St → Prop
  | .normal, S => (takeRes P S fn.results.toList).1 ∧ resD (takeRes P S fn.results.toList).2.1 = r ∧ ∀ b cs, H' b = some cs → (takeRes P S fn.results.toList).2.2.H b = some cs
  | .ret, S => (takeRes P S fn.results.toList).1 ∧ resD (takeRes P S fn.results.toList).2.1 = r ∧ ∀ b cs, H' b = some cs → (takeRes P S fn.results.toList).2.2.H b = some cs
  | _, _ => False
mutual
theorem exists_bnd : ∀ d : D, ∃ N, bnd N d
  | .any => ⟨0, by simp [bnd]⟩
  | .nil => ⟨0, by simp [bnd]⟩
  | .nilp => ⟨0, by simp [bnd]⟩
  | .ubool => ⟨0, by simp [bnd]⟩
  | .int _ _ => ⟨0, by simp [bnd]⟩
  | .bool _ => ⟨0, by simp [bnd]⟩
  | .str _ => ⟨0, by simp [bnd]⟩
  | .list n cs => by obtain ⟨N, h⟩ := exists_bndL cs; exact ⟨N, by simpa only [bnd] using h⟩
  | .fr _ _ cs => by obtain ⟨N, h⟩ := exists_bndL cs; exact ⟨N, by simpa only [bnd] using h⟩
  | .st cs => by obtain ⟨N, h⟩ := exists_bndL cs; exact ⟨N, by simpa only [bnd] using h⟩
  | .tup cs => by obtain ⟨N, h⟩ := exists_bndL cs; exact ⟨N, by simpa only [bnd] using h⟩
  | .sl b _ _ _ _ => ⟨b + 1, by simp [bnd]⟩
  | .ptr b _ => ⟨b + 1, by simp [bnd]⟩
  | .pd cs => by obtain ⟨N, h⟩ := exists_bndL cs; exact ⟨N, by simpa only [bnd] using h⟩
  | .box cs => by obtain ⟨N, h⟩ := exists_bndL cs; exact ⟨N, by simpa only [bnd] using h⟩
  | .fn _ cs => by obtain ⟨N, h⟩ := exists_bndL cs; exact ⟨N, by simpa only [bnd] using h⟩
theorem exists_bndL : ∀ ds : List D, ∃ N, bndL N ds
  | [] => ⟨0, by simp [bndL]⟩
  | d :: ds => by
    obtain ⟨N1, h1⟩ := exists_bnd d
    obtain ⟨N2, h2⟩ := exists_bndL ds
    exact ⟨max N1 N2, by simp only [bndL]; exact ⟨h1.mono (Nat.le_max_left ..), h2.mono (Nat.le_max_right ..)⟩⟩
end
theorem getD_pad (vs : List Value) (k t : Nat) : (vs.toArray ++ Array.replicate k undef).getD t undef = vs.getD t undef := by
  rw [Array.getD_eq_getD_getElem?, List.getD_eq_getElem?_getD, Array.getElem?_append]
  split
  · simp
  · rename_i h
    rw [List.getElem?_eq_none (by simpa using h), Array.getElem?_replicate]
    split <;> rfl
theorem bnd_ofArgs {N : Nat} {ds : List D} (h : bndL N ds) (t : Nat) : bnd N (ofArgs ds t) := by
  unfold ofArgs
  rw [List.getD_eq_getElem?_getD]
  cases hd : ds[t]? with
  | none => simp [bnd]
  | some d => exact bndL_iff.1 h d (List.mem_of_getElem? hd)
/-- A contract out of a walk. -/
theorem Pure.of_walk {f : FuncId} {fn : Func} {c : Code} {args : List D} {r : D} (hf : P.funcs[f]? = some fn) (hb : fn.body = some c) (hn : args.length ≤ fn.ntmps) (hr : closed r = true)
    (h : ∀ B : Base, (∀ x, ¬ B.K x) → AW P B fn.ntmps c (retQ P fn r fun _ => none) ⟨ofArgs args, fun _ => none⟩) : Pure P f args r := by
  intro μ w vs hrep
  have hl := hrep.length
  obtain ⟨N, hN⟩ := exists_bndL args
  refine calls_of_wp hf hb ?_
  have hR : R ⟨w, fun _ => False, fun x => x < w.heap.size, μ, N⟩ fn.ntmps ⟨ofArgs args, fun _ => none⟩ [] [] ⟨vs.toArray ++ Array.replicate (fn.ntmps - vs.toArray.size) undef, []⟩ w μ (fun _ => []) N := by
    refine ⟨by simp; omega, rfl, Frm.refl _ _, fun x hx => ⟨hx, by simp⟩, by simp, by simp, by simp, fun t => ?_, by simp [RepL], by simp, by simp, fun t => bnd_ofArgs hN t, by simp [bndL], by simp, ⟨Nat.le_refl _, fun _ _ => rfl⟩⟩
    show Rep _ _ _ _ ((vs.toArray ++ Array.replicate _ undef).getD t undef) _
    rw [getD_pad]
    obtain ⟨g, g1, g2, _, _⟩ := hrep.slots .nil
    have := g1 t
    have e : g t = [] := List.eq_nil_iff_forall_not_mem.2 fun x hx => by have := g2 t x hx; cases this
    rw [e] at this
    exact Rep.mono (fun x hx => ⟨⟨hx, .inl hx, by simp⟩, rfl⟩) (by simp) this
  refine wp_mono (h ⟨w, fun _ => False, fun x => x < w.heap.size, μ, N⟩ (by simp) _ w μ _ N hR) fun e a' w' he => ?_
  have fin : ∀ {S : St} {μ' : Nat → Nat} {fp' : Root → List Nat} {N' : Nat}, R ⟨w, fun _ => False, fun x => x < w.heap.size, μ, N⟩ fn.ntmps S [] [] a' w' μ' fp' N' → (takeRes P S fn.results.toList).1 → resD (takeRes P S fn.results.toList).2.1 = r →
      a'.defers = [] ∧ ∃ v, (results fn a'.tmps).run P w' = .ok v w' ∧ ∃ v' fl, Ending.returned v = .returned v' ∧ Rep μ (fun _ => False) w' r v' fl ∧ fl.Nodup ∧ (∀ x ∈ fl, w.heap.size ≤ x ∧ x < w'.heap.size) ∧ Frm w (fun _ => False) w' := by
    intro S μ' fp' N' h1 h2 h3
    obtain ⟨v, fp2, h4, h5⟩ := results_run h1 h2
    rw [h3] at h5
    refine ⟨h1.dfs, v, h4, v, fp2 .bag, rfl, Rep.closed hr h5.bg.one, h5.nod _, fun x hx => ?_, h5.frm⟩
    have := h5.own _ x hx
    exact ⟨this.1.resolve_left (by simp), this.2⟩
  cases e with
  | normal => obtain ⟨S, μ', fp', N', h1, h2, h3, _⟩ := he; exact fin h1 h2 h3
  | ret => obtain ⟨S, μ', fp', N', h1, h2, h3, _⟩ := he; exact fin h1 h2 h3
  | exit id => obtain ⟨S, μ', fp', N', h1, h2⟩ := he; exact h2.elim
  | goto l => exact he.elim
  | panic c => exact he.elim
  | outgrown => exact he.elim
theorem Spec.of_walk {f : FuncId} {fn : Func} {c : Code} {args : List D} {H : Hp} {r : D} {H' : Hp} (hf : P.funcs[f]? = some fn) (hb : fn.body = some c) (hn : args.length ≤ fn.ntmps)
    (h : ∀ B : Base, AW P B fn.ntmps c (retQ P fn r H') ⟨ofArgs args, H⟩) : Spec P f args H r H' := by
  intro w J vs μ fp N hR
  have hl : vs.length = args.length := by have := hR.len; simpa using this
  refine calls_of_wp hf hb ?_
  have hR' : R ⟨w, fun x => ∃ r, x ∈ fp r, J, μ, N⟩ fn.ntmps ⟨ofArgs args, H⟩ [] [] ⟨vs.toArray ++ Array.replicate (fn.ntmps - vs.toArray.size) undef, []⟩ w μ fp N :=
    { hR with
      len := by simp; omega
      tm := fun t => by
        have := hR.tm t
        show Rep _ _ _ _ ((vs.toArray ++ Array.replicate _ undef).getD t undef) _
        rw [getD_pad]
        simpa [List.getD_eq_getElem?_getD, Array.getD_eq_getD_getElem?] using this }
  refine wp_mono (h _ _ w μ _ N hR') fun e a' w' he => ?_
  have fin : ∀ {S : St} {μ' : Nat → Nat} {fp' : Root → List Nat} {N' : Nat}, R ⟨w, fun x => ∃ r, x ∈ fp r, J, μ, N⟩ fn.ntmps S [] [] a' w' μ' fp' N' → (takeRes P S fn.results.toList).1 → resD (takeRes P S fn.results.toList).2.1 = r → (∀ b cs, H' b = some cs → (takeRes P S fn.results.toList).2.2.H b = some cs) →
      a'.defers = [] ∧ ∃ v, (results fn a'.tmps).run P w' = .ok v w' ∧ ∃ v' μ' fp' N', Ending.returned v = .returned v' ∧ R ⟨w, fun x => ∃ r, x ∈ fp r, J, μ, N⟩ 1 ⟨ofArgs [r], H'⟩ [] [] ⟨#[v'], []⟩ w' μ' fp' N' := by
    intro S μ' fp' N' h1 h2 h3 h4
    obtain ⟨v, fp2, h5, h6⟩ := results_run h1 h2
    rw [h3] at h6
    obtain ⟨fp3, h7⟩ := h6.less (S' := ⟨fun _ => .any, H'⟩) ⟨fun _ => .inl rfl, h4⟩
    -- the result goes to the one slot
    have h8 : R ⟨w, fun x => ∃ r, x ∈ fp r, J, μ, N⟩ 1 ⟨fun _ => .any, H'⟩ [r] [v] ⟨#[undef], []⟩ w' μ' (fun rt => match rt with | .slot _ => [] | rt => fp3 rt) N' := by
      have hm : Moves fp3 (fun rt => match rt with | .slot _ => [] | rt => fp3 rt) := .drop h7.nod h7.dis fun rt => by cases rt <;> simp
      refine ⟨rfl, rfl, h7.frm, h7.jk, h7.own' hm, hm.nod, hm.dis, fun t => by simp [Rep], h7.bg.sub hm.sub, fun b cs hc => (h7.hp b cs hc).sub hm.sub rfl (fun _ => rfl), fun b hb => h7.hn b hb, fun t => by simp [bnd], h7.bB, h7.bH, h7.rn⟩
    obtain ⟨fp4, h9⟩ := h8.put (t := 0) (by omega)
    have e : upd (fun _ : Nat => D.any) 0 r = ofArgs [r] := by
      funext t
      cases t with
      | zero => rfl
      | succ t => simp [upd, ofArgs]
    dsimp only at h9
    rw [e] at h9
    exact ⟨h1.dfs, v, h5, v, μ', fp4, N', rfl, h9⟩
  cases e with
  | normal => obtain ⟨S, μ', fp', N', h1, h2, h3, h4⟩ := he; exact fin h1 h2 h3 h4
  | ret => obtain ⟨S, μ', fp', N', h1, h2, h3, h4⟩ := he; exact fin h1 h2 h3 h4
  | exit id => obtain ⟨S, μ', fp', N', h1, h2⟩ := he; exact h2.elim
  | goto l => exact he.elim
  | panic c => exact he.elim
  | outgrown => exact he.elim
end
end Go.Proofs.Ytlbbhkpjjciaiaa.Vm

