/-
  Parts of a value, and a block's cells, get names and lose them. No conditions; nothing of the program is named here.
-/
import Derived.Test.YtlbbhkpjjciaiaaVm12
namespace Go.Proofs.Ytlbbhkpjjciaiaa.Vm
open Go
set_option linter.unusedVariables false
set_option linter.unusedSimpArgs false
set_option linter.unusedSectionVars false
section
variable {P : Program} {Γ : FuncId → Con} {B : Base} {n : Nat} {S : St} {ds : List D} {vs : List Value} {a : Act} {w : World} {μ : Nat → Nat} {fp : Root → List Nat} {N : Nat}

/-- The two ways of a condition. -/
def CondA : D → Prop → Prop → Prop
  | .bool b, p, q => (b = true → p) ∧ (b = false → q)
  | .ubool, p, q => p ∧ q
  | _, _, _ => False
theorem AW_condA {c : Operand} {x y : Code} {Q : Exit → St → Prop} (h : CondA (look S.T c) (AW P B n x Q S) (AW P B n y Q S)) : AW P B n (.cond c x y) Q S := by
  unfold CondA at h
  split at h
  · rename_i b hb; exact AW_cond hb h.1 h.2
  · rename_i hb; exact AW_cond2 hb h.1 h.2
  · exact h.elim
/-- The bag turned round. -/
theorem R.swapL {l r : List D} {vl vr : List Value} (h : R B n S (l ++ r) (vl ++ vr) a w μ fp N) (hl : vl.length = l.length) : ∃ fp', R B n S (r ++ l) (vr ++ vl) a w μ fp' N := by
  obtain ⟨v1, v2, f1, f2, e1, e2, r1, r2⟩ := RepL.split h.bg
  have hl1 := r1.length
  obtain ⟨rfl, rfl⟩ := List.append_inj e1.symm (by omega)
  have hm : Moves fp (fset fp .bag (f2 ++ f1)) := by
    have key : ∀ r x, x ∈ fset fp .bag (f2 ++ f1) r → x ∈ fp r := by
      intro r x hx
      by_cases e : r = .bag
      · subst e; rw [fset_eq] at hx; rw [e2]; simp only [List.mem_append] at hx ⊢; exact hx.symm
      · rwa [fset_ne e] at hx
    refine ⟨fun r x hx => ⟨r, key r x hx⟩, fun r => ?_, fun r r' x hx hy => h.dis r r' x (key r x hx) (key r' x hy)⟩
    by_cases e : r = .bag
    · subst e; rw [fset_eq]
      have := e2 ▸ h.nod .bag
      have k := List.nodup_append.1 this
      exact nodup_app k.2.1 k.1 fun x hx hy => k.2.2 x hy x hx rfl
    · rw [fset_ne e]; exact h.nod r
  refine ⟨fset fp .bag (f2 ++ f1), h.len, h.dfs, h.frm, h.jk, h.own' hm, hm.nod, hm.dis, fun t => ?_, ?_, ?_, ?_, h.bT, ?_, h.bH, h.rn⟩
  · rw [fset_ne (by simp)]; exact (h.tm t).sub hm.sub
  · rw [fset_eq]; exact RepL.append (r1.sub hm.sub) (r2.sub hm.sub)
  · intro b cs hc; exact (h.hp b cs hc).sub hm.sub (by simp [fset]) (by simp [fset])
  · intro b hb; have := h.hn b hb; simp [fset, this]
  · have := h.bB; rw [bndL_iff] at this ⊢; intro d hd; exact this d (by simp only [List.mem_append] at hd ⊢; exact hd.symm)

/-- A part of a slot's struct that is a slice of its own gets a name. -/
theorem AW_matPart (t : Nat) (l r : List D) {c : Code} {Q : Exit → St → Prop} {sz m : Nat} {cs : List D} (hT : S.T t = .st (l ++ .fr sz m cs :: r))
    (h : ∀ b cp k, S.H b = none → m ≤ cp → cp * sz ≤ m * sz + k → AW P B n c Q ⟨upd S.T t (.st (l ++ .sl b sz 0 m cp :: r)), upd S.H b (some (cs ++ List.replicate k .any))⟩) : AW P B n c Q S := fun a w μ fp N hR => by
  obtain ⟨fp1, h1⟩ := hR.grab t
  rw [hT, List.nil_append, List.nil_append] at h1
  have hb1 := h1.bg
  have q := hb1.one
  simp only [Rep] at q
  obtain ⟨us, hu, hus⟩ := q
  have hlen := hus.length
  have h2 : R B n ⟨grab S.T t, S.H⟩ (l ++ (.fr sz m cs :: r)) us a w μ fp1 N := h1.rebag hus (by have := h1.bB; simp only [bndL, bnd] at this; exact this.1)
  obtain ⟨ul, ur, hlr, hll⟩ : ∃ ul ur, us = ul ++ ur ∧ ul.length = l.length := ⟨us.take l.length, us.drop l.length, (List.take_append_drop ..).symm, by rw [List.length_take, hlen]; simp⟩
  subst hlr
  obtain ⟨fp2, h3⟩ := h2.swapL hll
  obtain ⟨u, ur', rfl⟩ : ∃ u ur', ur = u :: ur' := by
    cases ur with
    | nil => simp at hlen; omega
    | cons u ur' => exact ⟨u, ur', rfl⟩
  rw [List.cons_append, List.cons_append] at h3
  obtain ⟨cp, k, μ', fp3, q1, q2, q3, h4⟩ := h3.mat
  rw [← List.cons_append, ← List.cons_append] at h4
  obtain ⟨fp4, h5⟩ := h4.swapL (by simp at hlen ⊢; omega)
  have h6 : R B n ⟨grab S.T t, upd S.H N (some (cs ++ List.replicate k .any))⟩ [.st (l ++ .sl N sz 0 m cp :: r)] [a.tmps.getD t undef] a w μ' fp4 (N + 1) := by
    refine h5.rebag ?_ ?_
    · simp only [RepL, Rep]
      exact ⟨_, [], _, [], rfl, by simp, ⟨_, hu, h5.bg⟩, rfl, rfl⟩
    · simp only [bndL, bnd]; exact ⟨h5.bB, trivial⟩
  obtain ⟨fp5, h7⟩ := h6.putback
  have e : upd (grab S.T t) t (.st (l ++ .sl N sz 0 m cp :: r)) = upd S.T t (.st (l ++ .sl N sz 0 m cp :: r)) := by
    funext y
    by_cases ey : y = t
    · subst ey; rw [upd_eq, upd_eq]
    · rw [upd_ne ey, upd_ne ey]
      simp only [grab]
      split
      · rw [upd_ne ey]
      · rfl
  rw [e] at h7
  exact h N cp k h1.hN q1 q2 a w μ' fp5 (N + 1) h7

theorem setCell_noop {w : World} {b i : Nat} {v : Value} (h : w.cell? ⟨b, i, none⟩ = some v) : w.setCell ⟨b, i, none⟩ v = w := by
  have : (w.setCell ⟨b, i, none⟩ v).heap = w.heap := by
    apply Array.ext_getElem?
    intro k
    simp only [World.setCell, Array.getElem?_modify]
    split
    · rename_i e
      subst e
      cases hk : w.heap[b]? with
      | none => rfl
      | some o =>
        simp only [World.cell?, hk] at h
        cases o with
        | cells c t f =>
          simp only [Option.map_some, Option.some.injEq, Obj.cells.injEq, and_true]
          simp at h
          apply Array.ext_getElem?
          intro j
          simp only [Option.isSome_none, Bool.false_eq_true, if_false]
          rw [Array.getElem?_setIfInBounds]
          split
          · rename_i e; subst e
            split
            · exact h.symm
            · rename_i q; rw [Array.getElem?_eq_none (by omega)]
          · rfl
        | _ => rfl
    · rfl
  cases w
  simp only [World.setCell] at this ⊢
  simp only [this]
theorem R.cellIn {b i : Nat} {cs : List D} {d : D} {v : Value} (h : R B n S (d :: ds) (v :: vs) a w μ fp N) (hc : S.H b = some cs) (hi : i < cs.length) (hv : v.oneCell' = true) (hw : w.cell? ⟨μ b, i, none⟩ = some v) :
    ∃ fp', R B n ⟨S.T, upd S.H b (some (cs.set i d))⟩ ds vs a w μ fp' N := by
  obtain ⟨fp', h', _⟩ := h.store1 (P := Inhabited.default) hc hi hv
  rw [setCell_noop hw] at h'
  exact ⟨fp', h'⟩
/-- A named block's cell, a slice of its own, gets a name. -/
theorem AW_matCell (b i : Nat) {c : Code} {Q : Exit → St → Prop} {sz m : Nat} {all cs : List D} (hH : S.H b = some all) (hi : all[i]? = some (.fr sz m cs))
    (h : ∀ b' cp k, S.H b' = none → m ≤ cp → cp * sz ≤ m * sz + k → AW P B n c Q ⟨S.T, upd (upd S.H b (some (all.set i (.sl b' sz 0 m cp)))) b' (some (cs ++ List.replicate k .any))⟩) : AW P B n c Q S := fun a w μ fp N hR => by
  have hil : i < all.length := by rcases Nat.lt_or_ge i all.length with q | q; exact q; rw [List.getElem?_eq_none q] at hi; cases hi
  obtain ⟨v, fp1, hw, hone, h1⟩ := hR.cellOut hH hi
  obtain ⟨cp, k, μ', fp2, q1, q2, q3, h2⟩ := h1.mat
  have hbN := (hR.bH b all hH).1
  have hne : N ≠ b := Nat.ne_of_gt hbN
  rw [← q3 b hbN] at hw
  obtain ⟨fp3, h3⟩ := h2.cellIn (b := b) (i := i) (cs := all.set i .any) (by dsimp only; rw [upd_ne (Ne.symm hne), upd_eq]) (by simpa using hil) hone hw
  refine h N cp k hR.hN q1 q2 a w μ' fp3 (N + 1) ?_
  have e : upd (upd (upd S.H b (some (all.set i .any))) N (some (cs ++ List.replicate k .any))) b (some ((all.set i .any).set i (.sl N sz 0 m cp))) = upd (upd S.H b (some (all.set i (.sl N sz 0 m cp)))) N (some (cs ++ List.replicate k .any)) := by
    funext x
    by_cases e1 : x = N
    · subst e1; rw [upd_ne hne, upd_eq, upd_eq]
    · by_cases e2 : x = b
      · subst e2; rw [upd_eq, upd_ne e1, upd_eq, List.set_set]
      · rw [upd_ne e2, upd_ne e1, upd_ne e2, upd_ne e1, upd_ne e2]
  dsimp only at h3
  rw [e] at h3
  exact h3
/-- And loses it. -/
theorem AW_unmatCell (b i : Nat) {c : Code} {Q : Exit → St → Prop} {b' sz m cp : Nat} {all cs : List D} (hH : S.H b = some all) (hi : all[i]? = some (.sl b' sz 0 m cp)) (hb : b ≠ b') (hH' : S.H b' = some cs) (hsz : 0 < sz) (hm : m * sz ≤ cs.length) (hc : cp * sz ≤ cs.length)
    (h : AW P B n c Q ⟨S.T, upd (upd S.H b' none) b (some (all.set i (.fr sz m (cs.take (m * sz)))))⟩) : AW P B n c Q S := fun a w μ fp N hR => by
  have hil : i < all.length := by rcases Nat.lt_or_ge i all.length with q | q; exact q; rw [List.getElem?_eq_none q] at hi; cases hi
  obtain ⟨v, fp1, hw, hone, h1⟩ := hR.cellOut hH hi
  obtain ⟨fp2, h2, _⟩ := h1.unname (by dsimp only; rw [upd_ne (Ne.symm hb)]; exact hH') hsz hm hc
  obtain ⟨fp3, h3⟩ := h2.cellIn (b := b) (i := i) (cs := all.set i .any) (by dsimp only; rw [upd_ne hb, upd_eq]) (by simpa using hil) hone hw
  refine h a w μ fp3 N ?_
  have e : upd (upd (upd S.H b (some (all.set i .any))) b' none) b (some ((all.set i .any).set i (.fr sz m (cs.take (m * sz))))) = upd (upd S.H b' none) b (some (all.set i (.fr sz m (cs.take (m * sz))))) := by
    funext x
    by_cases e2 : x = b
    · subst e2; rw [upd_eq, upd_eq, List.set_set]
    · rw [upd_ne e2, upd_ne e2]
      by_cases e1 : x = b'
      · subst e1; rw [upd_eq, upd_eq]
      · rw [upd_ne e1, upd_ne e1, upd_ne e2]
  dsimp only at h3
  rw [e] at h3
  exact h3
end
end Go.Proofs.Ytlbbhkpjjciaiaa.Vm

