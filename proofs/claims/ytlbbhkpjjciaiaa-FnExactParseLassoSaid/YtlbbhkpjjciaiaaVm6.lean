/-
  Stores and calls at abstract values. No conditions; nothing of the program is named here.
-/
import Derived.Test.YtlbbhkpjjciaiaaVm5
namespace Go.Proofs.Ytlbbhkpjjciaiaa.Vm
open Go
set_option linter.unusedVariables false
set_option linter.unusedSimpArgs false
set_option linter.unusedSectionVars false
section
variable {P : Program} {o : Oper} {vals : List D} {H : Hp}

/-! store -/
/-- One cell of a named block is written. -/
theorem R.store1 {B : Base} {n : Nat} {S : St} {d : D} {ds : List D} {v : Value} {vs : List Value} {a : Act} {w : World} {μ : Nat → Nat} {fp : Root → List Nat} {N b i : Nat} {cs : List D} (h : R B n S (d :: ds) (v :: vs) a w μ fp N) (hc : S.H b = some cs) (hi : i < cs.length) (hv : v.oneCell' = true) :
    ∃ fp', R B n ⟨S.T, upd S.H b (some (cs.set i d))⟩ ds vs a (w.setCell ⟨μ b, i, none⟩ v) μ fp' N ∧ (store ⟨μ b, i, none⟩ v).run P w = .ok () (w.setCell ⟨μ b, i, none⟩ v) := by
  rcases h.hp b cs hc with ⟨k, _⟩ | ⟨cells, ⟨ty, hheap, hone⟩, k2, k3, k4, k5⟩
  · subst k; simp at hi
  have hbg := h.bg
  simp only [RepL] at hbg
  obtain ⟨v', vs', f1, f2, he, hf, h1, h2⟩ := hbg
  cases he
  have hnod : (f1 ++ f2).Nodup := hf ▸ h.nod .bag
  have hm := Moves.two (fp := fp) (p := .cell b i) (q := .bag) (l := f1) (m := f2) h.nod h.dis (by simp) (fun x hx => .inr (by rw [hf]; simpa using hx)) (List.nodup_append.1 hnod).1 (List.nodup_append.1 hnod).2.1
    fun x hx hy => (List.nodup_append.1 hnod).2.2 x hx x hy rfl
  have hown := h.own (.blk b) (μ b) (by rw [k3]; simp)
  have hsame : ∀ x, x ≠ μ b → (w.setCell ⟨μ b, i, none⟩ v).heap[x]? = w.heap[x]? := fun x hx => heap_setCell_other w _ x v hx
  have hself := heap_setCell_same w (μ b) i cells ty v hheap
  have hnot : ∀ r x, r ≠ .blk b → x ∈ fp r → x ≠ μ b := fun r x hr hx e => hr (h.dis r (.blk b) x hx (by rw [e, k3]; simp))
  have im : ∀ x, Im B w fp x → Im B (w.setCell ⟨μ b, i, none⟩ v) (fset (fset fp (.cell b i) f1) .bag f2) x ∧ (w.setCell ⟨μ b, i, none⟩ v).heap[x]? = w.heap[x]? := fun x hx =>
    ⟨by have := hx.sub hm.sub; exact ⟨by rw [World.size_setCell]; exact this.1, this.2⟩, hsame x fun e => hx.2.2 (.blk b) (by rw [e, k3]; simp)⟩
  refine ⟨fset (fset fp (.cell b i) f1) .bag f2, ⟨h.len, h.dfs, ⟨h.frm.os, h.frm.tape, h.frm.output, by rw [World.size_setCell]; exact h.frm.size, fun x hx hk => ?_⟩, h.jk, fun r x hx => by rw [World.size_setCell]; exact h.own' hm r x hx, hm.nod, hm.dis, ?_, ?_, ?_, ?_, h.bT, ?_, ?_, h.rn⟩, ?_⟩
  · rw [hsame x fun e => ?_]
    · exact h.frm.same x hx hk
    · subst e; rcases hown.1 with k | k
      · exact hk k
      · omega
  · intro t
    rw [fset_ne (by simp), fset_ne (by simp)]
    exact Rep.mono im (fun x hx => hsame x (hnot (.slot t) x (by simp) hx)) (h.tm t)
  · rw [fset_eq]
    exact RepL.mono im (fun x hx => hsame x (hnot .bag x (by simp) (by rw [hf]; exact List.mem_append_right _ hx))) h2
  · intro b' cs' hc'
    by_cases e : b' = b
    · subst e
      dsimp only at hc'
      rw [upd_eq] at hc'
      cases hc'
      refine .inr ⟨cells.setIfInBounds i v, ⟨ty, hself, fun j x hj => ?_⟩, by simp [k2], by simp [fset, k3], fun j e he => ?_, fun j hj => ?_⟩
      · rw [Array.getElem?_setIfInBounds] at hj
        split at hj
        · split at hj
          · cases hj; exact hv
          · cases hj
        · exact hone j x hj
      · rw [fset_ne (by simp)]
        by_cases ej : j = i
        · subst ej
          rw [fset_eq]
          rw [List.getElem?_set_self hi] at he
          cases he
          refine ⟨v, by rw [Array.getElem?_setIfInBounds]; simp; omega, Rep.mono im (fun x hx => hsame x (hnot .bag x (by simp) (by rw [hf]; exact List.mem_append_left _ hx))) h1⟩
        · rw [fset_ne (by simp [ej])]
          rw [List.getElem?_set_ne (fun h => ej h.symm)] at he
          obtain ⟨x, hx, hr⟩ := k4 j e he
          exact ⟨x, by rw [Array.getElem?_setIfInBounds, if_neg (fun h => ej h.symm)]; exact hx, Rep.mono im (fun y hy => hsame y (hnot (.cell b' j) y (by simp) hy)) hr⟩
      · rw [List.length_set] at hj
        rw [fset_ne (by simp), fset_ne (by simp; omega)]
        exact k5 j hj
    · dsimp only at hc'
      rw [upd_ne e] at hc'
      rcases h.hp b' cs' hc' with ⟨q1, q2, q3⟩ | ⟨cells2, q1, q2, q3, q4, q5⟩
      · exact .inl ⟨q1, by simpa [fset] using q2, fun j => by simpa [fset, e] using q3 j⟩
      · refine .inr ⟨cells2, q1.mono (hsame _ (hnot (.blk b') _ (by simp [e]) (by rw [q3]; simp))), q2, by simpa [fset] using q3, fun j d' hd' => ?_, fun j hj => by simpa [fset, e] using q5 j hj⟩
        obtain ⟨x, hx, hr⟩ := q4 j d' hd'
        refine ⟨x, hx, ?_⟩
        rw [fset_ne (by simp), fset_ne (by simp [e])]
        exact Rep.mono im (fun y hy => hsame y (hnot (.cell b' j) y (by simp) hy)) hr
  · intro b' hb'
    have e : b' ≠ b := by rintro rfl; dsimp only at hb'; rw [upd_eq] at hb'; cases hb'
    dsimp only at hb'
    rw [upd_ne e] at hb'
    have := h.hn b' hb'
    simp [fset, e, this]
  · have := h.bB; simp only [bndL] at this; exact this.2
  · intro b' cs' hc'
    by_cases e : b' = b
    · subst e
      dsimp only at hc'
      rw [upd_eq] at hc'
      cases hc'
      have hb := h.bH b' cs hc
      refine ⟨hb.1, ?_⟩
      have hd := h.bB
      simp only [bndL] at hd
      rw [bndL_iff] at *
      intro x hx
      rcases List.mem_or_eq_of_mem_set hx with hx | rfl
      · exact hb.2 x hx
      · exact hd.1
    · dsimp only at hc'
      rw [upd_ne e] at hc'
      exact h.bH b' cs' hc'
  · have hcell : w.cell? ⟨μ b, i, none⟩ = some (cells[i]'(by omega)) := by
      simp only [World.cell?, hheap]; simp
    have hfz : w.frozen? ⟨μ b, i, none⟩ = false := by simp [World.frozen?, hheap]
    rw [run_store P w _ v _ hv, hcell]
    simp [hfz]
theorem R.storeL {B : Base} {n : Nat} : ∀ {es : List D} {us : List Value} {T : Nat → D} {H : Hp} {a : Act} {w : World} {μ : Nat → Nat} {fp : Root → List Nat} {N b i : Nat} {cs : List D}, R B n ⟨T, H⟩ es us a w μ fp N → H b = some cs → i + es.length ≤ cs.length → (∀ v ∈ us, v.oneCell' = true) → (j : Nat) → (o0 : Nat) → o0 + j = i →
    ∃ fp' w', R B n ⟨T, upd H b (some (setSeg cs i es))⟩ [] [] a w' μ fp' N ∧ (storeCells ⟨μ b, o0, none⟩ us j).run P w = .ok () w'
  | [], us, T, H, a, w, μ, fp, N, b, i, cs, h, hc, hi, hv, j, o0, hj => by
    have hu : us = [] := List.eq_nil_of_length_eq_zero (by rw [h.bg.length]; rfl)
    subst hu
    have : upd H b (some (setSeg cs i [])) = H := by
      funext x
      by_cases e : x = b
      · subst e; rw [upd_eq]; exact hc.symm
      · rw [upd_ne e]
    rw [this]
    exact ⟨fp, w, h, by simp [storeCells]⟩
  | e :: es, us, T, H, a, w, μ, fp, N, b, i, cs, h, hc, hi, hv, j, o0, hj => by
    have hlen := h.bg.length
    cases us with
    | nil => simp at hlen
    | cons u us =>
      simp only [List.length_cons] at hi
      obtain ⟨fp1, h1, hrun⟩ := h.store1 (P := P) hc (i := i) (by omega) (hv u (by simp))
      obtain ⟨fp2, w2, h2, hrun2⟩ := R.storeL h1 (b := b) (i := i + 1) (cs := cs.set i e) (upd_eq ..) (by simp; omega) (fun v hv' => hv v (by simp [hv'])) (j + 1) o0 (by omega)
      refine ⟨fp2, w2, ?_, ?_⟩
      · have : upd (upd H b (some (cs.set i e))) b (some (setSeg (cs.set i e) (i + 1) es)) = upd H b (some (setSeg cs i (e :: es))) := by
          funext x
          by_cases ex : x = b
          · subst ex; rw [upd_eq, upd_eq]; rfl
          · rw [upd_ne ex, upd_ne ex, upd_ne ex]
        rw [← this]
        exact h2
      · simp only [storeCells, Sem.run_bind]
        rw [Addr.add_lit, hj, hrun]
        exact hrun2
variable (P) in
def opStore (t : Nat) (vs : List D) (H : Hp) : Res :=
  match τ P t, vs with
  | some ti, [.ptr b i, d] =>
    match H b with
    | some cs => ⟨(cellsD d).length = ti.size ∧ i + ti.size ≤ cs.length ∧ (cellsD d).all leaf = true, .any, upd H b (some (stSeg cs i (cellsD d))), none⟩
    | none => bad H
  | some ti, [.box cs, d] => ⟨(cellsD d).length = ti.size ∧ cs.length = ti.size ∧ (cellsD d).all leaf = true, .any, H, some (.box (cellsD d))⟩
  | _, _ => bad H
theorem sound_store (t : TypeId) (x y : Operand) (ho : o.op = .store t x y) : Sound P o vals H (opStore P t vals H) := by
  have hx : o.op.operands.toList = [x, y] := by rw [ho]; rfl
  unfold opStore
  split
  case h_3 => exact .bad P o _ H
  · rename_i ti b i d ht
    split
    case h_2 => exact .bad P o _ H
    rename_i cs hc
    intro B n T a w μ fp N avals hR hav hpre next Q hk
    rw [hx] at hav; subst hav
    obtain ⟨p1, p2, p3⟩ := hpre
    obtain ⟨f1, f2, hf, r1, r2⟩ := RepL.two hR.bg
    have hcr := cells_rep p3 r2
    have h1 := r1
    simp only [Rep] at h1
    obtain ⟨rfl, hx1⟩ := h1
    have hb := hR.bB
    simp only [bndL] at hb
    have hR1 : R B n ⟨T, H⟩ (cellsD d) (a.eval y).cells.toList a w μ fp N := { hR with bg := by rw [hf]; simpa using hcr, bB := bnd_cells hb.2.1 }
    have hl : (a.eval y).cells.size = ti.size := by have := hcr.length; simp at this; omega
    obtain ⟨fp', w', h2, h3⟩ := R.storeL (P := P) (i := i) hR1 hc (by omega) (leafL_one p3 hcr) 0 i (by omega)
    have hrun : (execOp a.eval o).run P w = .ok .skip w' := by
      simp [execOp, ho, hx1, Instr.storeAt, Instr.sureAddr, storeVar, run_size ht, hl, h3]
    unfold Oper.wp
    rw [hrun]
    obtain ⟨fp2, h4⟩ := h2.res0 (d := .any) (v := undef) (by simp [Rep]) (by simp [bnd])
    exact hk undef w' μ fp2 N h4
  · rename_i ti cs d ht
    intro B n T a w μ fp N avals hR hav hpre next Q hk
    rw [hx] at hav; subst hav
    obtain ⟨p1, p2, p3⟩ := hpre
    obtain ⟨f1, f2, hf, r1, r2⟩ := RepL.two hR.bg
    have hcr := cells_rep p3 r2
    have hb := hR.bB
    simp only [bndL] at hb
    have h1 := r1
    simp only [Rep] at h1
    obtain ⟨b, cells, f, hx1, ⟨ty, hheap, hone⟩, h2, rfl⟩ := h1
    have hn : ((b :: f) ++ f2).Nodup := hf ▸ hR.nod .bag
    have hn' := List.nodup_append.1 hn
    have hl : (a.eval y).cells.size = ti.size := by have := hcr.length; simp at this; omega
    have hcl : cells.size = ti.size := by have := h2.length; simp at this; omega
    have hones := leafL_one p3 hcr
    have hrun0 := run_storeCells_at (P := P) b 0 ty (a.eval y).cells.toList 0 cells w hheap (by simp; omega) hones
    -- the row is turned whole
    obtain ⟨w', hw1, hw2, hw3⟩ : ∃ w' : World, (storeCells ⟨b, 0, none⟩ (a.eval y).cells.toList 0).run P w = .ok () w' ∧ w'.heap[b]? = some (.cells (a.eval y).cells ty (0, 0)) ∧ Frm w (fun x => x = b) w' := by
      have key : ∀ (us : List Value) (k : Nat) (w : World) (cs : Array Value), w.heap[b]? = some (.cells cs ty (0, 0)) → k + us.length ≤ cs.size → (∀ v ∈ us, v.oneCell' = true) → ∃ w' : World, (storeCells ⟨b, 0, none⟩ us k).run P w = .ok () w' ∧ (∃ cs' : Array Value, w'.heap[b]? = some (.cells cs' ty (0, 0)) ∧ cs'.toList = setSeg cs.toList k us) ∧ Frm w (fun x => x = b) w' := by
        intro us
        induction us with
        | nil => intro k w cs hh _ _; exact ⟨w, by simp [storeCells], ⟨cs, hh, rfl⟩, Frm.refl _ _⟩
        | cons u us ih =>
          intro k w cs hh hk hv
          simp only [List.length_cons] at hk
          have h1 := heap_setCell_same w b k cs ty u hh
          obtain ⟨w', q1, ⟨cs', q2, q3⟩, q4⟩ := ih (k + 1) (w.setCell ⟨b, k, none⟩ u) _ h1 (by simp; omega) (fun v hv' => hv v (by simp [hv']))
          have hcell : w.cell? ⟨b, k, none⟩ = some (cs[k]'(by omega)) := by simp only [World.cell?, hh]; simp
          have hfz : w.frozen? ⟨b, k, none⟩ = false := by simp [World.frozen?, hh]
          refine ⟨w', ?_, ⟨cs', q2, by rw [q3]; simp [setSeg]⟩, ⟨q4.os, q4.tape, q4.output, by have := q4.size; rwa [World.size_setCell] at this, fun x hx hn => ?_⟩⟩
          · simp only [storeCells, Sem.run_bind]
            rw [Addr.add_lit, Nat.zero_add, run_store P w _ u _ (hv u (by simp)), hcell]
            simp [hfz, q1]
          · rw [q4.same x (by rw [World.size_setCell]; exact hx) hn]
            exact heap_setCell_other w _ x u hn
      obtain ⟨w', q1, ⟨cs', q2, q3⟩, q4⟩ := key _ 0 w cells hheap (by simp; omega) hones
      refine ⟨w', q1, ?_, q4⟩
      have : cs' = (a.eval y).cells := by
        apply Array.ext'
        rw [q3]
        apply List.ext_getElem?
        intro j
        rw [setSeg_get _ _ _ _ (by simp; omega)]
        split
        · simp
        · rename_i hj
          simp at hj
          rw [List.getElem?_eq_none (by simp; omega), List.getElem?_eq_none (by simp; omega)]
      rw [← this]; exact q2
    have hrun : (execOp a.eval o).run P w = .ok .skip w' := by
      simp [execOp, ho, hx1, Instr.storeAt, Instr.sureAddr, storeVar, run_size ht, hl, hw1]
    unfold Oper.wp
    rw [hrun]
    have hbb : b ∈ fp .bag := by rw [hf]; simp
    have hnb : b ∉ f2 := fun hx => hn'.2.2 b (by simp) b hx rfl
    obtain ⟨fp2, h4⟩ := hR.resNew (hw3.weaken (fun x hx => by subst hx; exact hbb)) (d := .box (cellsD d)) (v := a.eval x) (f := b :: f2) (by
        simp only [Rep]
        refine ⟨b, (a.eval y).cells, f2, hx1, ⟨ty, hw2, fun j v hj => hones v (List.mem_of_getElem? (i := j) (by simpa using hj))⟩, RepL.mono (fun z hz => ⟨.inl hz, hw3.same z hz.1 fun e => ?_⟩) (fun z hz => hw3.same z ?_ fun e => ?_) hcr, rfl⟩
        · subst e; exact hz.2.2 _ hbb
        · exact (hR.own .bag z (by rw [hf]; exact List.mem_append_right _ hz)).2
        · subst e; exact hnb hz)
      (by rw [List.nodup_cons]; exact ⟨hnb, hn'.2.1⟩)
      (by
        intro z hz
        rcases List.mem_cons.1 hz with rfl | hz
        · exact .inl hbb
        · exact .inl (by rw [hf]; exact List.mem_append_right _ hz))
      (by simp only [bnd]; exact bnd_cells hb.2.1)
    refine hk undef w' μ fp2 N ?_
    refine { h4 with bg := ?_, bB := ?_ }
    · have := h4.bg
      simp only [RepL] at this ⊢
      exact ⟨undef, _, [], _, rfl, by simp, by simp [Rep], this⟩
    · have := h4.bB
      simp only [bndL] at this ⊢
      exact ⟨by simp [bnd], this⟩
/-- A cell's value goes to the bag. -/
theorem R.cellOut {B : Base} {n : Nat} {S : St} {ds : List D} {vs : List Value} {a : Act} {w : World} {μ : Nat → Nat} {fp : Root → List Nat} {N : Nat} {b i : Nat} {cs : List D} {d : D} (h : R B n S ds vs a w μ fp N) (hc : S.H b = some cs) (hi : cs[i]? = some d) :
    ∃ v fp', w.cell? ⟨μ b, i, none⟩ = some v ∧ v.oneCell' = true ∧ R B n ⟨S.T, upd S.H b (some (cs.set i .any))⟩ (d :: ds) (v :: vs) a w μ fp' N := by
  rcases h.hp b cs hc with ⟨k, _⟩ | ⟨cells, k1, k2, k3, k4, k5⟩
  · subst k; simp at hi
  obtain ⟨v, hv, hr⟩ := k4 i d hi
  have hm := Moves.two (fp := fp) (p := .cell b i) (q := .bag) (l := []) (m := fp (.cell b i) ++ fp .bag) h.nod h.dis (by simp) (by simp) .nil
    (nodup_app (h.nod _) (h.nod _) fun x hx hy => by have := h.dis _ _ x hx hy; cases this) (by simp)
  have hil : i < cs.length := by rcases Nat.lt_or_ge i cs.length with q | q; exact q; rw [List.getElem?_eq_none q] at hi; cases hi
  refine ⟨v, fset (fset fp (.cell b i) []) .bag (fp (.cell b i) ++ fp .bag), k1.cell hv, ?_, h.len, h.dfs, h.frm, h.jk, h.own' hm, hm.nod, hm.dis, ?_, ?_, ?_, ?_, h.bT, ?_, ?_, h.rn⟩
  · obtain ⟨_, _, hone⟩ := k1; exact hone i v hv
  · intro t; rw [fset_ne (by simp), fset_ne (by simp)]; exact (h.tm t).sub hm.sub
  · rw [fset_eq]
    simp only [RepL]
    exact ⟨v, vs, _, _, rfl, rfl, hr.sub hm.sub, h.bg.sub hm.sub⟩
  · intro b' cs' hc'
    by_cases e : b' = b
    · subst e
      dsimp only at hc'
      rw [upd_eq] at hc'
      cases hc'
      refine .inr ⟨cells, k1, by simp [k2], by simp [fset, k3], fun j e he => ?_, fun j hj => ?_⟩
      · rw [fset_ne (by simp)]
        by_cases ej : j = i
        · subst ej
          rw [fset_eq]
          rw [List.getElem?_set_self hil] at he
          cases he
          exact ⟨v, hv, by simp [Rep]⟩
        · rw [fset_ne (by simp [ej])]
          rw [List.getElem?_set_ne (fun h => ej h.symm)] at he
          obtain ⟨x, hx, hr⟩ := k4 j e he
          exact ⟨x, hx, hr.sub hm.sub⟩
      · rw [List.length_set] at hj
        rw [fset_ne (by simp), fset_ne (by simp; omega)]
        exact k5 j hj
    · dsimp only at hc'
      rw [upd_ne e] at hc'
      exact (h.hp b' cs' hc').sub hm.sub (by simp [fset]) (by simp [fset, e])
  · intro b' hb'
    have e : b' ≠ b := by rintro rfl; dsimp only at hb'; rw [upd_eq] at hb'; cases hb'
    dsimp only at hb'
    rw [upd_ne e] at hb'
    have := h.hn b' hb'
    simp [fset, e, this]
  · simp only [bndL]
    exact ⟨bndL_iff.1 (h.bH b cs hc).2 d (List.mem_of_getElem? hi), h.bB⟩
  · intro b' cs' hc'
    by_cases e : b' = b
    · subst e
      dsimp only at hc'
      rw [upd_eq] at hc'
      cases hc'
      have hb := h.bH b' cs hc
      refine ⟨hb.1, ?_⟩
      rw [bndL_iff] at *
      intro x hx
      rcases List.mem_or_eq_of_mem_set hx with hx | rfl
      · exact hb.2 x hx
      · simp [bnd]
    · dsimp only at hc'
      rw [upd_ne e] at hc'
      exact h.bH b' cs' hc'
/-- m cells from i on are given away. -/
def anyOut (cs : List D) (i : Nat) : Nat → List D
  | 0 => cs
  | m + 1 => anyOut (cs.set (i + m) .any) i m
theorem R.cellsOut {B : Base} {n : Nat} {a : Act} {w : World} {μ : Nat → Nat} {b i : Nat} : ∀ {m : Nat} {S : St} {ds : List D} {vs : List Value} {fp : Root → List Nat} {N : Nat} {cs : List D}, R B n S ds vs a w μ fp N → S.H b = some cs → i + m ≤ cs.length →
    ∃ us fp', us.length = m ∧ (∀ (j : Nat) (v : Value), us[j]? = some v → w.cell? ⟨μ b, i + j, none⟩ = some v) ∧ R B n ⟨S.T, upd S.H b (some (anyOut cs i m))⟩ ((cs.drop i).take m ++ ds) (us ++ vs) a w μ fp' N
  | 0, S, ds, vs, fp, N, cs, h, hc, hi => by
    have e : upd S.H b (some cs) = S.H := upd_self hc
    exact ⟨[], fp, rfl, by simp, by simpa [anyOut, e] using h⟩
  | m + 1, S, ds, vs, fp, N, cs, h, hc, hi => by
    have he : cs[i + m]? = some cs[i + m] := List.getElem?_eq_getElem (by omega)
    obtain ⟨v, fp1, hw, _, h1⟩ := h.cellOut hc he
    obtain ⟨us, fp2, k1, k2, k3⟩ := R.cellsOut (m := m) h1 (b := b) (i := i) (cs := cs.set (i + m) .any) (upd_eq ..) (by simp; omega)
    refine ⟨us ++ [v], fp2, by simp [k1], fun j u hu => ?_, ?_⟩
    · rw [List.getElem?_append] at hu
      split at hu
      · exact k2 j u hu
      · rename_i hj
        have : j = m := by
          rcases Nat.lt_or_ge (j - us.length) 1 with q | q
          · omega
          · rw [List.getElem?_eq_none (by simpa using q)] at hu; cases hu
        subst this
        rw [k1, Nat.sub_self] at hu
        cases hu
        exact hw
    · have e1 : ((cs.set (i + m) .any).drop i).take m = (cs.drop i).take m := by
        apply List.ext_getElem?
        intro j
        rw [List.getElem?_take, List.getElem?_take]
        split
        · rw [List.getElem?_drop, List.getElem?_drop, List.getElem?_set_ne (by omega)]
        · rfl
      have e2 : (cs.drop i).take (m + 1) = (cs.drop i).take m ++ [cs[i + m]] := by
        rw [List.take_succ_eq_append_getElem (by simp; omega)]; simp
      have e3 : upd (upd S.H b (some (cs.set (i + m) .any))) b (some (anyOut (cs.set (i + m) .any) i m)) = upd S.H b (some (anyOut cs i (m + 1))) := by
        funext x
        by_cases ex : x = b
        · subst ex; rw [upd_eq, upd_eq]; rfl
        · rw [upd_ne ex, upd_ne ex, upd_ne ex]
      dsimp only at k3
      rw [e1, e3] at k3
      rw [e2]
      simpa using k3
variable (P) in
/-- 'load' where what is owned may be taken out. -/
def opLoadM (t : Nat) (vs : List D) (H : Hp) : Res :=
  match τ P t, vs with
  | some ti, [.ptr b i] =>
    match H b with
    | some cs => if ti.agg = true then (if ownsL ((cs.drop i).take ti.size) = true then ⟨0 < ti.size ∧ i + ti.size ≤ cs.length, .st ((cs.drop i).take ti.size), upd H b (some (anyOut cs i ti.size)), none⟩ else opLoad P t [.ptr b i] H)
      else (if owns (cs.getD i .any) = true then ⟨i < cs.length, cs.getD i .any, upd H b (some (cs.set i .any)), none⟩ else opLoad P t [.ptr b i] H)
    | none => bad H
  | _, _ => opLoad P t vs H
theorem sound_loadM (t : TypeId) (x : Operand) (ho : o.op = .load t x) : Sound P o vals H (opLoadM P t vals H) := by
  have hx : o.op.operands.toList = [x] := by rw [ho]; rfl
  unfold opLoadM
  split
  · rename_i ti b i ht
    split
    · rename_i cs hc
      split
      · rename_i ha
        split
        · intro B n T a w μ fp N avals hR hav hpre next Q hk
          obtain rfl := one_eval hx hav
          have h1 := hR.bg.one
          simp only [Rep] at h1
          obtain ⟨fp1, h2⟩ := hR.unbag
          obtain ⟨us, fp2, k1, k2, k3⟩ := R.cellsOut (m := ti.size) h2 hc hpre.2
          have hl := run_load_agg (P := P) ht ha k1 k2
          have hrun : (execOp a.eval o).run P w = .ok (.value (.agg us.toArray)) w := by simp [execOp, ho, h1.2, hl]
          unfold Oper.wp
          rw [hrun]
          refine hk _ w μ fp2 N (k3.rebag' ?_ ?_)
          · have := k3.bg
            rw [List.append_nil, List.append_nil] at this
            simp only [RepL, Rep]
            exact ⟨_, [], _, [], rfl, by simp, ⟨us, rfl, this⟩, rfl, rfl⟩
          · have := k3.bB
            rw [List.append_nil] at this
            simp only [bndL, bnd]; exact ⟨this, trivial⟩
        · exact sound_load t x ho
      · rename_i ha
        have ha : ti.agg = false := by simpa using ha
        split
        · intro B n T a w μ fp N avals hR hav hpre next Q hk
          obtain rfl := one_eval hx hav
          have h1 := hR.bg.one
          simp only [Rep] at h1
          obtain ⟨fp1, h2⟩ := hR.unbag
          have he : cs[i]? = some (cs.getD i .any) := by rw [List.getD_eq_getElem?_getD, List.getElem?_eq_getElem hpre]; rfl
          obtain ⟨v, fp2, k1, _, k3⟩ := h2.cellOut hc he
          have hl := run_load_one (P := P) ht ha k1
          have hrun : (execOp a.eval o).run P w = .ok (.value v) w := by simp [execOp, ho, h1.2, hl]
          unfold Oper.wp
          rw [hrun]
          exact hk _ w μ fp2 N k3
        · exact sound_load t x ho
    · exact .bad P o _ H
  · exact sound_load t x ho
end
end Go.Proofs.Ytlbbhkpjjciaiaa.Vm

