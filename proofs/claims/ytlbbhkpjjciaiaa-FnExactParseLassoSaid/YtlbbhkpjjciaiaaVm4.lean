/-
  What the operations that read or make memory do to abstract values. No conditions; nothing of the program is named here.
-/
import Derived.Test.YtlbbhkpjjciaiaaVm3
namespace Go.Proofs.Ytlbbhkpjjciaiaa.Vm
open Go
set_option linter.unusedVariables false
set_option linter.unusedSimpArgs false
set_option linter.unusedSectionVars false
section
variable {P : Program} {o : Oper} {vals : List D} {H : Hp}

/-! load -/
theorem run_load_agg {t : TypeId} {ti : Ti} (ht : τ P t = some ti) (ha : ti.agg = true) {w : World} {b i : Nat} {vs : List Value} (hl : vs.length = ti.size) (h : ∀ (j : Nat) (v : Value), vs[j]? = some v → w.cell? ⟨b, i + j, none⟩ = some v) :
    (Instr.loadAt t (.pointer (some ⟨b, i, none⟩))).run P w = .ok (.agg vs.toArray) w := by
  have := run_loadCells_list (P := P) w ⟨b, i, none⟩ vs (fun j v hv => by rw [Addr.add_lit]; exact h j v hv)
  simp [Instr.loadAt, Instr.sureAddr, loadVar, run_agg ht, ha, run_size ht, ← hl, this]
theorem run_load_one {t : TypeId} {ti : Ti} (ht : τ P t = some ti) (ha : ti.agg = false) {w : World} {b i : Nat} {v : Value} (h : w.cell? ⟨b, i, none⟩ = some v) :
    (Instr.loadAt t (.pointer (some ⟨b, i, none⟩))).run P w = .ok v w := by
  simp [Instr.loadAt, Instr.sureAddr, loadVar, run_agg ht, ha, load, Sem.run, h]
variable (P) in
def opLoad (t : Nat) (vs : List D) (H : Hp) : Res :=
  match τ P t with
  | some ti =>
    match vs with
    | [.ptr b i] =>
      match H b with
      | some cs => if ti.agg then ⟨0 < ti.size ∧ i + ti.size ≤ cs.length ∧ ownsL ((cs.drop i).take ti.size) = false, .st ((cs.drop i).take ti.size), H, none⟩
        else ⟨i < cs.length ∧ owns (cs.getD i .any) = false, cs.getD i .any, H, none⟩
      | none => bad H
    | [.pd cs] => if ti.agg then ⟨ti.size ≤ cs.length, .st (cs.take ti.size), H, none⟩ else ⟨0 < cs.length, cs.getD 0 .any, H, none⟩
    | _ => bad H
  | none => bad H
theorem Whole.cell {w : World} {b : Nat} {cells : Array Value} (h : Whole w b cells) {i : Nat} {v : Value} (hv : cells[i]? = some v) : w.cell? ⟨b, i, none⟩ = some v := by
  obtain ⟨t, h1, _⟩ := h
  simp only [World.cell?, h1]
  exact hv
theorem ownsL_iff {ds : List D} : ownsL ds = false ↔ ∀ d ∈ ds, owns d = false := by
  induction ds with
  | nil => simp [ownsL]
  | cons d ds ih => simp [ownsL, ih]
theorem sound_load (t : TypeId) (x : Operand) (ho : o.op = .load t x) : Sound P o vals H (opLoad P t vals H) := by
  have hx : o.op.operands.toList = [x] := by rw [ho]; rfl
  unfold opLoad
  split
  case h_2 => exact .bad P o _ H
  rename_i ti ht
  split
  · rename_i b i
    split
    case h_2 => exact .bad P o _ H
    rename_i cs hc
    have main : ∀ (d : D) (pre : Prop), (pre → cs ≠ [] ∧ ∀ (w : World) (cells : Array Value) (μ : Nat → Nat) (I : Nat → Prop), Whole w (μ b) cells → cells.size = cs.length → (∀ (j : Nat) (e : D), cs[j]? = some e → owns e = false → ∃ v, cells[j]? = some v ∧ Rep μ I w e v []) →
        ∃ v, (Instr.loadAt t (.pointer (some ⟨μ b, i, none⟩))).run P w = .ok v w ∧ Rep μ I w d v []) → (∀ N, pre → bndL N cs → bnd N d) → Sound P o [.ptr b i] H ⟨pre, d, H, none⟩ := by
      intro d pre hmain hbd B n T a w μ fp N avals hR hav hpre next Q hk
      obtain rfl := one_eval hx hav
      have h1 := hR.bg.one
      simp only [Rep] at h1
      obtain ⟨hne, hmain⟩ := hmain hpre
      rcases hR.hp b cs hc with ⟨k, _⟩ | ⟨cells, k1, k2, k3, k4, k5⟩
      · exact (hne k).elim
      · obtain ⟨v, h2, h3⟩ := hmain w cells μ (Im B w fp) k1 k2 fun j e he ho => by
          obtain ⟨v, hv, hr⟩ := k4 j e he
          have := hr.free ho
          rw [this] at hr
          exact ⟨v, hv, hr⟩
        obtain ⟨fp', hR'⟩ := hR.res0 h3 (hbd N hpre (hR.bH b cs hc).2)
        have hrun : (execOp a.eval o).run P w = .ok (.value v) w := by simp [execOp, ho, h1.2, h2]
        unfold Oper.wp
        rw [hrun]
        exact hk v w μ fp' N hR'
    split
    · rename_i ha
      refine main _ _ (fun hp => ⟨fun e => by subst e; simp at hp; omega, fun w cells μ I hw hsz hcell => ?_⟩) (fun N _ hb => by simp only [bnd]; exact bndL_take (bndL_drop hb _) _)
      obtain ⟨p0, p1, p2⟩ := hp
      have hown : ∀ j, j < ti.size → ∃ e v, cs[i + j]? = some e ∧ cells[i + j]? = some v ∧ Rep μ I w e v [] := by
        intro j hj
        have he : cs[i + j]? = some cs[i + j] := List.getElem?_eq_getElem (by omega)
        obtain ⟨v, hv, hr⟩ := hcell _ _ he (ownsL_iff.1 p2 _ (by
          refine List.mem_of_getElem? (i := j) ?_
          rw [List.getElem?_take, if_pos hj, List.getElem?_drop]; exact he))
        exact ⟨_, v, he, hv, hr⟩
      have hl : ((cells.toList.drop i).take ti.size).length = ti.size := by simp; omega
      refine ⟨.agg ((cells.toList.drop i).take ti.size).toArray, run_load_agg ht ha hl fun j v hv => ?_, ?_⟩
      · rw [List.getElem?_take] at hv
        split at hv
        · rw [List.getElem?_drop] at hv
          exact hw.cell (by simpa using hv)
        · cases hv
      · simp only [Rep]
        refine ⟨_, rfl, .build (by rw [hl]; simp; omega) fun j e v h1 h2 => ?_⟩
        rw [List.getElem?_take] at h1 h2
        split at h1
        · rename_i hj
          rw [if_pos hj] at h2
          rw [List.getElem?_drop] at h1 h2
          obtain ⟨e', v', q1, q2, q3⟩ := hown j hj
          rw [q1] at h1; cases h1
          have : cells[i + j]? = some v := by simpa using h2
          rw [q2] at this; cases this
          exact q3
        · cases h1
    · rename_i ha
      have ha : ti.agg = false := by simpa using ha
      refine main _ _ (fun hp => ⟨fun e => by subst e; simp at hp, fun w cells μ I hw hsz hcell => ?_⟩) (fun N hp hb => ?_)
      · have he : cs[i]? = some (cs.getD i .any) := by rw [List.getD_eq_getElem?_getD, List.getElem?_eq_getElem hp.1]; rfl
        obtain ⟨v, hv, hr⟩ := hcell i _ he hp.2
        exact ⟨v, run_load_one ht ha (hw.cell hv), hr⟩
      · have he : cs[i]? = some (cs.getD i .any) := by rw [List.getD_eq_getElem?_getD, List.getElem?_eq_getElem hp.1]; rfl
        exact bndL_iff.1 hb _ (List.mem_of_getElem? he)
  · rename_i cs
    split
    · rename_i ha
      refine .of rfl rfl fun μ I w a f N avals hr hav hn hb hp => ?_
      obtain rfl := one_eval hx hav
      have h1 := hr.one
      simp only [Rep] at h1
      obtain ⟨_, b, i, vs, hv, hI, hseg, hrep⟩ := h1
      dsimp only at hp
      simp only [bndL, bnd] at hb
      refine ⟨.agg (vs.take ti.size).toArray, [], ?_, ?_, .nil, by simp, by simp only [bnd]; exact bndL_take hb.1 _⟩
      · have := run_load_agg (P := P) ht ha (w := w) (b := b) (i := i) (vs := vs.take ti.size) (by rw [List.length_take, hrep.length]; omega) fun j v hv => (hseg.take _).cell hv
        simp [execOp, ho, hv, this]
      · simp only [Rep]; exact ⟨_, rfl, hrep.take _⟩
    · rename_i ha
      have ha : ti.agg = false := by simpa using ha
      refine .of rfl rfl fun μ I w a f N avals hr hav hn hb hp => ?_
      obtain rfl := one_eval hx hav
      have h1 := hr.one
      simp only [Rep] at h1
      obtain ⟨_, b, i, vs, hv, hI, hseg, hrep⟩ := h1
      dsimp only at hp
      simp only [bndL, bnd] at hb
      have he : cs[0]? = some (cs.getD 0 .any) := by rw [List.getD_eq_getElem?_getD, List.getElem?_eq_getElem hp]; rfl
      obtain ⟨v, hv2, hr2⟩ := hrep.get he
      refine ⟨v, [], ?_, hr2, .nil, by simp, bndL_iff.1 hb.1 _ (List.mem_of_getElem? he)⟩
      have := run_load_one (P := P) ht ha (hseg.cell hv2)
      simp only [Nat.add_zero] at this
      simp [execOp, ho, hv, this]
  · exact .bad P o _ H

/-! what is new in memory -/
theorem Frm.alloc (w : World) (x : Obj) : Frm w (fun _ => False) (w.alloc x) :=
  ⟨rfl, rfl, rfl, by simp, fun b hb _ => by
    show (w.heap.push x)[b]? = _
    rw [Array.getElem?_push, if_neg (Nat.ne_of_lt hb)]⟩
theorem Frm.drew (w : World) : Frm w (fun _ => False) w.drew := ⟨rfl, rfl, rfl, Nat.le_refl _, fun _ _ _ => rfl⟩
theorem Frm.trans0 {w w' w'' : World} (h : Frm w (fun _ => False) w') (k : Frm w' (fun _ => False) w'') : Frm w (fun _ => False) w'' :=
  ⟨k.os.trans h.os, k.tape.trans h.tape, k.output.trans h.output, Nat.le_trans h.size k.size, fun b hb hf => (k.same b (Nat.lt_of_lt_of_le hb h.size) hf).trans (h.same b hb hf)⟩
theorem Whole.new (w : World) (cells : Array Value) (t : TypeId) (h : ∀ v ∈ cells.toList, v.oneCell' = true) : Whole (w.alloc (.cells cells t)) w.heap.size cells :=
  ⟨t, (by show (w.heap.push _)[w.heap.size]? = _; simp), fun i v hv => h v (List.mem_of_getElem? (i := i) (by simpa using hv))⟩
theorem leafL_one {μ : Nat → Nat} {I : Nat → Prop} {w : World} : ∀ {ds : List D} {vs : List Value} {f : List Nat}, ds.all leaf = true → RepL μ I w ds vs f → ∀ v ∈ vs, v.oneCell' = true
  | [], vs, f, h, hr => by simp only [RepL] at hr; simp [hr.1]
  | d :: ds, vs, f, h, hr => by
    simp only [RepL] at hr
    obtain ⟨v, vs', f1, f2, rfl, rfl, h1, h2⟩ := hr
    simp only [List.all_cons, Bool.and_eq_true] at h
    intro u hu
    rcases List.mem_cons.1 hu with rfl | hu
    · exact leaf_one h.1 h1
    · exact leafL_one h.2 h2 u hu

/-- An operation that makes one block out of its operands' values. -/
theorem Sound.ofNew {r : Res} (hb : r.back = none) (hH : r.H = H)
    (h : ∀ (μ : Nat → Nat) (I : Nat → Prop) (w : World) (a : Act) (f : List Nat) (N : Nat) (avals : List Value), RepL μ I w vals avals f → o.op.operands.toList.map a.eval = avals → f.Nodup → bndL N vals → r.pre → (∀ x, I x → x < w.heap.size) → (∀ x ∈ f, x < w.heap.size) →
      ∃ v w' f', (execOp a.eval o).run P w = .ok (.value v) w' ∧ Frm w (fun _ => False) w' ∧ Rep μ (fun x => I x ∨ (w.heap.size ≤ x ∧ x < w'.heap.size ∧ x ∉ f')) w' r.val v f' ∧ f'.Nodup ∧ (∀ x ∈ f', x ∈ f ∨ (w.heap.size ≤ x ∧ x < w'.heap.size)) ∧ bnd N r.val) : Sound P o vals H r := by
  intro B n T a w μ fp N avals hR hav hpre next Q hk
  obtain ⟨v, w', f', hrun, hw, hrep, hnd, hsub, hbn⟩ := h μ (Im B w fp) w a _ N avals hR.bg hav (hR.nod .bag) hR.bB hpre (fun x hx => hx.1) (fun x hx => (hR.own _ x hx).2)
  obtain ⟨fp', hR'⟩ := hR.resNew (hw.weaken (by simp)) hrep hnd hsub hbn
  unfold Oper.wp
  rw [hrun]
  exact hk v w' μ fp' N (by rw [hb, hH]; exact hR')
theorem zero_spec {t : TypeId} {ti : Ti} (ht : τ P t = some ti) (hz : ti.zero ≠ []) : ∃ z, (∀ w, (zeroValue t).run P w = .ok z w) ∧ (∃ i, P.info? t = some i ∧ i.zero = some z ∧ i.size = ti.size ∧ i.bytes = ti.bytes) ∧ ti.zero = z.cells.toList.map leafD := by
  obtain ⟨i, hi, h1, h2, h3, h4, h5⟩ := τ_spec ht
  cases hzi : i.zero with
  | none => rw [hzi] at h5; exact (hz h5).elim
  | some z =>
    rw [hzi] at h5
    refine ⟨z, fun w => ?_, ⟨i, hi, hzi, h1, h2⟩, h5⟩
    simp [zeroValue, typeInfo, hi, hzi]
variable (P) in
def opAlloc (t : Nat) (vs : List D) (H : Hp) : Res :=
  match τ P t, vs with
  | some ti, [] => ⟨ti.zero ≠ [] ∧ ti.zero.all leaf = true, .box ti.zero, H, none⟩
  | _, _ => bad H
theorem sound_alloc (t : TypeId) (ho : o.op = .alloc t) : Sound P o vals H (opAlloc P t vals H) := by
  unfold opAlloc
  split
  · rename_i ti ht
    refine .ofNew rfl rfl fun μ I w a f N avals hr hav hn hb hp hI hf => ?_
    dsimp only at hp
    obtain ⟨z, h1, _, h2⟩ := zero_spec ht hp.1
    have hrep : RepL μ (fun x => I x ∨ (w.heap.size ≤ x ∧ x < (w.alloc (.cells z.cells t)).heap.size ∧ x ∉ [w.heap.size])) (w.alloc (.cells z.cells t)) ti.zero z.cells.toList [] := by
      rw [h2]; exact RepL.leafD _ _ _ _
    refine ⟨.pointer (some ⟨w.heap.size, 0, none⟩), w.alloc (.cells z.cells t), [w.heap.size], ?_, Frm.alloc _ _, ?_, by simp, by simp, ?_⟩
    · simp [execOp, ho, Instr.alloc, h1, newVar, newRow]
    · simp only [Rep]
      exact ⟨w.heap.size, z.cells, [], rfl, Whole.new w z.cells t (leafL_one hp.2 hrep), hrep, rfl⟩
    · simp only [bnd]; rw [h2]; exact bndL_leafD _ _
  · exact .bad P o _ H
/-- The cells of a value. -/
def cellsD : D → List D
  | .st cs => cs
  | d => [d]
theorem cells_rep {μ : Nat → Nat} {I : Nat → Prop} {w : World} {d : D} {v : Value} {f : List Nat} (hl : (cellsD d).all leaf = true) (h : Rep μ I w d v f) : RepL μ I w (cellsD d) v.cells.toList f := by
  cases d with
  | st cs =>
    simp only [Rep] at h
    obtain ⟨vs, rfl, h⟩ := h
    simpa [cellsD, Value.cells] using h
  | _ =>
    simp only [cellsD, List.all_cons, List.all_nil, Bool.and_true] at hl
    have h1 := leaf_one hl h
    have e : v.cells = #[v] := by cases v <;> simp [Value.oneCell', Value.cells] at h1 ⊢
    rw [e]
    simp only [cellsD, RepL]
    exact ⟨v, [], f, [], rfl, by simp, h, rfl, rfl⟩
theorem bnd_cells {N : Nat} {d : D} (h : bnd N d) : bndL N (cellsD d) := by
  cases d with
  | st cs => simpa only [bnd, cellsD] using h
  | _ => simp only [cellsD, bndL]; exact ⟨h, trivial⟩
def opBox (vs : List D) (H : Hp) : Res :=
  match vs with
  | [d] => ⟨(cellsD d).all leaf = true, .box (cellsD d), H, none⟩
  | _ => bad H
theorem sound_box (t : TypeId) (x : Operand) (ho : o.op = .box t x) : Sound P o vals H (opBox vals H) := by
  have hx : o.op.operands.toList = [x] := by rw [ho]; rfl
  unfold opBox
  split
  · rename_i d
    refine .ofNew rfl rfl fun μ I w a f N avals hr hav hn hb hp hI hf => ?_
    obtain rfl := one_eval hx hav
    dsimp only at hp
    simp only [bndL] at hb
    have h1 := cells_rep hp hr.one
    have hnew : w.heap.size ∉ f := fun hx => Nat.lt_irrefl _ (hf _ hx)
    have hw := Frm.alloc w (.cells (a.eval x).cells t)
    have h2 : RepL μ (fun y => I y ∨ (w.heap.size ≤ y ∧ y < (w.alloc (.cells (a.eval x).cells t)).heap.size ∧ y ∉ w.heap.size :: f)) (w.alloc (.cells (a.eval x).cells t)) (cellsD d) (a.eval x).cells.toList f :=
      RepL.mono (fun y hy => ⟨.inl hy, hw.same y (hI y hy) (by simp)⟩) (fun y hy => hw.same y (hf y hy) (by simp)) h1
    refine ⟨.pointer (some ⟨w.heap.size, 0, none⟩), w.alloc (.cells (a.eval x).cells t), w.heap.size :: f, ?_, hw, ?_, by simp [hnew, hn], ?_, by simp only [bnd]; exact bnd_cells hb.1⟩
    · simp [execOp, ho, Instr.box, newVar, newRow]
    · simp only [Rep]
      exact ⟨w.heap.size, _, f, rfl, Whole.new w _ t (leafL_one hp h1), h2, rfl⟩
    · intro y hy
      rcases List.mem_cons.1 hy with rfl | hy
      · exact .inr ⟨Nat.le_refl _, by simp⟩
      · exact .inl hy
  · exact .bad P o _ H

/-! build -/
def setSeg {α : Type} : List α → Nat → List α → List α
  | cs, _, [] => cs
  | cs, i, d :: ds => setSeg (cs.set i d) (i + 1) ds
/-- The same, at stores. -/
def stSeg (cs : List D) (i : Nat) (ds : List D) : List D := setSeg cs i ds
theorem setSeg_length {α : Type} : ∀ (ds cs : List α) (i : Nat), (setSeg cs i ds).length = cs.length
  | [], cs, i => rfl
  | d :: ds, cs, i => by simp [setSeg, setSeg_length ds]
theorem RepL.set1 {μ : Nat → Nat} {I : Nat → Prop} {w : World} : ∀ {ds : List D} {vs : List Value} {f g : List Nat} {i : Nat} {d : D} {v : Value}, RepL μ I w ds vs f → Rep μ I w d v g → (f ++ g).Nodup → i < ds.length →
    ∃ f', RepL μ I w (ds.set i d) (vs.set i v) f' ∧ f'.Nodup ∧ ∀ x, x ∈ f' → x ∈ f ∨ x ∈ g
  | [], vs, f, g, i, d, v, h, hg, hn, hi => by simp at hi
  | e :: ds, vs, f, g, i, d, v, h, hg, hn, hi => by
    simp only [RepL] at h
    obtain ⟨u, vs', f1, f2, rfl, rfl, h3, h4⟩ := h
    have hn' := List.nodup_append.1 hn
    have hf := List.nodup_append.1 hn'.1
    cases i with
    | zero =>
      refine ⟨g ++ f2, ?_, nodup_app hn'.2.1 hf.2.1 fun x hx hy => hn'.2.2 x (List.mem_append_right _ hy) x hx rfl, fun x hx => ?_⟩
      · simp only [List.set_cons_zero, RepL]
        exact ⟨v, vs', g, f2, rfl, rfl, hg, h4⟩
      · rcases List.mem_append.1 hx with hx | hx
        · exact .inr hx
        · exact .inl (List.mem_append_right _ hx)
    | succ i =>
      obtain ⟨f', k1, k2, k3⟩ := RepL.set1 h4 hg (nodup_app hf.2.1 hn'.2.1 fun x hx hy => hn'.2.2 x (List.mem_append_right _ hx) x hy rfl) (by simpa using hi)
      refine ⟨f1 ++ f', ?_, nodup_app hf.1 k2 fun x hx hy => ?_, fun x hx => ?_⟩
      · simp only [List.set_cons_succ, RepL]
        exact ⟨u, vs'.set i v, f1, f', rfl, rfl, h3, k1⟩
      · rcases k3 x hy with hy | hy
        · exact hf.2.2 x hx x hy rfl
        · exact hn'.2.2 x (List.mem_append_left _ hx) x hy rfl
      · rcases List.mem_append.1 hx with hx | hx
        · exact .inl (List.mem_append_left _ hx)
        · rcases k3 x hx with hx | hx
          · exact .inl (List.mem_append_right _ hx)
          · exact .inr hx
theorem RepL.setSeg {μ : Nat → Nat} {I : Nat → Prop} {w : World} : ∀ {es : List D} {us : List Value} {ds : List D} {vs : List Value} {f g : List Nat} {i : Nat}, RepL μ I w ds vs f → RepL μ I w es us g → (f ++ g).Nodup → i + es.length ≤ ds.length →
    ∃ f', RepL μ I w (setSeg ds i es) (Vm.setSeg vs i us) f' ∧ f'.Nodup ∧ ∀ x, x ∈ f' → x ∈ f ∨ x ∈ g
  | [], us, ds, vs, f, g, i, h, hg, hn, hi => by
    simp only [RepL] at hg
    obtain ⟨rfl, rfl⟩ := hg
    exact ⟨f, by simpa [Vm.setSeg] using h, (List.nodup_append.1 hn).1, fun x hx => .inl hx⟩
  | e :: es, us, ds, vs, f, g, i, h, hg, hn, hi => by
    simp only [RepL] at hg
    obtain ⟨u, us', g1, g2, rfl, rfl, h3, h4⟩ := hg
    rw [← List.append_assoc] at hn
    have hn' := List.nodup_append.1 hn
    simp only [List.length_cons] at hi
    obtain ⟨f1, k1, k2, k3⟩ := RepL.set1 h h3 hn'.1 (i := i) (by omega)
    obtain ⟨f2, l1, l2, l3⟩ := RepL.setSeg k1 h4 (nodup_app k2 hn'.2.1 fun x hx hy => hn'.2.2 x (by rcases k3 x hx with hx | hx; exact List.mem_append_left _ hx; exact List.mem_append_right _ hx) x hy rfl) (i := i + 1) (by simp; omega)
    refine ⟨f2, l1, l2, fun x hx => ?_⟩
    rcases l3 x hx with hx | hx
    · rcases k3 x hx with hx | hx
      · exact .inl hx
      · exact .inr (List.mem_append_left _ hx)
    · exact .inr (List.mem_append_right _ hx)
theorem foldl_setSeg : ∀ (us : List Value) (k off : Nat) (cells : Array Value), ((us.zipIdx k).foldl (fun cs (c, j) => cs.setIfInBounds (off + j) c) cells).toList = setSeg cells.toList (off + k) us
  | [], k, off, cells => rfl
  | u :: us, k, off, cells => by
    simp only [List.zipIdx_cons, List.foldl_cons, setSeg]
    rw [foldl_setSeg us (k + 1) off]
    simp [Nat.add_assoc]
def fillD (place : Nat → Option (Nat × Nat)) : List D → List (Nat × D) → Option (List D)
  | cs, [] => some cs
  | cs, (i, d) :: rest =>
    match place i with
    | none => none
    | some (off, size) => if (cellsD d).length = size ∧ off + size ≤ cs.length ∧ (cellsD d).all leaf = true then fillD place (setSeg cs off (cellsD d)) rest else none
theorem fill_rep {μ : Nat → Nat} {I : Nat → Prop} {w : World} (place : Nat → Option (Nat × Nat)) : ∀ {idx : List Nat} {es : List D} {us : List Value} {ds r : List D} {cells : Array Value} {f g : List Nat}, idx.length = es.length → fillD place ds (idx.zip es) = some r →
    RepL μ I w ds cells.toList f → RepL μ I w es us g → (f ++ g).Nodup → ∃ cells' f', Instr.fill place cells (idx.zip us) = some cells' ∧ cells'.size = cells.size ∧ RepL μ I w r cells'.toList f' ∧ f'.Nodup ∧ ∀ x, x ∈ f' → x ∈ f ∨ x ∈ g
  | [], es, us, ds, r, cells, f, g, hl, hf, h, hg, hn => by
    simp [fillD] at hf
    subst hf
    exact ⟨cells, f, by simp [Instr.fill], rfl, h, (List.nodup_append.1 hn).1, fun x hx => .inl hx⟩
  | i :: idx, [], us, ds, r, cells, f, g, hl, hf, h, hg, hn => by simp at hl
  | i :: idx, e :: es, us, ds, r, cells, f, g, hl, hf, h, hg, hn => by
    simp only [RepL] at hg
    obtain ⟨u, us', g1, g2, rfl, rfl, h3, h4⟩ := hg
    simp only [List.zip_cons_cons, fillD] at hf
    split at hf
    · cases hf
    · rename_i off size hp
      split at hf
      · rename_i hc
        have hcr := cells_rep hc.2.2 h3
        have hul : u.cells.size = size := by have := hcr.length; simp at this; omega
        rw [← List.append_assoc] at hn
        have hn' := List.nodup_append.1 hn
        have hdl : cells.size = ds.length := by have := h.length; simpa using this
        obtain ⟨f1, k1, k2, k3⟩ := RepL.setSeg h hcr hn'.1 (i := off) (by omega)
        have e1 : (u.cells.zipIdx.foldl (fun cs (c, j) => cs.setIfInBounds (off + j) c) cells).toList = setSeg cells.toList off u.cells.toList := by
          have := foldl_setSeg u.cells.toList 0 off cells
          rw [Nat.add_zero] at this
          rw [← this, ← Array.foldl_toList]
          simp
        have k1' : RepL μ I w (setSeg ds off (cellsD e)) (u.cells.zipIdx.foldl (fun cs (c, j) => cs.setIfInBounds (off + j) c) cells).toList f1 := by rw [e1]; exact k1
        obtain ⟨cells', f', l1, l0, l2, l3, l4⟩ := fill_rep place (by simpa using hl) hf k1' h4 (nodup_app k2 hn'.2.1 fun x hx hy => hn'.2.2 x (by rcases k3 x hx with hx | hx; exact List.mem_append_left _ hx; exact List.mem_append_right _ hx) x hy rfl)
        refine ⟨cells', f', ?_, ?_, l2, l3, fun x hx => ?_⟩
        · simp only [List.zip_cons_cons, Instr.fill, hp]
          rw [if_neg (by simp [hul]; omega)]
          exact l1
        · rw [l0, ← Array.length_toList, e1, setSeg_length]; simp
        · rcases l4 x hx with hx | hx
          · rcases k3 x hx with hx | hx
            · exact .inl hx
            · exact .inr (List.mem_append_left _ hx)
          · exact .inr (List.mem_append_right _ hx)
      · cases hf
theorem bndL_setSeg {N : Nat} : ∀ (es ds : List D) (i : Nat), bndL N ds → bndL N es → bndL N (setSeg ds i es)
  | [], ds, i, h, hg => h
  | e :: es, ds, i, h, hg => by
    simp only [bndL] at hg
    refine bndL_setSeg es _ _ ?_ hg.2
    rw [bndL_iff] at *
    intro d hd
    rcases List.mem_or_eq_of_mem_set hd with hd | rfl
    · exact h d hd
    · exact hg.1
theorem bndL_fillD {N : Nat} (place : Nat → Option (Nat × Nat)) : ∀ {idx : List Nat} {es ds r : List D}, fillD place ds (idx.zip es) = some r → bndL N ds → bndL N es → bndL N r
  | [], es, ds, r, hf, h, hg => by simp [fillD] at hf; subst hf; exact h
  | i :: idx, [], ds, r, hf, h, hg => by simp [fillD] at hf; subst hf; exact h
  | i :: idx, e :: es, ds, r, hf, h, hg => by
    simp only [List.zip_cons_cons, fillD] at hf
    simp only [bndL] at hg
    split at hf
    · cases hf
    · split at hf
      · exact bndL_fillD place hf (bndL_setSeg _ _ _ h (bnd_cells hg.1)) hg.2
      · cases hf
variable (P) in
def placesD (fields : Array Field) : Option (List (Nat × Nat)) := fields.toList.mapM (fun f => (τ P f.type).map fun i => (f.offset, i.size))
theorem placesD_info : ∀ (fs : List Field) (places : List (Nat × Nat)), fs.mapM (fun f => (τ P f.type).map fun i => (f.offset, i.size)) = some places → fs.mapM (fun f => (P.info? f.type).map fun i => (f.offset, i.size)) = some places
  | [], places, h => by simpa using h
  | f :: fs, places, h => by
    simp only [List.mapM_cons, Option.bind_eq_bind, Option.pure_def] at h ⊢
    cases ht : τ P f.type with
    | none => simp [ht] at h
    | some ti =>
      obtain ⟨i, hi, h1, _⟩ := τ_spec ht
      cases hr : fs.mapM (fun f => (τ P f.type).map fun i => (f.offset, i.size)) with
      | none => simp [ht, hr] at h
      | some rest =>
        simp [ht, hr] at h
        subst h
        simp [hi, placesD_info fs rest hr, h1]
variable (P) in
def opBuild (t : Nat) (idx : List Nat) (vs : List D) (H : Hp) : Res :=
  match τ P t with
  | some ⟨_, _, _, zero, .struct fields⟩ =>
    match placesD P fields with
    | some places => ⟨zero ≠ [] ∧ (fillD (places.toArray[·]?) zero (idx.zip vs)).isSome = true, .st ((fillD (places.toArray[·]?) zero (idx.zip vs)).getD []), H, none⟩
    | none => bad H
  | _ => bad H
theorem zip_map_fst {α β γ : Type} (l : List (α × β)) (f : β → γ) : l.map (fun x => (x.1, f x.2)) = (l.map (·.1)).zip (l.map (fun x => f x.2)) := by
  induction l with
  | nil => rfl
  | cons a l ih => simp [ih]
theorem sound_build (t : TypeId) (parts : Array (Nat × Operand)) (ho : o.op = .build t parts) : Sound P o vals H (opBuild P t (parts.toList.map (·.1)) vals H) := by
  have hx : o.op.operands.toList = parts.toList.map (·.2) := by rw [ho]; simp [Op.operands]
  unfold opBuild
  split
  case h_2 => exact .bad P o _ H
  rename_i zero fields ht
  split
  case h_2 => exact .bad P o _ H
  rename_i places hp
  refine .of rfl rfl fun μ I w a f N avals hr hav hn hb hpre => ?_
  obtain ⟨hz, hsome⟩ := hpre
  obtain ⟨r, hr'⟩ := Option.isSome_iff_exists.1 hsome
  obtain ⟨z, h1, ⟨i, hi, hzi, h4, h5⟩, h2⟩ := zero_spec ht hz
  obtain ⟨i', hi', _, _, hu, _⟩ := τ_spec ht
  dsimp only at h2
  have hrep : RepL μ I w zero z.cells.toList [] := by rw [h2]; exact RepL.leafD _ _ _ _
  have hl : (parts.toList.map (·.1)).length = vals.length := by
    have := hr.length
    rw [← hav, hx] at this
    simpa using this
  obtain ⟨cells', f', k1, _, k2, k3, k4⟩ := fill_rep (places.toArray[·]?) hl hr' hrep hr (by simpa using hn)
  refine ⟨.agg cells', f', ?_, ?_, k3, fun x hx => by simpa using k4 x hx, ?_⟩
  · have hbuilt : P.built t (parts.map fun (i, x) => (i, a.eval x)).toList = some cells' := by
      simp only [Program.built, hi, hu, hzi]
      rw [placesD_info _ _ hp]
      dsimp only
      rw [← k1, ← hav, hx]
      congr 1
      simp only [Array.toList_map, List.map_map]
      exact zip_map_fst parts.toList a.eval
    simp only [execOp, ho, Sem.run_bind, run_build w t _ cells' hbuilt, Result.andThen_ok]
    rfl
  · dsimp only
    rw [hr']
    simp only [Option.getD_some, Rep]
    exact ⟨cells'.toList, by simp, k2⟩
  · dsimp only
    rw [hr']
    simp only [Option.getD_some, bnd]
    exact bndL_fillD _ hr' (by rw [h2]; exact bndL_leafD _ _) hb

/-! buildSlice, makeSlice -/
def makeD (zero : List D) (n : Nat) : List D := (List.range n).map fun j => zero.getD (j % zero.length) .any
theorem makeD_one (z : D) (n : Nat) : makeD [z] n = List.replicate n z := by
  unfold makeD
  apply List.ext_getElem
  · simp
  · intro i h1 h2; simp [Nat.mod_one]
theorem makeD_length (zero : List D) (n : Nat) : (makeD zero n).length = n := by simp [makeD]
theorem made_rep {μ : Nat → Nat} {I : Nat → Prop} {w : World} {zero : List D} {z : Array Value} (hz : zero = z.toList.map leafD) (h0 : zero ≠ []) (n : Nat) : RepL μ I w (makeD zero n) (madeCells z n).toList [] := by
  have hl : z.size = zero.length := by rw [hz]; simp
  have hp : 0 < zero.length := List.length_pos_iff.2 h0
  refine .build (by simp [makeD, madeCells]) fun i d v h1 h2 => ?_
  simp only [makeD, List.getElem?_map] at h1
  have h2' : (madeCells z n)[i]? = some v := by simpa using h2
  simp only [madeCells, Array.getElem?_map] at h2'
  cases hr : (List.range n)[i]? with
  | none => rw [hr] at h1; cases h1
  | some j =>
    rw [hr] at h1
    have hj : (Array.range n)[i]? = some j := by
      rw [← Array.getElem?_toList, Array.toList_range]; exact hr
    rw [hj] at h2'
    simp only [Option.map_some, Option.some.injEq] at h1 h2'
    have hm : j % zero.length < z.size := by rw [hl]; exact Nat.mod_lt _ hp
    have e1 : z[j % z.size]! = z[j % zero.length] := by rw [hl]; exact getElem!_pos z _ hm
    have e2 : zero.getD (j % zero.length) .any = leafD (z[j % zero.length]) := by
      subst hz
      rw [List.getD_eq_getElem?_getD, List.getElem?_map]
      rw [List.getElem?_eq_getElem (by simpa using hm)]
      simp
    rw [← h1, ← h2', e1, e2]
    exact Rep.leafD _ _ _ _
theorem made_one {zero : List D} {z : Array Value} (hz : zero = z.toList.map leafD) (h0 : zero ≠ []) (ha : zero.all leaf = true) (n : Nat) : ∀ v ∈ (madeCells z n).toList, v.oneCell' = true := by
  intro v hv
  have hl : z.size = zero.length := by rw [hz]; simp
  have hp : 0 < zero.length := List.length_pos_iff.2 h0
  simp only [madeCells, Array.toList_map, List.mem_map] at hv
  obtain ⟨j, _, rfl⟩ := hv
  have hm : j % z.size < z.size := Nat.mod_lt _ (by omega)
  rw [getElem!_pos z _ hm]
  have : leaf (leafD z[j % z.size]) = true := by
    rw [List.all_eq_true] at ha
    refine ha _ ?_
    rw [hz, List.mem_map]
    exact ⟨_, by simp, rfl⟩
  exact leaf_one (μ := id) (I := fun _ => True) (w := default) this (Rep.leafD ..)
theorem bndL_makeD {N : Nat} {zero : List D} (h : bndL N zero) (n : Nat) : bndL N (makeD zero n) := by
  rw [bndL_iff] at *
  intro d hd
  simp only [makeD, List.mem_map] at hd
  obtain ⟨j, _, rfl⟩ := hd
  rw [List.getD_eq_getElem?_getD]
  cases hg : zero[j % zero.length]? with
  | none => simp [bnd]
  | some e => exact h e (List.mem_of_getElem? hg)
/-- A new row that holds these cells. -/
theorem fr_new {μ : Nat → Nat} {I : Nat → Prop} {w : World} {sz n c : Nat} {ds : List D} {cells : Array Value} {f : List Nat} (t : TypeId) (h1 : n ≤ maxLen) (h2 : ds.length = n * sz) (h3 : n ≤ c) (h4 : c * sz ≤ cells.size) (h5 : ∀ v ∈ cells.toList, v.oneCell' = true)
    (hr : RepL μ I (w.alloc (.cells cells t)) ds (cells.toList.take ds.length) f) : Rep μ I (w.alloc (.cells cells t)) (.fr sz n ds) (.slice (some ⟨w.heap.size, 0, none⟩) n c) (w.heap.size :: f) := by
  simp only [Rep]
  refine ⟨h1, h2, .inr ⟨w.heap.size, c, cells, cells.toList.take ds.length, f, rfl, h3, Whole.new w cells t h5, h4, fun i v hv => ?_, hr, rfl⟩⟩
  rw [List.getElem?_take] at hv
  split at hv
  · simpa using hv
  · cases hv
variable (P) in
def opBuildSlice (t len : Nat) (idx : List Nat) (vs : List D) (H : Hp) : Res :=
  match τ P t with
  | some ⟨_, _, _, _, .slice e⟩ =>
    match τ P e with
    | some te => ⟨te.zero ≠ [] ∧ len * te.size ≤ 16777216 ∧ len ≤ 16777216 ∧ (fillD (fun i => some (i * te.size, te.size)) (if len * te.size = 0 then [] else makeD te.zero (len * te.size)) (idx.zip vs)).isSome = true ∧
        ((fillD (fun i => some (i * te.size, te.size)) (if len * te.size = 0 then [] else makeD te.zero (len * te.size)) (idx.zip vs)).getD []).all leaf = true,
        .fr te.size len ((fillD (fun i => some (i * te.size, te.size)) (if len * te.size = 0 then [] else makeD te.zero (len * te.size)) (idx.zip vs)).getD []), H, none⟩
    | none => bad H
  | _ => bad H
theorem fillD_length (place : Nat → Option (Nat × Nat)) : ∀ {l : List (Nat × D)} {ds r : List D}, fillD place ds l = some r → r.length = ds.length
  | [], ds, r, h => by simp [fillD] at h; rw [h]
  | (i, e) :: l, ds, r, h => by
    simp only [fillD] at h
    split at h
    · cases h
    · split at h
      · rw [fillD_length place h, setSeg_length]
      · cases h
theorem sound_buildSlice (t : TypeId) (len : Nat) (parts : Array (Nat × Operand)) (ho : o.op = .buildSlice t len parts) : Sound P o vals H (opBuildSlice P t len (parts.toList.map (·.1)) vals H) := by
  have hx : o.op.operands.toList = parts.toList.map (·.2) := by rw [ho]; simp [Op.operands]
  unfold opBuildSlice
  split
  case h_2 => exact .bad P o _ H
  rename_i e ht
  split
  case h_2 => exact .bad P o _ H
  rename_i te he
  refine .ofNew rfl rfl fun μ I w a f N avals hr hav hn hb hpre hI hf => ?_
  obtain ⟨hz, h24, hlen, hsome, hleaf⟩ := hpre
  generalize hst : (if len * te.size = 0 then [] else makeD te.zero (len * te.size)) = start at hsome hleaf ⊢
  obtain ⟨r, hr'⟩ := Option.isSome_iff_exists.1 hsome
  rw [hr'] at hleaf ⊢
  simp only [Option.getD_some] at hleaf ⊢
  obtain ⟨z, h1, ⟨i, hi, hzi, h4, h5⟩, h2⟩ := zero_spec he hz
  let c0 : Array Value := (Array.range (len * te.size)).map ((if len * te.size = 0 then #[] else z.cells)[· % (if len * te.size = 0 then #[] else z.cells).size]!)
  have hl : (parts.toList.map (·.1)).length = vals.length := by
    have := hr.length
    rw [← hav, hx] at this
    simpa using this
  have hrep : RepL μ I w start c0.toList [] ∧ start.length = len * te.size ∧ c0.size = len * te.size ∧ bndL N start := by
    by_cases h0 : len * te.size = 0
    · simp only [h0, if_true] at hst
      subst hst
      refine ⟨?_, by simp [h0], by simp [c0], by simp [bndL]⟩
      have : c0.toList = [] := List.eq_nil_of_length_eq_zero (by simp [c0, h0])
      rw [this]
      simp [RepL]
    · rw [if_neg h0] at hst
      subst hst
      have e : c0 = madeCells z.cells (len * te.size) := by simp [c0, h0, madeCells]
      rw [e]
      refine ⟨made_rep h2 hz _, makeD_length _ _, by simp [madeCells], bndL_makeD (by rw [h2]; exact bndL_leafD _ _) _⟩
  obtain ⟨cells', f', k1, k0, k2, k3, k4⟩ := fill_rep (fun i => some (i * te.size, te.size)) hl hr' hrep.1 hr (by simpa using hn)
  have hk4 : ∀ x, x ∈ f' → x ∈ f := fun x hx => by simpa using k4 x hx
  have hnew : w.heap.size ∉ f' := fun hx => Nat.lt_irrefl _ (hf _ (hk4 _ hx))
  have hrl : r.length = len * te.size := by rw [fillD_length _ hr', hrep.2.1]
  have hw := Frm.alloc w (.cells cells' e)
  refine ⟨.slice (some ⟨w.heap.size, 0, none⟩) len len, w.alloc (.cells cells' e), w.heap.size :: f', ?_, hw, ?_, by simp [hnew, k3], ?_, ?_⟩
  · have hz0 : (if len * te.size = 0 then (pure #[] : Sem (Array Value)) else do pure (← zeroValue e).cells).run P w = .ok (if len * te.size = 0 then #[] else z.cells) w := by
      split <;> simp [h1]
    have h24' : ¬ (16777216 < len * te.size) := by omega
    have hfill : Instr.fill (fun i => some (i * te.size, te.size)) c0 (parts.map fun (i, x) => (i, a.eval x)).toList = some cells' := by
      rw [← k1, ← hav, hx]
      congr 1
      simp only [Array.toList_map, List.map_map]
      exact zip_map_fst parts.toList a.eval
    simp only [execOp, ho, Sem.run_bind, Instr.buildSlice, run_desc ht, run_size he, Result.andThen_ok, hz0]
    rw [if_neg (by omega)]
    by_cases h0 : len * te.size = 0
    · have e0 : c0 = Array.map (fun x => (#[] : Array Value)[x % (#[] : Array Value).size]!) (Array.range (len * te.size)) := by simp only [c0, h0, if_true]
      rw [e0] at hfill
      rw [if_pos h0]
      simp only [pure_bind, hfill]
      simp [newRow]
    · have e0 : c0 = Array.map (fun x => z.cells[x % z.cells.size]!) (Array.range (len * te.size)) := by simp only [c0, h0, if_false]
      rw [e0] at hfill
      rw [if_neg h0]
      simp only [Sem.run_bind, h1, Result.andThen_ok, pure_bind, hfill]
      simp [newRow]
  · refine fr_new e (Nat.le_trans hlen (by decide)) hrl (Nat.le_refl _) (by rw [k0, hrep.2.2.1]; exact Nat.le_refl _) (leafL_one hleaf k2) ?_
    rw [List.take_of_length_le (by have := k2.length; omega)]
    exact RepL.mono (fun y hy => ⟨.inl hy, hw.same y (hI y hy) (by simp)⟩) (fun y hy => hw.same y (hf y (hk4 y hy)) (by simp)) k2
  · intro y hy
    rcases List.mem_cons.1 hy with rfl | hy
    · exact .inr ⟨Nat.le_refl _, by simp⟩
    · exact .inl (hk4 y hy)
  · simp only [bnd]
    exact bndL_fillD _ hr' hrep.2.2.2 hb
variable (P) in
def opMakeSlice (t : Nat) (vs : List D) (H : Hp) : Res :=
  match τ P t with
  | some ⟨_, _, _, _, .slice e⟩ =>
    match τ P e, vs with
    | some te, [.int _ l, .int _ c] => ⟨te.zero ≠ [] ∧ te.zero.all leaf = true ∧ 0 ≤ l ∧ l ≤ c ∧ te.bytes * c ≤ 281474976710656 ∧ c ≤ 9223372036854775807, .fr te.size l.toNat (makeD te.zero (l.toNat * te.size)), H, none⟩
    | _, _ => bad H
  | _ => bad H
theorem madeCells_take (z : Array Value) {m n : Nat} (h : m ≤ n) : (madeCells z n).toList.take m = (madeCells z m).toList := by
  simp only [madeCells, Array.toList_map, Array.toList_range, ← List.map_take, List.take_range, Nat.min_eq_left h]
theorem sound_makeSlice (t : TypeId) (x y : Operand) (ho : o.op = .makeSlice t x y) : Sound P o vals H (opMakeSlice P t vals H) := by
  have hx : o.op.operands.toList = [x, y] := by rw [ho]; rfl
  unfold opMakeSlice
  split
  case h_2 => exact .bad P o _ H
  rename_i e ht
  split
  case h_2 => exact .bad P o _ H
  rename_i te kl l kc c he
  refine .ofNew rfl rfl fun μ I w a f N avals hr hav hn hb hpre hI hf => ?_
  rw [hx] at hav; subst hav
  obtain ⟨f1, f2, rfl, r1, r2⟩ := RepL.two hr
  simp only [Rep] at r1 r2
  obtain ⟨hz, hall, p1, p2, p3, p4⟩ := hpre
  obtain ⟨z, h1, ⟨i, hi, hzi, h4, h5⟩, h2⟩ := zero_spec he hz
  obtain ⟨_, _, _, _, hu, _⟩ := τ_spec ht
  have hrun := run_make (P := P) w t e i z hu hi hzi kl kc l c p1 p2 (by rw [h5]; exact p3) p4
  rw [h4] at hrun
  refine ⟨_, _, [w.heap.size], by simp [execOp, ho, r1.2, r2.2, hrun]; exact ⟨rfl, rfl⟩, Frm.alloc _ _, ?_, by simp, by simp, ?_⟩
  · refine fr_new e (by unfold maxLen; omega) (makeD_length _ _) (by omega) (by simp [madeCells]) (made_one h2 hz hall _) ?_
    rw [makeD_length, madeCells_take _ (Nat.mul_le_mul_right _ (by omega))]
    exact made_rep h2 hz _
  · simp only [bnd]; exact bndL_makeD (by rw [h2]; exact bndL_leafD _ _) _
end
end Go.Proofs.Ytlbbhkpjjciaiaa.Vm

