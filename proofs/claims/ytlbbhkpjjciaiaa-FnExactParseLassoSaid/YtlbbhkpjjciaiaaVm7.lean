/-
  Contracts of functions over abstract values, and calls. No conditions; nothing of the program is named here.
-/
import Derived.Test.YtlbbhkpjjciaiaaVm6
namespace Go.Proofs.Ytlbbhkpjjciaiaa.Vm
open Go
set_option linter.unusedVariables false
set_option linter.unusedSimpArgs false
set_option linter.unusedSectionVars false

/-- A call that only reads its arguments and hands back what is its own. -/
def Pure (P : Program) (f : FuncId) (args : List D) (r : D) : Prop :=
  ∀ (μ : Nat → Nat) (w : World) (vs : List Value), RepL μ (fun x => x < w.heap.size) w args vs [] → Calls P f vs.toArray w fun e w' =>
    ∃ v fl, e = .returned v ∧ Rep μ (fun _ => False) w' r v fl ∧ fl.Nodup ∧ (∀ x ∈ fl, w.heap.size ≤ x ∧ x < w'.heap.size) ∧ Frm w (fun _ => False) w'
def ofArgs (ds : List D) : Nat → D := fun t => ds.getD t .any
/-- A call in general: it may write what it is handed, and the named blocks. -/
def Spec (P : Program) (f : FuncId) (args : List D) (H : Hp) (r : D) (H' : Hp) : Prop :=
  ∀ (w : World) (J : Nat → Prop) (vs : List Value) (μ : Nat → Nat) (fp : Root → List Nat) (N : Nat), R ⟨w, fun x => ∃ r, x ∈ fp r, J, μ, N⟩ args.length ⟨ofArgs args, H⟩ [] [] ⟨vs.toArray, []⟩ w μ fp N → Calls P f vs.toArray w fun e w' =>
    ∃ v μ' fp' N', e = .returned v ∧ R ⟨w, fun x => ∃ r, x ∈ fp r, J, μ, N⟩ 1 ⟨ofArgs [r], H'⟩ [] [] ⟨#[v], []⟩ w' μ' fp' N'
inductive Con where
  | none
  | pure (F : List D → Prop × D)
  | gen (F : List D → Hp → Prop × D × Hp)
  | ext (F : List D → Prop × D)
/-- A call of a function without a body: the model's own answer. -/
def Ext (P : Program) (f : FuncId) (args : List D) (r : D) : Prop :=
  ∀ (μ : Nat → Nat) (I : Nat → Prop) (w : World) (vs : List Value), RepL μ I w args vs [] → ∃ v, (callFunc f vs.toArray).run P w = .ok (.value v) w ∧ ∀ μ' I' w', Rep μ' I' w' r v []
def Callable (P : Program) (f : FuncId) : Prop := ∃ fn, P.funcs[f]? = some fn ∧ fn.name ≠ "runtime.NumGoroutine" ∧ fn.body.isSome = true
def ConOk (P : Program) (f : FuncId) : Con → Prop
  | .none => True
  | .pure F => Callable P f ∧ ∀ args, (F args).1 → Pure P f args (F args).2 ∧ bnd 0 (F args).2
  | .gen F => Callable P f ∧ ∀ args H, (F args H).1 → Spec P f args H (F args H).2.1 (F args H).2.2
  | .ext F => ∀ args, (F args).1 → Ext P f args (F args).2 ∧ bnd 0 (F args).2

/-- A value as data, named blocks read. -/
def deref : Nat → Hp → D → D
  | 0, _, _ => .any
  | k + 1, H, .sl b sz i n _ => .list n (((((H b).getD []).drop i).take (n * sz)).map (deref k H))
  | k + 1, H, .ptr b i => match H b with
    | some (c :: cs) => .pd (((c :: cs).drop i).map (deref k H))
    | _ => .any
  | k + 1, H, .st cs => .st (cs.map (deref k H))
  | k + 1, H, .tup cs => .tup (cs.map (deref k H))
  | k + 1, H, .fr _ n cs => .list n (cs.map (deref k H))
  | _ + 1, _, .nil => .list 0 []
  | k + 1, H, .box cs => .pd (cs.map (deref k H))
  | k + 1, H, .fn f cs => .fn f (cs.map (deref k H))
  | _ + 1, _, d => d
section
variable {P : Program} {o : Oper} {vals : List D} {H : Hp}
theorem RepL.map {μ : Nat → Nat} {I I' : Nat → Prop} {w : World} {g : D → D} : ∀ {ds : List D} {vs : List Value} {f : List Nat}, (∀ d ∈ ds, ∀ v f', (∀ x ∈ f', x ∈ f) → Rep μ I w d v f' → Rep μ I' w (g d) v []) → RepL μ I w ds vs f → RepL μ I' w (ds.map g) vs []
  | [], vs, f, hg, h => by simp only [RepL] at h; simp [RepL, h.1]
  | d :: ds, vs, f, hg, h => by
    simp only [RepL] at h
    obtain ⟨v, vs', f1, f2, rfl, rfl, h1, h2⟩ := h
    simp only [List.map_cons, RepL]
    exact ⟨v, vs', [], [], rfl, rfl, hg d (by simp) v f1 (fun x hx => List.mem_append_left _ hx) h1, RepL.map (fun d' hd v f' hf h => hg d' (by simp [hd]) v f' (fun x hx => List.mem_append_right _ (hf x hx)) h) h2⟩
theorem deref_rep {B : Base} {n : Nat} {T : Nat → D} {ds : List D} {vs : List Value} {a : Act} {w : World} {μ : Nat → Nat} {fp : Root → List Nat} {N : Nat} (hR : R B n ⟨T, H⟩ ds vs a w μ fp N) :
    ∀ (k : Nat) (d : D) (v : Value) (f : List Nat), (∀ x ∈ f, x < w.heap.size) → Rep μ (Im B w fp) w d v f → Rep μ (fun x => x < w.heap.size) w (deref k H d) v []
  | 0, d, v, f, hf, h => by simp [deref, Rep]
  | k + 1, d, v, f, hf, h => by
    have ih := deref_rep hR k
    have him : ∀ x, Im B w fp x → x < w.heap.size := fun x hx => hx.1
    -- the cells of a named block
    have blk : ∀ b cs, H b = some cs → cs ≠ [] → ∃ cells, Whole w (μ b) cells ∧ RepL μ (fun x => x < w.heap.size) w (cs.map (deref k H)) cells.toList [] := by
      intro b cs hc hne
      rcases hR.hp b cs hc with ⟨e, _⟩ | ⟨cells, k1, k2, k3, k4, k5⟩
      · exact (hne e).elim
      · refine ⟨cells, k1, .build (by simpa using k2) fun j e u h1 h2 => ?_⟩
        rw [List.getElem?_map] at h1
        cases hj : cs[j]? with
        | none => rw [hj] at h1; cases h1
        | some e' =>
          rw [hj] at h1; cases h1
          obtain ⟨u', hu, hr⟩ := k4 j e' hj
          have : cells[j]? = some u := by simpa using h2
          rw [hu] at this; cases this
          exact ih e' _ _ (fun x hx => (hR.own _ x hx).2) hr
    have sub : ∀ {cs : List D} {us : List Value} {g : List Nat}, (∀ x ∈ g, x < w.heap.size) → RepL μ (Im B w fp) w cs us g → RepL μ (fun x => x < w.heap.size) w (cs.map (deref k H)) us [] := fun hg hr =>
      RepL.map (fun d _ v f' hf' hd => ih d v f' (fun x hx => hg x (hf' x hx)) hd) hr
    cases d with
    | sl b sz i n c =>
      simp only [Rep] at h
      obtain ⟨rfl, hnc, hmax, ⟨A, rfl⟩, hv⟩ := h
      simp only [deref, Rep]
      by_cases h0 : n * sz = 0
      · rw [h0]
        exact ⟨trivial, hmax, A, c, [], rfl, hnc, .inl (by simp), by simp [RepL]⟩
      · have hv := hv.resolve_left (by rintro rfl; have : n = 0 := by omega
                                       subst this; simp at h0)
        cases hv
        cases hc : H b with
        | none => simp only [Option.getD_none, List.drop_nil, List.take_nil, List.map_nil]; exact ⟨trivial, hmax, _, c, [], rfl, hnc, .inl trivial, by simp [RepL]⟩
        | some cs =>
          simp only [Option.getD_some]
          by_cases he : cs = []
          · subst he; simp only [List.drop_nil, List.take_nil, List.map_nil]; exact ⟨trivial, hmax, _, c, [], rfl, hnc, .inl trivial, by simp [RepL]⟩
          · obtain ⟨cells, k1, k2⟩ := blk b cs hc he
            refine ⟨trivial, hmax, _, c, (cells.toList.drop i).take (n * sz), rfl, hnc, .inr ⟨μ b, i, rfl, k1.lt, .of_whole k1 fun j u hu => ?_⟩, ?_⟩
            · rw [List.getElem?_take] at hu
              split at hu
              · rw [List.getElem?_drop] at hu; simpa using hu
              · cases hu
            · rw [List.map_take, List.map_drop]
              exact (k2.drop _).take _
    | ptr b i =>
      simp only [Rep] at h
      obtain ⟨rfl, rfl⟩ := h
      simp only [deref]
      split
      · rename_i c cs hc
        obtain ⟨cells, k1, k2⟩ := blk b (c :: cs) hc (by simp)
        simp only [Rep]
        refine ⟨trivial, μ b, i, cells.toList.drop i, rfl, k1.lt, .of_whole k1 fun j u hu => ?_, ?_⟩
        · rw [List.getElem?_drop] at hu; simpa using hu
        · rw [List.map_drop]; exact k2.drop _
      · simp [Rep]
    | st cs =>
      simp only [Rep] at h
      obtain ⟨us, rfl, h⟩ := h
      simp only [deref, Rep]
      exact ⟨us, rfl, sub hf h⟩
    | tup cs =>
      simp only [Rep] at h
      obtain ⟨us, rfl, h⟩ := h
      simp only [deref, Rep]
      exact ⟨us, rfl, sub hf h⟩
    | fr sz n cs =>
      simp only [Rep] at h
      obtain ⟨h0, h1, h⟩ := h
      simp only [deref, Rep]
      rcases h with ⟨rfl, rfl, A, rfl⟩ | ⟨b, c, cells, us, g, rfl, h3, h4, h5, h6, h7, rfl⟩
      · have : cs = [] := List.eq_nil_of_length_eq_zero (by simpa using h1)
        subst this
        exact ⟨trivial, h0, A, 0, [], rfl, by simp, .inl rfl, by simp [RepL]⟩
      · exact ⟨trivial, h0, _, c, us, rfl, h3, .inr ⟨b, 0, rfl, hf b (by simp), .of_whole h4 (by simpa using h6)⟩, sub (fun x hx => hf x (by simp [hx])) h7⟩
    | nil =>
      simp only [Rep] at h
      obtain ⟨_, A, rfl⟩ := h
      simp [deref, Rep, RepL]
    | box cs =>
      simp only [Rep] at h
      obtain ⟨b, cells, g, rfl, h3, h4, rfl⟩ := h
      simp only [deref, Rep]
      exact ⟨trivial, b, 0, cells.toList, rfl, hf b (by simp), .of_whole h3 (by simp), sub (fun x hx => hf x (by simp [hx])) h4⟩
    | fn g cs =>
      simp only [Rep] at h
      obtain ⟨us, rfl, h⟩ := h
      simp only [deref, Rep]
      exact ⟨us, rfl, sub hf h⟩
    | list n cs =>
      have : f = [] := h.free rfl
      subst this
      exact Rep.mono (fun x hx => ⟨him x hx, rfl⟩) (by simp) h
    | pd cs =>
      have : f = [] := h.free rfl
      subst this
      exact Rep.mono (fun x hx => ⟨him x hx, rfl⟩) (by simp) h
    | any => simp [deref, Rep]
    | nilp => simp only [Rep] at h; obtain ⟨_, rfl⟩ := h; simp [deref, Rep]
    | ubool => simp only [Rep] at h; obtain ⟨_, b, rfl⟩ := h; simp [deref, Rep]
    | int _ _ => simp only [Rep] at h; obtain ⟨_, rfl⟩ := h; simp [deref, Rep]
    | bool _ => simp only [Rep] at h; obtain ⟨_, rfl⟩ := h; simp [deref, Rep]
    | str _ => simp only [Rep] at h; obtain ⟨_, rfl⟩ := h; simp [deref, Rep]

def opCall (Γ : FuncId → Con) (vs : List D) (H : Hp) : Res :=
  match vs with
  | .fn f caps :: args =>
    match Γ f with
    | .pure F => ⟨(F ((args ++ caps).map (deref 6 H))).1, (F ((args ++ caps).map (deref 6 H))).2, H, none⟩
    | .gen F => ⟨(F (args ++ caps) H).1, (F (args ++ caps) H).2.1, (F (args ++ caps) H).2.2, none⟩
    | .ext F => ⟨(F (args ++ caps)).1 ∧ ownsL (args ++ caps) = false, (F (args ++ caps)).2, H, none⟩
    | .none => bad H
  | _ => bad H
/-- The footprints of a list's values, one by one. -/
theorem RepL.slots {μ : Nat → Nat} {I : Nat → Prop} {w : World} : ∀ {ds : List D} {vs : List Value} {f : List Nat}, RepL μ I w ds vs f → f.Nodup → ∃ h : Nat → List Nat, (∀ t, Rep μ I w (ds.getD t .any) (vs.getD t undef) (h t)) ∧ (∀ t x, x ∈ h t → x ∈ f) ∧ (∀ t, (h t).Nodup) ∧ ∀ t t' x, x ∈ h t → x ∈ h t' → t = t'
  | [], vs, f, hr, hn => ⟨fun _ => [], by simp [Rep], by simp, by simp, by simp⟩
  | d :: ds, vs, f, hr, hn => by
    simp only [RepL] at hr
    obtain ⟨v, vs', f1, f2, rfl, rfl, h1, h2⟩ := hr
    have hn' := List.nodup_append.1 hn
    obtain ⟨h, k1, k2, k3, k4⟩ := RepL.slots h2 hn'.2.1
    refine ⟨fun t => match t with | 0 => f1 | t + 1 => h t, fun t => ?_, fun t x hx => ?_, fun t => ?_, fun t t' x hx hy => ?_⟩
    · cases t with
      | zero => simpa using h1
      | succ t => simpa using k1 t
    · cases t with
      | zero => exact List.mem_append_left _ hx
      | succ t => exact List.mem_append_right _ (k2 t x hx)
    · cases t with
      | zero => exact hn'.1
      | succ t => exact k3 t
    · cases t <;> cases t'
      · rfl
      · exact (hn'.2.2 x hx x (k2 _ x hy) rfl).elim
      · exact (hn'.2.2 x hy x (k2 _ x hx) rfl).elim
      · rw [k4 _ _ x hx hy]
theorem sound_call {Γ : FuncId → Con} (hΓ : ∀ f, ConOk P f (Γ f)) (g : Operand) (xs : Array Operand) (ts : Array TypeId) (ho : o.op = .call { callee := .value g, args := xs, argTypes := ts }) : Sound P o vals H (opCall Γ vals H) := by
  have hx : o.op.operands.toList = g :: xs.toList := by rw [ho]; simp [Op.operands, Call.operands]
  unfold opCall
  split
  case h_2 => exact .bad P o _ H
  rename_i f caps args
  have hcall := hΓ f
  -- how the call is entered
  have enter : Callable P f → ∀ {μ : Nat → Nat} {I : Nat → Prop} {a : Act} {w : World} {cv : List Value}, a.eval g = .func (.func f) #[] cv.toArray → (execOp a.eval o).run P w = .ok (.enter f (xs.toList.map a.eval ++ cv).toArray) w := by
    intro hc μ I a w cv hg
    obtain ⟨fn, h1, h2, h3⟩ := hc
    have h3' : fn.body ≠ none := by cases hb : fn.body <;> simp [hb] at h3 ⊢
    have e2 : Array.map a.eval xs ++ cv.toArray = (xs.toList.map a.eval ++ cv).toArray := by apply Array.ext'; simp
    simp [execOp, ho, resolve, hg, Deferred.ofValue, invoke, callFunc, program, Sem.run, h1, h2, h3', e2]
  split
  case h_4 => exact .bad P o _ H
  case h_3 =>
    rename_i F hF
    rw [hF] at hcall
    refine .of rfl rfl fun μ I w a f' N avals hr hav hn hb hp => ?_
    rw [hx, List.map_cons] at hav; subst hav
    simp only [RepL] at hr
    obtain ⟨v, vs', f1, f2, he, hf, h1, h2⟩ := hr
    cases he
    simp only [Rep] at h1
    obtain ⟨cv, hg, h1⟩ := h1
    have h3 := RepL.append h1 h2
    obtain ⟨hp1, hp2⟩ := hp
    have h4 := h3.free hp2
    rw [h4] at h3
    obtain ⟨hE, hb0⟩ := hcall _ hp1
    obtain ⟨u, hu, hrep⟩ := hE μ I w _ h3
    have e2 : Array.map a.eval xs ++ cv.toArray = (xs.toList.map a.eval ++ cv).toArray := by apply Array.ext'; simp
    refine ⟨u, [], ?_, hrep μ I w, .nil, by simp, bnd.mono (Nat.zero_le _) hb0⟩
    simp [execOp, ho, resolve, hg, Deferred.ofValue, invoke, e2, hu]
  · rename_i F hF
    rw [hF] at hcall
    obtain ⟨hc, hcon⟩ := hcall
    intro B n T a w μ fp N avals hR hav hpre next Q hk
    rw [hx, List.map_cons] at hav; subst hav
    dsimp only at hpre
    obtain ⟨hP, hb0⟩ := hcon _ hpre
    have hbg := hR.bg
    simp only [RepL] at hbg
    obtain ⟨v, vs', f1, f2, he, hf, h1, h2⟩ := hbg
    cases he
    simp only [Rep] at h1
    obtain ⟨cv, hg, h1⟩ := h1
    have h3 := RepL.append h1 h2
    have h4 : RepL μ (fun x => x < w.heap.size) w ((args ++ caps).map (deref 6 H)) (xs.toList.map a.eval ++ cv) [] :=
      RepL.map (fun d _ v f' hf' hd => deref_rep hR 6 d v f' (fun x hx => (hR.own .bag x (by rw [hf]; have := hf' x hx; simp at this ⊢; exact this.symm)).2) hd) h3
    unfold Oper.wp
    rw [enter hc (μ := μ) (I := fun _ => True) hg]
    simp only [Oper.upon]
    refine (hP μ w _ h4).mono fun e w' ⟨u, fl, he, hr, hn, hfl, hw⟩ => ?_
    subst he
    obtain ⟨fp', hR'⟩ := hR.resNew (hw.weaken (by simp)) (Rep.mono (fun b hb => hb.elim) (fun _ _ => rfl) hr) hn (fun x hx => .inr (hfl x hx)) (bnd.mono (Nat.zero_le _) hb0)
    exact hk u w' μ fp' N hR'
  · rename_i F hF
    rw [hF] at hcall
    obtain ⟨hc, hcon⟩ := hcall
    intro B n T a w μ fp N avals hR hav hpre next Q hk
    rw [hx, List.map_cons] at hav; subst hav
    dsimp only at hpre
    have hS := hcon _ _ hpre
    have hbg := hR.bg
    simp only [RepL] at hbg
    obtain ⟨v, vs', f1, f2, he, hf, h1, h2⟩ := hbg
    cases he
    simp only [Rep] at h1
    obtain ⟨cv, hg, h1⟩ := h1
    have h3 := RepL.append h1 h2
    have hnod : (f1 ++ f2).Nodup := hf ▸ hR.nod .bag
    have hnod2 : (f2 ++ f1).Nodup := (List.perm_append_comm.nodup_iff).1 hnod
    have hmem : ∀ x, x ∈ f2 ++ f1 → x ∈ fp .bag := fun x hx => by rw [hf]; simp at hx ⊢; exact hx.symm
    obtain ⟨h, k1, k2, k3, k4⟩ := h3.slots hnod2
    let fc : Root → List Nat := fun r => match r with
      | .slot t => h t
      | .cell b i => fp (.cell b i)
      | .blk b => fp (.blk b)
      | .bag => []
    have hfc : ∀ r x, x ∈ fc r → ∃ r', x ∈ fp r' ∧ ∀ t, r' ≠ .slot t := by
      intro r x hx
      cases r with
      | slot t => exact ⟨.bag, hmem x (k2 t x hx), by simp⟩
      | cell b i => exact ⟨_, hx, by simp⟩
      | blk b => exact ⟨_, hx, by simp⟩
      | bag => cases hx
    have him : ∀ x, Im B w fp x → Im ⟨w, fun x => ∃ r, x ∈ fc r, Im B w fp, μ, N⟩ w fc x := fun x hx => ⟨hx.1, .inl hx, fun r hr => by obtain ⟨r', h', _⟩ := hfc r x hr; exact hx.2.2 r' h'⟩
    have hb := hR.bB
    simp only [bndL, bnd] at hb
    have hRc : R ⟨w, fun x => ∃ r, x ∈ fc r, Im B w fp, μ, N⟩ (args ++ caps).length ⟨ofArgs (args ++ caps), H⟩ [] [] ⟨(xs.toList.map a.eval ++ cv).toArray, []⟩ w μ fc N := by
      refine ⟨by have := h3.length; simpa using this, rfl, Frm.refl _ _, ?_, ?_, ?_, ?_, ?_, ?_, ?_, ?_, ?_, by simp [bndL], hR.bH, ⟨Nat.le_refl _, fun _ _ => rfl⟩⟩
      · intro x hx
        exact ⟨hx.1, fun ⟨r, hr⟩ => by obtain ⟨r', h', _⟩ := hfc r x hr; exact hx.2.2 r' h'⟩
      · intro r x hx
        obtain ⟨r', h', _⟩ := hfc r x hx
        exact ⟨.inl ⟨r, hx⟩, (hR.own r' x h').2⟩
      · intro r
        cases r with
        | slot t => exact k3 t
        | cell b i => exact hR.nod _
        | blk b => exact hR.nod _
        | bag => exact .nil
      · intro r r' x hx hy
        cases r <;> cases r'
        case slot.slot t t' => rw [k4 t t' x hx hy]
        case slot.cell t b i => have := hR.dis _ _ x (hmem x (k2 t x hx)) hy; cases this
        case slot.blk t b => have := hR.dis _ _ x (hmem x (k2 t x hx)) hy; cases this
        case cell.slot b i t => have := hR.dis _ _ x (hmem x (k2 t x hy)) hx; cases this
        case blk.slot b t => have := hR.dis _ _ x (hmem x (k2 t x hy)) hx; cases this
        case slot.bag => cases hy
        case cell.bag => cases hy
        case blk.bag => cases hy
        case bag.slot => cases hx
        case bag.cell => cases hx
        case bag.blk => cases hx
        case bag.bag => rfl
        all_goals exact hR.dis _ _ x hx hy
      · intro t
        have := k1 t
        refine Rep.mono (fun x hx => ⟨him x hx, rfl⟩) (fun _ _ => rfl) ?_
        rw [show (⟨(xs.toList.map a.eval ++ cv).toArray, []⟩ : Act).tmps.getD t undef = (xs.toList.map a.eval ++ cv).getD t undef by simp [List.getD_eq_getElem?_getD]]
        exact this
      · simp [RepL, fc]
      · intro b cs hcs
        rcases hR.hp b cs hcs with q | ⟨cells, q1, q2, q3, q4, q5⟩
        · exact .inl q
        · refine .inr ⟨cells, q1, q2, q3, fun i d hd => ?_, q5⟩
          obtain ⟨u, hu, hr⟩ := q4 i d hd
          exact ⟨u, hu, Rep.mono (fun x hx => ⟨him x hx, rfl⟩) (fun _ _ => rfl) hr⟩
      · intro b hb'; exact hR.hn b hb'
      · intro t
        show bnd N ((args ++ caps).getD t .any)
        rw [List.getD_eq_getElem?_getD]
        cases hd : (args ++ caps)[t]? with
        | none => simp [bnd]
        | some d =>
          rcases List.mem_append.1 (List.mem_of_getElem? hd) with hm | hm
          · exact bndL_iff.1 hb.2 d hm
          · exact bndL_iff.1 hb.1 d hm
    unfold Oper.wp
    rw [enter hc (μ := μ) (I := fun _ => True) hg]
    simp only [Oper.upon]
    refine (hS w _ _ μ fc N hRc).mono fun e w' ⟨u, μ', fp', N', he, hR'⟩ => ?_
    subst he
    have hnK : ∀ t x, x ∈ fp (.slot t) → ¬ ∃ r, x ∈ fc r := fun t x hx ⟨r, hr⟩ => by
      obtain ⟨r', h', hn⟩ := hfc r x hr
      exact hn t (hR.dis _ _ x h' hx)
    have hlt : ∀ t x, x ∈ fp (.slot t) → x < w.heap.size := fun t x hx => (hR.own _ x hx).2
    have hslot : ∀ t x, x ∈ fp (.slot t) → w'.heap[x]? = w.heap[x]? := fun t x hx => hR'.frm.same x (hlt t x hx) (hnK t x hx)
    have hout : ∀ t x r, x ∈ fp (.slot t) → x ∉ fp' r := fun t x r hx hr => by
      rcases (hR'.own r x hr).1 with k | k
      · exact hnK t x hx k
      · have h1 := hlt t x hx
        dsimp only at k
        omega
    have hsz := hR'.frm.size
    dsimp only at hsz
    let fn : Root → List Nat := fun r => match r with
      | .slot t => fp (.slot t)
      | .cell b i => fp' (.cell b i)
      | .blk b => fp' (.blk b)
      | .bag => fp' (.slot 0)
    have hfn : ∀ r x, x ∈ fn r → (∃ t, r = .slot t ∧ x ∈ fp (.slot t)) ∨ ∃ r', x ∈ fp' r' ∧ ((r' = r ∧ ∀ t, r ≠ .slot t) ∨ (r = .bag ∧ r' = .slot 0)) := by
      intro r x hx
      cases r with
      | slot t => exact .inl ⟨t, rfl, hx⟩
      | cell b i => exact .inr ⟨_, hx, .inl ⟨rfl, by simp⟩⟩
      | blk b => exact .inr ⟨_, hx, .inl ⟨rfl, by simp⟩⟩
      | bag => exact .inr ⟨_, hx, .inr ⟨rfl, rfl⟩⟩
    have him1 : ∀ x, Im B w fp x → Im B w' fn x ∧ w'.heap[x]? = w.heap[x]? := fun x hx => by
      have hnk : ¬ ∃ r, x ∈ fc r := fun ⟨r, hr⟩ => by obtain ⟨r', h', _⟩ := hfc r x hr; exact hx.2.2 r' h'
      refine ⟨⟨Nat.lt_of_lt_of_le hx.1 hsz, hx.2.1, fun r hr => ?_⟩, hR'.frm.same x hx.1 hnk⟩
      rcases hfn r x hr with ⟨t, rfl, h'⟩ | ⟨r', h', _⟩
      · exact hx.2.2 _ h'
      · rcases (hR'.own r' x h').1 with k | k
        · exact hnk k
        · have := hx.1; dsimp only at k; omega
    have hB := hR.frm.size
    have him2 : ∀ x, Im ⟨w, fun x => ∃ r, x ∈ fc r, Im B w fp, μ, N⟩ w' fp' x → Im B w' fn x := fun x hx => by
      refine ⟨hx.1, ?_, fun r hr => ?_⟩
      · rcases hx.2.1 with k | k
        · exact k.2.1
        · exact .inr (Nat.le_trans hB k)
      · rcases hfn r x hr with ⟨t, rfl, h'⟩ | ⟨r', h', _⟩
        · rcases hx.2.1 with k | k
          · exact k.2.2 _ h'
          · have := hlt t x h'; dsimp only at k; omega
        · exact hx.2.2 _ h'
    refine hk u w' μ' fn N' ⟨hR.len, hR.dfs, ⟨hR'.frm.os.trans hR.frm.os, hR'.frm.tape.trans hR.frm.tape, hR'.frm.output.trans hR.frm.output, Nat.le_trans hB hsz, fun b hb' hk' => ?_⟩, hR.jk, ?_, ?_, ?_, ?_, ?_, ?_, ?_, ?_, ?_, hR'.bH, ?_⟩
    · have hnk : ¬ ∃ r, b ∈ fc r := fun ⟨r, hr⟩ => by
        obtain ⟨r', h', _⟩ := hfc r b hr
        rcases (hR.own r' b h').1 with k | k
        · exact hk' k
        · omega
      exact (hR'.frm.same b (by show b < w.heap.size; omega) hnk).trans (hR.frm.same b hb' hk')
    · intro r x hx
      rcases hfn r x hx with ⟨t, rfl, h'⟩ | ⟨r', h', _⟩
      · have := hR.own _ x h'; exact ⟨this.1, Nat.lt_of_lt_of_le this.2 hsz⟩
      · have := hR'.own r' x h'
        refine ⟨?_, this.2⟩
        rcases this.1 with ⟨r2, k⟩ | k
        · obtain ⟨r3, h3, _⟩ := hfc r2 x k
          exact (hR.own r3 x h3).1
        · exact .inr (Nat.le_trans hB k)
    · intro r
      cases r with
      | slot t => exact hR.nod _
      | cell b i => exact hR'.nod _
      | blk b => exact hR'.nod _
      | bag => exact hR'.nod _
    · intro r r' x hx hy
      rcases hfn r x hx with ⟨t, rfl, h'⟩ | ⟨r1, h1', e1⟩ <;> rcases hfn r' x hy with ⟨t', rfl, h2'⟩ | ⟨r2, h2', e2⟩
      · exact hR.dis _ _ x h' h2'
      · exact (hout t x r2 h' h2').elim
      · exact (hout t' x r1 h2' h1').elim
      · have e := hR'.dis r1 r2 x h1' h2'
        rcases e1 with ⟨rfl, n1⟩ | ⟨rfl, rfl⟩ <;> rcases e2 with ⟨rfl, n2⟩ | ⟨rfl, rfl⟩
        · exact e
        · exact (n1 0 e).elim
        · exact (n2 0 e.symm).elim
        · rfl
    · intro t
      refine Rep.ren (N := N) (fun b hb' => hR'.rn.2 b hb') (hR.bT t) ?_
      exact Rep.mono him1 (fun x hx => hslot t x hx) (hR.tm t)
    · simp only [RepL]
      refine ⟨u, [], fp' (.slot 0), [], rfl, by simp [fn], ?_, rfl, rfl⟩
      have := hR'.tm 0
      exact Rep.mono (fun x hx => ⟨him2 x hx, rfl⟩) (fun _ _ => rfl) this
    · intro b cs hcs
      rcases hR'.hp b cs hcs with q | ⟨cells, q1, q2, q3, q4, q5⟩
      · exact .inl q
      · refine .inr ⟨cells, q1, q2, q3, fun i d hd => ?_, q5⟩
        obtain ⟨y, hy, hr⟩ := q4 i d hd
        exact ⟨y, hy, Rep.mono (fun x hx => ⟨him2 x hx, rfl⟩) (fun _ _ => rfl) hr⟩
    · intro b hb'; exact hR'.hn b hb'
    · intro t; exact bnd.mono hR'.rn.1 (hR.bT t)
    · simp only [bndL]
      have := hR'.bT 0
      exact ⟨this, trivial⟩
    · exact ⟨Nat.le_trans hR.rn.1 hR'.rn.1, fun b hb' => (hR'.rn.2 b (Nat.lt_of_lt_of_le hb' hR.rn.1)).trans (hR.rn.2 b hb')⟩
/-! cap; an append of zeros onto nothing -/
def opCap (vs : List D) (H : Hp) : Res :=
  match vs with
  | [.nil] => ⟨True, .int .i64 0, H, none⟩
  | [.sl _ _ _ _ c] => ⟨True, .int .i64 c, H, none⟩
  | _ => bad H
variable (P) in
def opCapT (t : Nat) (vs : List D) (H : Hp) : Res :=
  match P.underlying t with
  | some (.slice _) => opCap vs H
  | _ => bad H
theorem sound_capT {o : Oper} {vals : List D} {H : Hp} (x : Operand) (t : TypeId) (ho : o.op = .call { callee := .builtin .cap, args := #[x], argTypes := #[t] }) : Sound P o vals H (opCapT P t vals H) := by
  have hx : o.op.operands.toList = [x] := by rw [ho]; rfl
  have key : ∀ (d' : D) (n : Nat) (e : TypeId), P.underlying t = some (.slice e) → (∀ μ I w v f, Rep μ I w d' v f → ∃ A m, v = .slice A m n) → Sound P o [d'] H ⟨True, .int .i64 n, H, none⟩ := by
    intro d' n e hd hv
    refine .of rfl rfl fun μ I w a f N avals hr hav hn hb hp => ?_
    obtain rfl := one_eval hx hav
    obtain ⟨A, c, hv⟩ := hv μ I w _ f hr.one
    refine ⟨.int .i64 n, [], ?_, by simp [Rep], .nil, by simp, by simp [bnd]⟩
    simp [execOp, ho, resolve, invoke, builtin, Builtin.cap_, run_underlying hd, hv, goInt]
  unfold opCapT
  split
  · rename_i e hd
    unfold opCap
    split
    · refine key _ 0 e hd fun μ I w v f h => ?_
      simp only [Rep] at h
      obtain ⟨_, A, hv⟩ := h
      exact ⟨A, 0, hv⟩
    · refine key _ _ e hd fun μ I w v f h => ?_
      simp only [Rep] at h
      obtain ⟨_, _, _, ⟨A, hv⟩, _⟩ := h
      exact ⟨A, _, hv⟩
    · exact .bad P o _ H
  · exact .bad P o _ H
variable (P) in
def opAppZ (t tx : Nat) (n : Int) (H : Hp) : Res :=
  match τ P t, P.underlying tx with
  | some ⟨_, _, _, _, .slice e⟩, some (.int _) =>
    match τ P e with
    | some te => ⟨te.zero ≠ [] ∧ te.zero.all leaf = true ∧ te.zero.length = te.size ∧ 0 < te.size ∧ 1 ≤ n ∧ n ≤ 9223372036854775807 ∧ n.toNat * te.bytes ≤ 281474976710656, .fr te.size n.toNat (makeD te.zero (n.toNat * te.size)), H, none⟩
    | none => bad H
  | _, _ => bad H
theorem run_firstCells0 (size : Nat) (A : Option Addr) (w : World) : (Builtin.firstCells size 0 (.slice A 0 0)).run P w = .ok #[] w := by
  cases A <;> simp [Builtin.firstCells, loadCells, loadCellsFrom]
theorem sound_appZ {o : Oper} {H : Hp} (t tx : TypeId) (x y : Operand) (k : IntKind) (n : Int) (ho : o.op = .call { callee := .builtin .append, args := #[x, y], argTypes := #[t, tx] }) : Sound P o [.nil, .int k n] H (opAppZ P t tx n H) := by
  have hx : o.op.operands.toList = [x, y] := by rw [ho]; rfl
  unfold opAppZ
  split
  case h_2 => exact .bad P o _ H
  rename_i e kn ht htx
  split
  case h_2 => exact .bad P o _ H
  rename_i te he
  refine .ofNew rfl rfl fun μ I w a f N avals hr hav hn hb hpre hI hf => ?_
  rw [hx] at hav; subst hav
  obtain ⟨f1, f2, rfl, r1, r2⟩ := RepL.two hr
  simp only [Rep] at r1 r2
  obtain ⟨_, A, hv⟩ := r1
  obtain ⟨hz, hall, hzl, p0, p1, p2, p3⟩ := hpre
  obtain ⟨z, h1, ⟨i, hi, hzi, h4, h5⟩, h2⟩ := zero_spec he hz
  obtain ⟨_, _, _, _, hu, _⟩ := τ_spec ht
  obtain ⟨m, rfl⟩ : ∃ m : Nat, n = m := ⟨n.toNat, by omega⟩
  simp only [Int.toNat_natCast] at p3 ⊢
  have hm0 : 0 < m := by omega
  have hzc : z.cells.size = te.size := by have := congrArg List.length h2; simp at this; omega
  have hrun : (Builtin.append_ #[t, tx] o.type #[.slice A 0 0, .int k m]).run P w =
      .ok (.slice (some ⟨w.heap.size, 0, none⟩) m (grownCap w m 0 e)) (w.drew.alloc (.cells (Builtin.zeroCells z.cells m ++ Builtin.zeroCells z.cells (grownCap w m 0 e - m)) e)) := by
    have hn : m ≠ 0 := by omega
    have hw : IntKind.i64.wrap (m : Int) = m := by rw [IntKind.wrap_i64]; omega
    have h63' : ¬ (9223372036854775807 < (m : Int)) := by omega
    have h48' : ¬ (281474976710656 < Builtin.nextslicecap m 0 * i.bytes) := by rw [nextslicecap_zero hm0, h5]; omega
    have h48i : ¬ (281474976710656 < (m : Int) * (i.bytes : Int)) := by
      rw [← Int.natCast_mul, h5]
      omega
    have hneg : ¬ ((m : Int) < 0) := by omega
    have hns : ¬ (m * i.size = 0) := Nat.mul_ne_zero hn (by rw [h4]; omega)
    simp [Builtin.append_, run_underlying hu, run_underlying htx, sizeOf, typeInfo, zeroValue, hi, hzi, asInt, asIntOf, hw, hn, hneg, hns, h63', h48', h48i, Question.forced, run_firstCells0, newRow, grownCap]
  have hmc : ∀ q, Builtin.zeroCells z.cells q = madeCells z.cells (q * te.size) := fun q => by unfold Builtin.zeroCells madeCells; rw [hzc]
  have hge := grownCap_ge w m 0 e
  refine ⟨_, _, [w.heap.size], by simp [execOp, ho, resolve, invoke, builtin, hv, r2.2, hrun]; exact ⟨rfl, rfl⟩, Frm.trans0 (Frm.drew w) (Frm.alloc _ _), ?_, by simp, by simp, ?_⟩
  · have hsz : w.drew.heap.size = w.heap.size := rfl
    have := fr_new (μ := μ) (I := fun x => I x ∨ (w.heap.size ≤ x ∧ x < (w.drew.alloc (.cells (Builtin.zeroCells z.cells m ++ Builtin.zeroCells z.cells (grownCap w m 0 e - m)) e)).heap.size ∧ x ∉ [w.heap.size])) (w := w.drew) (sz := te.size) (n := m) (c := grownCap w m 0 e) (ds := makeD te.zero (m * te.size)) (cells := Builtin.zeroCells z.cells m ++ Builtin.zeroCells z.cells (grownCap w m 0 e - m)) (f := []) e (by unfold maxLen; omega) (makeD_length _ _) hge (by simp [hmc, size_madeCells]; rw [← Nat.add_mul]; exact Nat.mul_le_mul_right _ (by omega))
      (by intro v hv; simp only [Array.toList_append, List.mem_append, hmc] at hv; rcases hv with hv | hv <;> exact made_one h2 hz hall _ v hv)
      (by
        rw [makeD_length, Array.toList_append, List.take_append_of_le_length (by simp [hmc, size_madeCells]), List.take_of_length_le (by simp [hmc, size_madeCells]), hmc]
        exact made_rep h2 hz _)
    rw [hsz] at this
    exact this
  · simp only [bnd]; exact bndL_makeD (by rw [h2]; exact bndL_leafD _ _) _
end
end Go.Proofs.Ytlbbhkpjjciaiaa.Vm

