import Derived.Test.YtljncoikoffijaaVm6
/-
  Contracts of functions over abstract values, and calls. No conditions; nothing of the program is named here.
-/
namespace Go.Proofs.Ytljncoikoffijaa.Vm
open Go
set_option linter.unusedVariables false
set_option linter.unusedSimpArgs false
set_option linter.unusedSectionVars false

/-- A call that only reads its arguments and hands back what is its own. -/
def Pure (P : Program) (f : FuncId) (args : List D) (r : D) : Prop :=
  ∀ (μ : Nat → Nat) (w : World) (vs : List Value), RepL μ (fun x => x < w.heap.size) w args vs [] → Calls P f vs.toArray w fun e w' =>
    ∃ v fl, e = .returned v ∧ Rep μ (fun _ => False) w' r v fl ∧ fl.Nodup ∧ (∀ x ∈ fl, w.heap.size ≤ x ∧ x < w'.heap.size) ∧ Frm w (fun _ => False) w'
def ofArgs (ds : List D) : Nat → D := fun t => ds.getD t .any
/-- A call in general: it may write what it is handed, and the named blocks. -/
def Spec (P : Program) (f : FuncId) (args : List D) (H : Hp) (r : D) (H' : Hp) : Prop :=
  ∀ (w : World) (J : Nat → Prop) (vs : List Value) (μ : Nat → Nat) (fp : Root → List Nat) (N : Nat), R ⟨w, fun x => ∃ r, x ∈ fp r, J, μ, N⟩ args.length ⟨ofArgs args, H⟩ [] [] ⟨vs.toArray, []⟩ w μ fp N → Calls P f vs.toArray w fun e w' =>
    ∃ v μ' fp' N', e = .returned v ∧ R ⟨w, fun x => ∃ r, x ∈ fp r, J, μ, N⟩ 1 ⟨ofArgs [r], H'⟩ [] [] ⟨#[v], []⟩ w' μ' fp' N'
/-- A call that has one of many results. -/
def SpecR (P : Program) (f : FuncId) (args : List D) (H : Hp) (G : Any → D × Hp) : Prop :=
  ∀ (w : World) (J : Nat → Prop) (vs : List Value) (μ : Nat → Nat) (fp : Root → List Nat) (N : Nat), R ⟨w, fun x => ∃ r, x ∈ fp r, J, μ, N⟩ args.length ⟨ofArgs args, H⟩ [] [] ⟨vs.toArray, []⟩ w μ fp N → Calls P f vs.toArray w fun e w' =>
    ∃ c v μ' fp' N', e = .returned v ∧ R ⟨w, fun x => ∃ r, x ∈ fp r, J, μ, N⟩ 1 ⟨ofArgs [(G c).1], (G c).2⟩ [] [] ⟨#[v], []⟩ w' μ' fp' N'
def PureR (P : Program) (f : FuncId) (args : List D) (G : Any → D) : Prop :=
  ∀ (μ : Nat → Nat) (w : World) (vs : List Value), RepL μ (fun x => x < w.heap.size) w args vs [] → Calls P f vs.toArray w fun e w' =>
    ∃ c v fl, e = .returned v ∧ Rep μ (fun _ => False) w' (G c) v fl ∧ fl.Nodup ∧ (∀ x ∈ fl, w.heap.size ≤ x ∧ x < w'.heap.size) ∧ Frm w (fun _ => False) w'
inductive Con where
  | none
  | pure (F : List D → Prop × D)
  | gen (F : List D → Hp → Prop × D × Hp)
  | ext (F : List D → Prop × D)
  | rel (F : List D → Hp → Prop × (Any → D × Hp))
  | prel (F : List D → Prop × (Any → D))
/-- A call of a function without a body: the model's own answer. -/
def Ext (P : Program) (f : FuncId) (args : List D) (r : D) : Prop :=
  ∀ (μ : Nat → Nat) (I : Nat → Prop) (w : World) (vs : List Value), RepL μ I w args vs [] → ∃ v, (callFunc f vs.toArray).run P w = .ok (.value v) w ∧ ∀ μ' I' w', Rep μ' I' w' r v []
def Callable (P : Program) (f : FuncId) : Prop := ∃ fn, P.funcs[f]? = some fn ∧ fn.name ≠ "runtime.NumGoroutine" ∧ fn.body.isSome = true
def ConOk (P : Program) (f : FuncId) : Con → Prop
  | .none => True
  | .pure F => Callable P f ∧ ∀ args, (F args).1 → Pure P f args (F args).2 ∧ bnd 0 (F args).2
  | .gen F => Callable P f ∧ ∀ args H, (F args H).1 → Spec P f args H (F args H).2.1 (F args H).2.2
  | .ext F => ∀ args, (F args).1 → Ext P f args (F args).2 ∧ bnd 0 (F args).2
  | .rel F => Callable P f ∧ ∀ args H, (F args H).1 → SpecR P f args H (F args H).2
  | .prel F => Callable P f ∧ ∀ args, (F args).1 → PureR P f args (F args).2 ∧ ∀ c, bnd 0 ((F args).2 c)

/-- A value as data, named blocks read. -/
def deref : Nat → Hp → D → D
  | 0, _, _ => .any
  | k + 1, H, .sl b sz i n _ => .list n (((((H b).getD []).drop i).take (n * sz)).map (deref k H))
  | k + 1, H, .ptr b i => match H b with
    | some (c :: cs) => .pd (((c :: cs).drop i).map (deref k H))
    | _ => .any
  | k + 1, H, .st cs => .st (cs.map (deref k H))
  | k + 1, H, .tup cs => .tup (cs.map (deref k H))
  | k + 1, H, .fr _ n cs => .list n (cs.map (deref k H))
  | _ + 1, _, .nil => .list 0 []
  | k + 1, H, .box cs => .pd (cs.map (deref k H))
  | k + 1, H, .fn f cs => .fn f (cs.map (deref k H))
  | _ + 1, _, d => d
section
variable {P : Program} {o : Oper} {vals : List D} {H : Hp}
theorem RepL.map {μ : Nat → Nat} {I I' : Nat → Prop} {w : World} {g : D → D} : ∀ {ds : List D} {vs : List Value} {f : List Nat}, (∀ d ∈ ds, ∀ v f', (∀ x ∈ f', x ∈ f) → Rep μ I w d v f' → Rep μ I' w (g d) v []) → RepL μ I w ds vs f → RepL μ I' w (ds.map g) vs []
  | [], vs, f, hg, h => by simp only [RepL] at h; simp [RepL, h.1]
  | d :: ds, vs, f, hg, h => by
    simp only [RepL] at h
    obtain ⟨v, vs', f1, f2, rfl, rfl, h1, h2⟩ := h
    simp only [List.map_cons, RepL]
    exact ⟨v, vs', [], [], rfl, rfl, hg d (by simp) v f1 (fun x hx => List.mem_append_left _ hx) h1, RepL.map (fun d' hd v f' hf h => hg d' (by simp [hd]) v f' (fun x hx => List.mem_append_right _ (hf x hx)) h) h2⟩
theorem deref_rep {B : Base} {n : Nat} {T : Nat → D} {ds : List D} {vs : List Value} {a : Act} {w : World} {μ : Nat → Nat} {fp : Root → List Nat} {N : Nat} (hR : R B n ⟨T, H⟩ ds vs a w μ fp N) :
    ∀ (k : Nat) (d : D) (v : Value) (f : List Nat), (∀ x ∈ f, x < w.heap.size) → Rep μ (Im B w fp) w d v f → Rep μ (fun x => x < w.heap.size) w (deref k H d) v []
  | 0, d, v, f, hf, h => by simp [deref, Rep]
  | k + 1, d, v, f, hf, h => by
    have ih := deref_rep hR k
    have him : ∀ x, Im B w fp x → x < w.heap.size := fun x hx => hx.1
    -- the cells of a named block
    have blk : ∀ b cs, H b = some cs → cs ≠ [] → ∃ cells, Whole w (μ b) cells ∧ RepL μ (fun x => x < w.heap.size) w (cs.map (deref k H)) cells.toList [] := by
      intro b cs hc hne
      rcases hR.hp b cs hc with ⟨e, _⟩ | ⟨cells, k1, k2, k3, k4, k5⟩
      · exact (hne e).elim
      · refine ⟨cells, k1, .build (by simpa using k2) fun j e u h1 h2 => ?_⟩
        rw [List.getElem?_map] at h1
        cases hj : cs[j]? with
        | none => rw [hj] at h1; cases h1
        | some e' =>
          rw [hj] at h1; cases h1
          obtain ⟨u', hu, hr⟩ := k4 j e' hj
          have : cells[j]? = some u := by simpa using h2
          rw [hu] at this; cases this
          exact ih e' _ _ (fun x hx => (hR.own _ x hx).2) hr
    have sub : ∀ {cs : List D} {us : List Value} {g : List Nat}, (∀ x ∈ g, x < w.heap.size) → RepL μ (Im B w fp) w cs us g → RepL μ (fun x => x < w.heap.size) w (cs.map (deref k H)) us [] := fun hg hr =>
      RepL.map (fun d _ v f' hf' hd => ih d v f' (fun x hx => hg x (hf' x hx)) hd) hr
    cases d with
    | sl b sz i n c =>
      simp only [Rep] at h
      obtain ⟨rfl, hnc, hmax, ⟨A, rfl⟩, hv⟩ := h
      simp only [deref, Rep]
      by_cases h0 : n * sz = 0
      · rw [h0]
        exact ⟨trivial, hmax, A, c, [], rfl, hnc, .inl (by simp), by simp [RepL]⟩
      · have hv := hv.resolve_left (by rintro rfl; have : n = 0 := by omega
                                       subst this; simp at h0)
        cases hv
        cases hc : H b with
        | none => simp only [Option.getD_none, List.drop_nil, List.take_nil, List.map_nil]; exact ⟨trivial, hmax, _, c, [], rfl, hnc, .inl trivial, by simp [RepL]⟩
        | some cs =>
          simp only [Option.getD_some]
          by_cases he : cs = []
          · subst he; simp only [List.drop_nil, List.take_nil, List.map_nil]; exact ⟨trivial, hmax, _, c, [], rfl, hnc, .inl trivial, by simp [RepL]⟩
          · obtain ⟨cells, k1, k2⟩ := blk b cs hc he
            refine ⟨trivial, hmax, _, c, (cells.toList.drop i).take (n * sz), rfl, hnc, .inr ⟨μ b, i, rfl, k1.lt, .of_whole k1 fun j u hu => ?_⟩, ?_⟩
            · rw [List.getElem?_take] at hu
              split at hu
              · rw [List.getElem?_drop] at hu; simpa using hu
              · cases hu
            · rw [List.map_take, List.map_drop]
              exact (k2.drop _).take _
    | ptr b i =>
      simp only [Rep] at h
      obtain ⟨rfl, rfl⟩ := h
      simp only [deref]
      split
      · rename_i c cs hc
        obtain ⟨cells, k1, k2⟩ := blk b (c :: cs) hc (by simp)
        simp only [Rep]
        refine ⟨trivial, μ b, i, cells.toList.drop i, rfl, k1.lt, .of_whole k1 fun j u hu => ?_, ?_⟩
        · rw [List.getElem?_drop] at hu; simpa using hu
        · rw [List.map_drop]; exact k2.drop _
      · simp [Rep]
    | st cs =>
      simp only [Rep] at h
      obtain ⟨us, rfl, h⟩ := h
      simp only [deref, Rep]
      exact ⟨us, rfl, sub hf h⟩
    | tup cs =>
      simp only [Rep] at h
      obtain ⟨us, rfl, h⟩ := h
      simp only [deref, Rep]
      exact ⟨us, rfl, sub hf h⟩
    | fr sz n cs =>
      simp only [Rep] at h
      obtain ⟨h0, h1, h⟩ := h
      simp only [deref, Rep]
      rcases h with ⟨rfl, rfl, A, rfl⟩ | ⟨b, c, cells, us, g, rfl, h3, h4, h5, h6, h7, rfl⟩
      · have : cs = [] := List.eq_nil_of_length_eq_zero (by simpa using h1)
        subst this
        exact ⟨trivial, h0, A, 0, [], rfl, by simp, .inl rfl, by simp [RepL]⟩
      · exact ⟨trivial, h0, _, c, us, rfl, h3, .inr ⟨b, 0, rfl, hf b (by simp), .of_whole h4 (by simpa using h6)⟩, sub (fun x hx => hf x (by simp [hx])) h7⟩
    | nil =>
      simp only [Rep] at h
      obtain ⟨_, A, rfl⟩ := h
      simp [deref, Rep, RepL]
    | box cs =>
      simp only [Rep] at h
      obtain ⟨b, cells, g, rfl, h3, h4, rfl⟩ := h
      simp only [deref, Rep]
      exact ⟨trivial, b, 0, cells.toList, rfl, hf b (by simp), .of_whole h3 (by simp), sub (fun x hx => hf x (by simp [hx])) h4⟩
    | fn g cs =>
      simp only [Rep] at h
      obtain ⟨us, rfl, h⟩ := h
      simp only [deref, Rep]
      exact ⟨us, rfl, sub hf h⟩
    | list n cs =>
      have : f = [] := h.free rfl
      subst this
      exact Rep.mono (fun x hx => ⟨him x hx, rfl⟩) (by simp) h
    | pd cs =>
      have : f = [] := h.free rfl
      subst this
      exact Rep.mono (fun x hx => ⟨him x hx, rfl⟩) (by simp) h
    | any => simp [deref, Rep]
    | nilp => simp only [Rep] at h; obtain ⟨_, rfl⟩ := h; simp [deref, Rep]
    | ubool => simp only [Rep] at h; obtain ⟨_, b, rfl⟩ := h; simp [deref, Rep]
    | int _ _ => simp only [Rep] at h; obtain ⟨_, rfl⟩ := h; simp [deref, Rep]
    | bool _ => simp only [Rep] at h; obtain ⟨_, rfl⟩ := h; simp [deref, Rep]
    | str _ => simp only [Rep] at h; obtain ⟨_, rfl⟩ := h; simp [deref, Rep]

def opCall (Γ : FuncId → Con) (ch : Any) (vs : List D) (H : Hp) : Res :=
  match vs with
  | .fn f caps :: args =>
    match Γ f with
    | .pure F => ⟨(F ((args ++ caps).map (deref 40 H))).1, (F ((args ++ caps).map (deref 40 H))).2, H, none⟩
    | .gen F => ⟨(F (args ++ caps) H).1, (F (args ++ caps) H).2.1, (F (args ++ caps) H).2.2, none⟩
    | .ext F => ⟨(F (args ++ caps)).1 ∧ ownsL (args ++ caps) = false, (F (args ++ caps)).2, H, none⟩
    | .rel F => ⟨(F (args ++ caps) H).1, ((F (args ++ caps) H).2 ch).1, ((F (args ++ caps) H).2 ch).2, none⟩
    | .prel F => ⟨(F ((args ++ caps).map (deref 40 H))).1, (F ((args ++ caps).map (deref 40 H))).2 ch, H, none⟩
    | .none => bad H
  | _ => bad H
/-- The footprints of a list's values, one by one. -/
theorem RepL.slots {μ : Nat → Nat} {I : Nat → Prop} {w : World} : ∀ {ds : List D} {vs : List Value} {f : List Nat}, RepL μ I w ds vs f → f.Nodup → ∃ h : Nat → List Nat, (∀ t, Rep μ I w (ds.getD t .any) (vs.getD t undef) (h t)) ∧ (∀ t x, x ∈ h t → x ∈ f) ∧ (∀ t, (h t).Nodup) ∧ ∀ t t' x, x ∈ h t → x ∈ h t' → t = t'
  | [], vs, f, hr, hn => ⟨fun _ => [], by simp [Rep], by simp, by simp, by simp⟩
  | d :: ds, vs, f, hr, hn => by
    simp only [RepL] at hr
    obtain ⟨v, vs', f1, f2, rfl, rfl, h1, h2⟩ := hr
    have hn' := List.nodup_append.1 hn
    obtain ⟨h, k1, k2, k3, k4⟩ := RepL.slots h2 hn'.2.1
    refine ⟨fun t => match t with | 0 => f1 | t + 1 => h t, fun t => ?_, fun t x hx => ?_, fun t => ?_, fun t t' x hx hy => ?_⟩
    · cases t with
      | zero => simpa using h1
      | succ t => simpa using k1 t
    · cases t with
      | zero => exact List.mem_append_left _ hx
      | succ t => exact List.mem_append_right _ (k2 t x hx)
    · cases t with
      | zero => exact hn'.1
      | succ t => exact k3 t
    · cases t <;> cases t'
      · rfl
      · exact (hn'.2.2 x hx x (k2 _ x hy) rfl).elim
      · exact (hn'.2.2 x hy x (k2 _ x hx) rfl).elim
      · rw [k4 _ _ x hx hy]
theorem sound_call {Γ : FuncId → Con} (hΓ : ∀ f, ConOk P f (Γ f)) (g : Operand) (xs : Array Operand) (ts : Array TypeId) (ho : o.op = .call { callee := .value g, args := xs, argTypes := ts }) : SoundC P o vals H (fun ch => opCall Γ ch vals H) := by
  have hx : o.op.operands.toList = g :: xs.toList := by rw [ho]; simp [Op.operands, Call.operands]
  have cas : (∃ f caps args, vals = .fn f caps :: args) ∨ ∀ ch, opCall Γ ch vals H = bad H := by
    unfold opCall
    split
    · exact .inl ⟨_, _, _, rfl⟩
    · exact .inr fun _ => rfl
  rcases cas with ⟨f, caps, args, rfl⟩ | cas
  case inr => rw [show (fun ch => opCall Γ ch vals H) = fun _ => bad H from funext cas]; exact (Sound.bad P o _ H).c
  have hcall := hΓ f
  -- how the call is entered
  have enter : Callable P f → ∀ {μ : Nat → Nat} {I : Nat → Prop} {a : Act} {w : World} {cv : List Value}, a.eval g = .func (.func f) #[] cv.toArray → (execOp a.eval o).run P w = .ok (.enter f (xs.toList.map a.eval ++ cv).toArray) w := by
    intro hc μ I a w cv hg
    obtain ⟨fn, h1, h2, h3⟩ := hc
    have h3' : fn.body ≠ none := by cases hb : fn.body <;> simp [hb] at h3 ⊢
    have e2 : Array.map a.eval xs ++ cv.toArray = (xs.toList.map a.eval ++ cv).toArray := by apply Array.ext'; simp
    simp [execOp, ho, resolve, hg, Deferred.ofValue, invoke, callFunc, program, Sem.run, h1, h2, h3', e2]
  cases hF : Γ f with
  | none =>
    rw [show (fun ch => opCall Γ ch (.fn f caps :: args) H) = fun _ => bad H from funext fun ch => by unfold opCall; simp only [hF]]
    exact (Sound.bad P o _ H).c
  | ext F =>
    rw [show (fun ch => opCall Γ ch (.fn f caps :: args) H) = fun _ => ⟨(F (args ++ caps)).1 ∧ ownsL (args ++ caps) = false, (F (args ++ caps)).2, H, none⟩ from funext fun ch => by unfold opCall; simp only [hF]]
    rw [hF] at hcall
    refine Sound.c (Sound.of rfl rfl fun μ I w a f' N avals hr hav hn hb hp => ?_)
    rw [hx, List.map_cons] at hav; subst hav
    simp only [RepL] at hr
    obtain ⟨v, vs', f1, f2, he, hf, h1, h2⟩ := hr
    cases he
    simp only [Rep] at h1
    obtain ⟨cv, hg, h1⟩ := h1
    have h3 := RepL.append h1 h2
    obtain ⟨hp1, hp2⟩ := hp
    have h4 := h3.free hp2
    rw [h4] at h3
    obtain ⟨hE, hb0⟩ := hcall _ hp1
    obtain ⟨u, hu, hrep⟩ := hE μ I w _ h3
    have e2 : Array.map a.eval xs ++ cv.toArray = (xs.toList.map a.eval ++ cv).toArray := by apply Array.ext'; simp
    refine ⟨u, [], ?_, hrep μ I w, .nil, by simp, bnd.mono (Nat.zero_le _) hb0⟩
    simp [execOp, ho, resolve, hg, Deferred.ofValue, invoke, e2, hu]
  | pure F =>
    rw [show (fun ch => opCall Γ ch (.fn f caps :: args) H) = fun _ => ⟨(F ((args ++ caps).map (deref 40 H))).1, (F ((args ++ caps).map (deref 40 H))).2, H, none⟩ from funext fun ch => by unfold opCall; simp only [hF]]
    rw [hF] at hcall
    obtain ⟨hc, hcon⟩ := hcall
    intro c0 B n T a w μ fp N avals hR hav hpre next Q hk
    rw [hx, List.map_cons] at hav; subst hav
    dsimp only at hpre
    obtain ⟨hP, hb0⟩ := hcon _ hpre
    have hbg := hR.bg
    simp only [RepL] at hbg
    obtain ⟨v, vs', f1, f2, he, hf, h1, h2⟩ := hbg
    cases he
    simp only [Rep] at h1
    obtain ⟨cv, hg, h1⟩ := h1
    have h3 := RepL.append h1 h2
    have h4 : RepL μ (fun x => x < w.heap.size) w ((args ++ caps).map (deref 40 H)) (xs.toList.map a.eval ++ cv) [] :=
      RepL.map (fun d _ v f' hf' hd => deref_rep hR 40 d v f' (fun x hx => (hR.own .bag x (by rw [hf]; have := hf' x hx; simp at this ⊢; exact this.symm)).2) hd) h3
    unfold Oper.wp
    rw [enter hc (μ := μ) (I := fun _ => True) hg]
    simp only [Oper.upon]
    refine (hP μ w _ h4).mono fun e w' ⟨u, fl, he, hr, hn, hfl, hw⟩ => ?_
    subst he
    obtain ⟨fp', hR'⟩ := hR.resNew (hw.weaken (by simp)) (Rep.mono (fun b hb => hb.elim) (fun _ _ => rfl) hr) hn (fun x hx => .inr (hfl x hx)) (bnd.mono (Nat.zero_le _) hb0)
    exact hk c0 u w' μ fp' N hR'
  | prel F =>
    rw [show (fun ch => opCall Γ ch (.fn f caps :: args) H) = fun ch => ⟨(F ((args ++ caps).map (deref 40 H))).1, (F ((args ++ caps).map (deref 40 H))).2 ch, H, none⟩ from funext fun ch => by unfold opCall; simp only [hF]]
    rw [hF] at hcall
    obtain ⟨hc, hcon⟩ := hcall
    intro c0 B n T a w μ fp N avals hR hav hpre next Q hk
    rw [hx, List.map_cons] at hav; subst hav
    dsimp only at hpre
    obtain ⟨hP, hb0⟩ := hcon _ hpre
    have hbg := hR.bg
    simp only [RepL] at hbg
    obtain ⟨v, vs', f1, f2, he, hf, h1, h2⟩ := hbg
    cases he
    simp only [Rep] at h1
    obtain ⟨cv, hg, h1⟩ := h1
    have h3 := RepL.append h1 h2
    have h4 : RepL μ (fun x => x < w.heap.size) w ((args ++ caps).map (deref 40 H)) (xs.toList.map a.eval ++ cv) [] :=
      RepL.map (fun d _ v f' hf' hd => deref_rep hR 40 d v f' (fun x hx => (hR.own .bag x (by rw [hf]; have := hf' x hx; simp at this ⊢; exact this.symm)).2) hd) h3
    unfold Oper.wp
    rw [enter hc (μ := μ) (I := fun _ => True) hg]
    simp only [Oper.upon]
    refine (hP μ w _ h4).mono fun e w' ⟨ch, u, fl, he, hr, hn, hfl, hw⟩ => ?_
    subst he
    obtain ⟨fp', hR'⟩ := hR.resNew (hw.weaken (by simp)) (Rep.mono (fun b hb => hb.elim) (fun _ _ => rfl) hr) hn (fun x hx => .inr (hfl x hx)) (bnd.mono (Nat.zero_le _) (hb0 ch))
    exact hk ch u w' μ fp' N hR'
  | gen F =>
    rw [show (fun ch => opCall Γ ch (.fn f caps :: args) H) = fun ch => ⟨(F (args ++ caps) H).1, (F (args ++ caps) H).2.1, (F (args ++ caps) H).2.2, none⟩ from funext fun ch => by unfold opCall; simp only [hF]]
    rw [hF] at hcall
    obtain ⟨hc, hcon⟩ := hcall
    intro c0 B n T a w μ fp N avals hR hav hpre next Q hk
    rw [hx, List.map_cons] at hav; subst hav
    dsimp only at hpre
    have hS := hcon _ _ hpre
    have hbg := hR.bg
    simp only [RepL] at hbg
    obtain ⟨v, vs', f1, f2, he, hf, h1, h2⟩ := hbg
    cases he
    simp only [Rep] at h1
    obtain ⟨cv, hg, h1⟩ := h1
    have h3 := RepL.append h1 h2
    have hnod : (f1 ++ f2).Nodup := hf ▸ hR.nod .bag
    have hnod2 : (f2 ++ f1).Nodup := (List.perm_append_comm.nodup_iff).1 hnod
    have hmem : ∀ x, x ∈ f2 ++ f1 → x ∈ fp .bag := fun x hx => by rw [hf]; simp at hx ⊢; exact hx.symm
    obtain ⟨h, k1, k2, k3, k4⟩ := h3.slots hnod2
    let fc : Root → List Nat := fun r => match r with
      | .slot t => h t
      | .cell b i => fp (.cell b i)
      | .blk b => fp (.blk b)
      | .bag => []
    have hfc : ∀ r x, x ∈ fc r → ∃ r', x ∈ fp r' ∧ ∀ t, r' ≠ .slot t := by
      intro r x hx
      cases r with
      | slot t => exact ⟨.bag, hmem x (k2 t x hx), by simp⟩
      | cell b i => exact ⟨_, hx, by simp⟩
      | blk b => exact ⟨_, hx, by simp⟩
      | bag => cases hx
    have him : ∀ x, Im B w fp x → Im ⟨w, fun x => ∃ r, x ∈ fc r, Im B w fp, μ, N⟩ w fc x := fun x hx => ⟨hx.1, .inl (.inl hx), fun r hr => by obtain ⟨r', h', _⟩ := hfc r x hr; exact hx.2.2 r' h'⟩
    have hb := hR.bB
    simp only [bndL, bnd] at hb
    have hRc : R ⟨w, fun x => ∃ r, x ∈ fc r, Im B w fp, μ, N⟩ (args ++ caps).length ⟨ofArgs (args ++ caps), H⟩ [] [] ⟨(xs.toList.map a.eval ++ cv).toArray, []⟩ w μ fc N := by
      refine ⟨by have := h3.length; simpa using this, rfl, Frm.refl _ _, ?_, ?_, ?_, ?_, ?_, ?_, ?_, ?_, ?_, by simp [bndL], hR.bH, ⟨Nat.le_refl _, fun _ _ => rfl⟩⟩
      · intro x hx
        exact ⟨hx.1, fun ⟨r, hr⟩ => by obtain ⟨r', h', _⟩ := hfc r x hr; exact hx.2.2 r' h'⟩
      · intro r x hx
        obtain ⟨r', h', _⟩ := hfc r x hx
        exact ⟨.inl ⟨r, hx⟩, (hR.own r' x h').2⟩
      · intro r
        cases r with
        | slot t => exact k3 t
        | cell b i => exact hR.nod _
        | blk b => exact hR.nod _
        | bag => exact .nil
      · intro r r' x hx hy
        cases r <;> cases r'
        case slot.slot t t' => rw [k4 t t' x hx hy]
        case slot.cell t b i => have := hR.dis _ _ x (hmem x (k2 t x hx)) hy; cases this
        case slot.blk t b => have := hR.dis _ _ x (hmem x (k2 t x hx)) hy; cases this
        case cell.slot b i t => have := hR.dis _ _ x (hmem x (k2 t x hy)) hx; cases this
        case blk.slot b t => have := hR.dis _ _ x (hmem x (k2 t x hy)) hx; cases this
        case slot.bag => cases hy
        case cell.bag => cases hy
        case blk.bag => cases hy
        case bag.slot => cases hx
        case bag.cell => cases hx
        case bag.blk => cases hx
        case bag.bag => rfl
        all_goals exact hR.dis _ _ x hx hy
      · intro t
        have := k1 t
        refine Rep.mono (fun x hx => ⟨him x hx, rfl⟩) (fun _ _ => rfl) ?_
        rw [show (⟨(xs.toList.map a.eval ++ cv).toArray, []⟩ : Act).tmps.getD t undef = (xs.toList.map a.eval ++ cv).getD t undef by simp [List.getD_eq_getElem?_getD]]
        exact this
      · simp [RepL, fc]
      · intro b cs hcs
        rcases hR.hp b cs hcs with q | ⟨cells, q1, q2, q3, q4, q5⟩
        · exact .inl q
        · refine .inr ⟨cells, q1, q2, q3, fun i d hd => ?_, q5⟩
          obtain ⟨u, hu, hr⟩ := q4 i d hd
          exact ⟨u, hu, Rep.mono (fun x hx => ⟨him x hx, rfl⟩) (fun _ _ => rfl) hr⟩
      · intro b hb'; exact hR.hn b hb'
      · intro t
        show bnd N ((args ++ caps).getD t .any)
        rw [List.getD_eq_getElem?_getD]
        cases hd : (args ++ caps)[t]? with
        | none => simp [bnd]
        | some d =>
          rcases List.mem_append.1 (List.mem_of_getElem? hd) with hm | hm
          · exact bndL_iff.1 hb.2 d hm
          · exact bndL_iff.1 hb.1 d hm
    unfold Oper.wp
    rw [enter hc (μ := μ) (I := fun _ => True) hg]
    simp only [Oper.upon]
    refine (hS w _ _ μ fc N hRc).mono fun e w' ⟨u, μ', fp', N', he, hR'⟩ => ?_
    subst he
    have hnK : ∀ t x, x ∈ fp (.slot t) → ¬ ∃ r, x ∈ fc r := fun t x hx ⟨r, hr⟩ => by
      obtain ⟨r', h', hn⟩ := hfc r x hr
      exact hn t (hR.dis _ _ x h' hx)
    have hlt : ∀ t x, x ∈ fp (.slot t) → x < w.heap.size := fun t x hx => (hR.own _ x hx).2
    have hslot : ∀ t x, x ∈ fp (.slot t) → w'.heap[x]? = w.heap[x]? := fun t x hx => hR'.frm.same x (hlt t x hx) (hnK t x hx)
    have hout : ∀ t x r, x ∈ fp (.slot t) → x ∉ fp' r := fun t x r hx hr => by
      rcases (hR'.own r x hr).1 with k | k
      · exact hnK t x hx k
      · have h1 := hlt t x hx
        dsimp only at k
        omega
    have hsz := hR'.frm.size
    dsimp only at hsz
    let fn : Root → List Nat := fun r => match r with
      | .slot t => fp (.slot t)
      | .cell b i => fp' (.cell b i)
      | .blk b => fp' (.blk b)
      | .bag => fp' (.slot 0)
    have hfn : ∀ r x, x ∈ fn r → (∃ t, r = .slot t ∧ x ∈ fp (.slot t)) ∨ ∃ r', x ∈ fp' r' ∧ ((r' = r ∧ ∀ t, r ≠ .slot t) ∨ (r = .bag ∧ r' = .slot 0)) := by
      intro r x hx
      cases r with
      | slot t => exact .inl ⟨t, rfl, hx⟩
      | cell b i => exact .inr ⟨_, hx, .inl ⟨rfl, by simp⟩⟩
      | blk b => exact .inr ⟨_, hx, .inl ⟨rfl, by simp⟩⟩
      | bag => exact .inr ⟨_, hx, .inr ⟨rfl, rfl⟩⟩
    have him1 : ∀ x, Im B w fp x → Im B w' fn x ∧ w'.heap[x]? = w.heap[x]? := fun x hx => by
      have hnk : ¬ ∃ r, x ∈ fc r := fun ⟨r, hr⟩ => by obtain ⟨r', h', _⟩ := hfc r x hr; exact hx.2.2 r' h'
      refine ⟨⟨Nat.lt_of_lt_of_le hx.1 hsz, hx.2.1, fun r hr => ?_⟩, hR'.frm.same x hx.1 hnk⟩
      rcases hfn r x hr with ⟨t, rfl, h'⟩ | ⟨r', h', _⟩
      · exact hx.2.2 _ h'
      · rcases (hR'.own r' x h').1 with k | k
        · exact hnk k
        · have := hx.1; dsimp only at k; omega
    have hB := hR.frm.size
    have him2 : ∀ x, Im ⟨w, fun x => ∃ r, x ∈ fc r, Im B w fp, μ, N⟩ w' fp' x → Im B w' fn x := fun x hx => by
      refine ⟨hx.1, ?_, fun r hr => ?_⟩
      · rcases hx.2.1 with (k | ⟨r2, k⟩) | k
        · exact k.2.1
        · obtain ⟨r3, h3, _⟩ := hfc r2 x k
          rcases (hR.own r3 x h3).1 with q | q
          · exact .inl (.inr q)
          · exact .inr q
        · exact .inr (Nat.le_trans hB k)
      · rcases hfn r x hr with ⟨t, rfl, h'⟩ | ⟨r', h', _⟩
        · rcases hx.2.1 with (k | k) | k
          · exact k.2.2 _ h'
          · exact hnK t x h' k
          · have := hlt t x h'; dsimp only at k; omega
        · exact hx.2.2 _ h'
    refine hk c0 u w' μ' fn N' ⟨hR.len, hR.dfs, ⟨hR'.frm.os.trans hR.frm.os, hR'.frm.tape.trans hR.frm.tape, hR'.frm.output.trans hR.frm.output, Nat.le_trans hB hsz, fun b hb' hk' => ?_⟩, hR.jk, ?_, ?_, ?_, ?_, ?_, ?_, ?_, ?_, ?_, hR'.bH, ?_⟩
    · have hnk : ¬ ∃ r, b ∈ fc r := fun ⟨r, hr⟩ => by
        obtain ⟨r', h', _⟩ := hfc r b hr
        rcases (hR.own r' b h').1 with k | k
        · exact hk' k
        · omega
      exact (hR'.frm.same b (by show b < w.heap.size; omega) hnk).trans (hR.frm.same b hb' hk')
    · intro r x hx
      rcases hfn r x hx with ⟨t, rfl, h'⟩ | ⟨r', h', _⟩
      · have := hR.own _ x h'; exact ⟨this.1, Nat.lt_of_lt_of_le this.2 hsz⟩
      · have := hR'.own r' x h'
        refine ⟨?_, this.2⟩
        rcases this.1 with ⟨r2, k⟩ | k
        · obtain ⟨r3, h3, _⟩ := hfc r2 x k
          exact (hR.own r3 x h3).1
        · exact .inr (Nat.le_trans hB k)
    · intro r
      cases r with
      | slot t => exact hR.nod _
      | cell b i => exact hR'.nod _
      | blk b => exact hR'.nod _
      | bag => exact hR'.nod _
    · intro r r' x hx hy
      rcases hfn r x hx with ⟨t, rfl, h'⟩ | ⟨r1, h1', e1⟩ <;> rcases hfn r' x hy with ⟨t', rfl, h2'⟩ | ⟨r2, h2', e2⟩
      · exact hR.dis _ _ x h' h2'
      · exact (hout t x r2 h' h2').elim
      · exact (hout t' x r1 h2' h1').elim
      · have e := hR'.dis r1 r2 x h1' h2'
        rcases e1 with ⟨rfl, n1⟩ | ⟨rfl, rfl⟩ <;> rcases e2 with ⟨rfl, n2⟩ | ⟨rfl, rfl⟩
        · exact e
        · exact (n1 0 e).elim
        · exact (n2 0 e.symm).elim
        · rfl
    · intro t
      refine Rep.ren (N := N) (fun b hb' => hR'.rn.2 b hb') (hR.bT t) ?_
      exact Rep.mono him1 (fun x hx => hslot t x hx) (hR.tm t)
    · simp only [RepL]
      refine ⟨u, [], fp' (.slot 0), [], rfl, by simp [fn], ?_, rfl, rfl⟩
      have := hR'.tm 0
      exact Rep.mono (fun x hx => ⟨him2 x hx, rfl⟩) (fun _ _ => rfl) this
    · intro b cs hcs
      rcases hR'.hp b cs hcs with q | ⟨cells, q1, q2, q3, q4, q5⟩
      · exact .inl q
      · refine .inr ⟨cells, q1, q2, q3, fun i d hd => ?_, q5⟩
        obtain ⟨y, hy, hr⟩ := q4 i d hd
        exact ⟨y, hy, Rep.mono (fun x hx => ⟨him2 x hx, rfl⟩) (fun _ _ => rfl) hr⟩
    · intro b hb'; exact hR'.hn b hb'
    · intro t; exact bnd.mono hR'.rn.1 (hR.bT t)
    · simp only [bndL]
      have := hR'.bT 0
      exact ⟨this, trivial⟩
    · exact ⟨Nat.le_trans hR.rn.1 hR'.rn.1, fun b hb' => (hR'.rn.2 b (Nat.lt_of_lt_of_le hb' hR.rn.1)).trans (hR.rn.2 b hb')⟩
  | rel F =>
    rw [show (fun ch => opCall Γ ch (.fn f caps :: args) H) = fun ch => ⟨(F (args ++ caps) H).1, ((F (args ++ caps) H).2 ch).1, ((F (args ++ caps) H).2 ch).2, none⟩ from funext fun ch => by unfold opCall; simp only [hF]]
    rw [hF] at hcall
    obtain ⟨hc, hcon⟩ := hcall
    intro c0 B n T a w μ fp N avals hR hav hpre next Q hk
    rw [hx, List.map_cons] at hav; subst hav
    dsimp only at hpre
    have hS := hcon _ _ hpre
    have hbg := hR.bg
    simp only [RepL] at hbg
    obtain ⟨v, vs', f1, f2, he, hf, h1, h2⟩ := hbg
    cases he
    simp only [Rep] at h1
    obtain ⟨cv, hg, h1⟩ := h1
    have h3 := RepL.append h1 h2
    have hnod : (f1 ++ f2).Nodup := hf ▸ hR.nod .bag
    have hnod2 : (f2 ++ f1).Nodup := (List.perm_append_comm.nodup_iff).1 hnod
    have hmem : ∀ x, x ∈ f2 ++ f1 → x ∈ fp .bag := fun x hx => by rw [hf]; simp at hx ⊢; exact hx.symm
    obtain ⟨h, k1, k2, k3, k4⟩ := h3.slots hnod2
    let fc : Root → List Nat := fun r => match r with
      | .slot t => h t
      | .cell b i => fp (.cell b i)
      | .blk b => fp (.blk b)
      | .bag => []
    have hfc : ∀ r x, x ∈ fc r → ∃ r', x ∈ fp r' ∧ ∀ t, r' ≠ .slot t := by
      intro r x hx
      cases r with
      | slot t => exact ⟨.bag, hmem x (k2 t x hx), by simp⟩
      | cell b i => exact ⟨_, hx, by simp⟩
      | blk b => exact ⟨_, hx, by simp⟩
      | bag => cases hx
    have him : ∀ x, Im B w fp x → Im ⟨w, fun x => ∃ r, x ∈ fc r, Im B w fp, μ, N⟩ w fc x := fun x hx => ⟨hx.1, .inl (.inl hx), fun r hr => by obtain ⟨r', h', _⟩ := hfc r x hr; exact hx.2.2 r' h'⟩
    have hb := hR.bB
    simp only [bndL, bnd] at hb
    have hRc : R ⟨w, fun x => ∃ r, x ∈ fc r, Im B w fp, μ, N⟩ (args ++ caps).length ⟨ofArgs (args ++ caps), H⟩ [] [] ⟨(xs.toList.map a.eval ++ cv).toArray, []⟩ w μ fc N := by
      refine ⟨by have := h3.length; simpa using this, rfl, Frm.refl _ _, ?_, ?_, ?_, ?_, ?_, ?_, ?_, ?_, ?_, by simp [bndL], hR.bH, ⟨Nat.le_refl _, fun _ _ => rfl⟩⟩
      · intro x hx
        exact ⟨hx.1, fun ⟨r, hr⟩ => by obtain ⟨r', h', _⟩ := hfc r x hr; exact hx.2.2 r' h'⟩
      · intro r x hx
        obtain ⟨r', h', _⟩ := hfc r x hx
        exact ⟨.inl ⟨r, hx⟩, (hR.own r' x h').2⟩
      · intro r
        cases r with
        | slot t => exact k3 t
        | cell b i => exact hR.nod _
        | blk b => exact hR.nod _
        | bag => exact .nil
      · intro r r' x hx hy
        cases r <;> cases r'
        case slot.slot t t' => rw [k4 t t' x hx hy]
        case slot.cell t b i => have := hR.dis _ _ x (hmem x (k2 t x hx)) hy; cases this
        case slot.blk t b => have := hR.dis _ _ x (hmem x (k2 t x hx)) hy; cases this
        case cell.slot b i t => have := hR.dis _ _ x (hmem x (k2 t x hy)) hx; cases this
        case blk.slot b t => have := hR.dis _ _ x (hmem x (k2 t x hy)) hx; cases this
        case slot.bag => cases hy
        case cell.bag => cases hy
        case blk.bag => cases hy
        case bag.slot => cases hx
        case bag.cell => cases hx
        case bag.blk => cases hx
        case bag.bag => rfl
        all_goals exact hR.dis _ _ x hx hy
      · intro t
        have := k1 t
        refine Rep.mono (fun x hx => ⟨him x hx, rfl⟩) (fun _ _ => rfl) ?_
        rw [show (⟨(xs.toList.map a.eval ++ cv).toArray, []⟩ : Act).tmps.getD t undef = (xs.toList.map a.eval ++ cv).getD t undef by simp [List.getD_eq_getElem?_getD]]
        exact this
      · simp [RepL, fc]
      · intro b cs hcs
        rcases hR.hp b cs hcs with q | ⟨cells, q1, q2, q3, q4, q5⟩
        · exact .inl q
        · refine .inr ⟨cells, q1, q2, q3, fun i d hd => ?_, q5⟩
          obtain ⟨u, hu, hr⟩ := q4 i d hd
          exact ⟨u, hu, Rep.mono (fun x hx => ⟨him x hx, rfl⟩) (fun _ _ => rfl) hr⟩
      · intro b hb'; exact hR.hn b hb'
      · intro t
        show bnd N ((args ++ caps).getD t .any)
        rw [List.getD_eq_getElem?_getD]
        cases hd : (args ++ caps)[t]? with
        | none => simp [bnd]
        | some d =>
          rcases List.mem_append.1 (List.mem_of_getElem? hd) with hm | hm
          · exact bndL_iff.1 hb.2 d hm
          · exact bndL_iff.1 hb.1 d hm
    unfold Oper.wp
    rw [enter hc (μ := μ) (I := fun _ => True) hg]
    simp only [Oper.upon]
    refine (hS w _ _ μ fc N hRc).mono fun e w' ⟨ch, u, μ', fp', N', he, hR'⟩ => ?_
    subst he
    have hnK : ∀ t x, x ∈ fp (.slot t) → ¬ ∃ r, x ∈ fc r := fun t x hx ⟨r, hr⟩ => by
      obtain ⟨r', h', hn⟩ := hfc r x hr
      exact hn t (hR.dis _ _ x h' hx)
    have hlt : ∀ t x, x ∈ fp (.slot t) → x < w.heap.size := fun t x hx => (hR.own _ x hx).2
    have hslot : ∀ t x, x ∈ fp (.slot t) → w'.heap[x]? = w.heap[x]? := fun t x hx => hR'.frm.same x (hlt t x hx) (hnK t x hx)
    have hout : ∀ t x r, x ∈ fp (.slot t) → x ∉ fp' r := fun t x r hx hr => by
      rcases (hR'.own r x hr).1 with k | k
      · exact hnK t x hx k
      · have h1 := hlt t x hx
        dsimp only at k
        omega
    have hsz := hR'.frm.size
    dsimp only at hsz
    let fn : Root → List Nat := fun r => match r with
      | .slot t => fp (.slot t)
      | .cell b i => fp' (.cell b i)
      | .blk b => fp' (.blk b)
      | .bag => fp' (.slot 0)
    have hfn : ∀ r x, x ∈ fn r → (∃ t, r = .slot t ∧ x ∈ fp (.slot t)) ∨ ∃ r', x ∈ fp' r' ∧ ((r' = r ∧ ∀ t, r ≠ .slot t) ∨ (r = .bag ∧ r' = .slot 0)) := by
      intro r x hx
      cases r with
      | slot t => exact .inl ⟨t, rfl, hx⟩
      | cell b i => exact .inr ⟨_, hx, .inl ⟨rfl, by simp⟩⟩
      | blk b => exact .inr ⟨_, hx, .inl ⟨rfl, by simp⟩⟩
      | bag => exact .inr ⟨_, hx, .inr ⟨rfl, rfl⟩⟩
    have him1 : ∀ x, Im B w fp x → Im B w' fn x ∧ w'.heap[x]? = w.heap[x]? := fun x hx => by
      have hnk : ¬ ∃ r, x ∈ fc r := fun ⟨r, hr⟩ => by obtain ⟨r', h', _⟩ := hfc r x hr; exact hx.2.2 r' h'
      refine ⟨⟨Nat.lt_of_lt_of_le hx.1 hsz, hx.2.1, fun r hr => ?_⟩, hR'.frm.same x hx.1 hnk⟩
      rcases hfn r x hr with ⟨t, rfl, h'⟩ | ⟨r', h', _⟩
      · exact hx.2.2 _ h'
      · rcases (hR'.own r' x h').1 with k | k
        · exact hnk k
        · have := hx.1; dsimp only at k; omega
    have hB := hR.frm.size
    have him2 : ∀ x, Im ⟨w, fun x => ∃ r, x ∈ fc r, Im B w fp, μ, N⟩ w' fp' x → Im B w' fn x := fun x hx => by
      refine ⟨hx.1, ?_, fun r hr => ?_⟩
      · rcases hx.2.1 with (k | ⟨r2, k⟩) | k
        · exact k.2.1
        · obtain ⟨r3, h3, _⟩ := hfc r2 x k
          rcases (hR.own r3 x h3).1 with q | q
          · exact .inl (.inr q)
          · exact .inr q
        · exact .inr (Nat.le_trans hB k)
      · rcases hfn r x hr with ⟨t, rfl, h'⟩ | ⟨r', h', _⟩
        · rcases hx.2.1 with (k | k) | k
          · exact k.2.2 _ h'
          · exact hnK t x h' k
          · have := hlt t x h'; dsimp only at k; omega
        · exact hx.2.2 _ h'
    refine hk ch u w' μ' fn N' ⟨hR.len, hR.dfs, ⟨hR'.frm.os.trans hR.frm.os, hR'.frm.tape.trans hR.frm.tape, hR'.frm.output.trans hR.frm.output, Nat.le_trans hB hsz, fun b hb' hk' => ?_⟩, hR.jk, ?_, ?_, ?_, ?_, ?_, ?_, ?_, ?_, ?_, hR'.bH, ?_⟩
    · have hnk : ¬ ∃ r, b ∈ fc r := fun ⟨r, hr⟩ => by
        obtain ⟨r', h', _⟩ := hfc r b hr
        rcases (hR.own r' b h').1 with k | k
        · exact hk' k
        · omega
      exact (hR'.frm.same b (by show b < w.heap.size; omega) hnk).trans (hR.frm.same b hb' hk')
    · intro r x hx
      rcases hfn r x hx with ⟨t, rfl, h'⟩ | ⟨r', h', _⟩
      · have := hR.own _ x h'; exact ⟨this.1, Nat.lt_of_lt_of_le this.2 hsz⟩
      · have := hR'.own r' x h'
        refine ⟨?_, this.2⟩
        rcases this.1 with ⟨r2, k⟩ | k
        · obtain ⟨r3, h3, _⟩ := hfc r2 x k
          exact (hR.own r3 x h3).1
        · exact .inr (Nat.le_trans hB k)
    · intro r
      cases r with
      | slot t => exact hR.nod _
      | cell b i => exact hR'.nod _
      | blk b => exact hR'.nod _
      | bag => exact hR'.nod _
    · intro r r' x hx hy
      rcases hfn r x hx with ⟨t, rfl, h'⟩ | ⟨r1, h1', e1⟩ <;> rcases hfn r' x hy with ⟨t', rfl, h2'⟩ | ⟨r2, h2', e2⟩
      · exact hR.dis _ _ x h' h2'
      · exact (hout t x r2 h' h2').elim
      · exact (hout t' x r1 h2' h1').elim
      · have e := hR'.dis r1 r2 x h1' h2'
        rcases e1 with ⟨rfl, n1⟩ | ⟨rfl, rfl⟩ <;> rcases e2 with ⟨rfl, n2⟩ | ⟨rfl, rfl⟩
        · exact e
        · exact (n1 0 e).elim
        · exact (n2 0 e.symm).elim
        · rfl
    · intro t
      refine Rep.ren (N := N) (fun b hb' => hR'.rn.2 b hb') (hR.bT t) ?_
      exact Rep.mono him1 (fun x hx => hslot t x hx) (hR.tm t)
    · simp only [RepL]
      refine ⟨u, [], fp' (.slot 0), [], rfl, by simp [fn], ?_, rfl, rfl⟩
      have := hR'.tm 0
      exact Rep.mono (fun x hx => ⟨him2 x hx, rfl⟩) (fun _ _ => rfl) this
    · intro b cs hcs
      rcases hR'.hp b cs hcs with q | ⟨cells, q1, q2, q3, q4, q5⟩
      · exact .inl q
      · refine .inr ⟨cells, q1, q2, q3, fun i d hd => ?_, q5⟩
        obtain ⟨y, hy, hr⟩ := q4 i d hd
        exact ⟨y, hy, Rep.mono (fun x hx => ⟨him2 x hx, rfl⟩) (fun _ _ => rfl) hr⟩
    · intro b hb'; exact hR'.hn b hb'
    · intro t; exact bnd.mono hR'.rn.1 (hR.bT t)
    · simp only [bndL]
      have := hR'.bT 0
      exact ⟨this, trivial⟩
    · exact ⟨Nat.le_trans hR.rn.1 hR'.rn.1, fun b hb' => (hR'.rn.2 b (Nat.lt_of_lt_of_le hb' hR.rn.1)).trans (hR.rn.2 b hb')⟩
/-! cap; an append of zeros onto nothing -/
def opCap (vs : List D) (H : Hp) : Res :=
  match vs with
  | [.nil] => ⟨True, .int .i64 0, H, none⟩
  | [.sl _ _ _ _ c] => ⟨True, .int .i64 c, H, none⟩
  | _ => bad H
variable (P) in
def opCapT (t : Nat) (vs : List D) (H : Hp) : Res :=
  match P.underlying t with
  | some (.slice _) => opCap vs H
  | _ => bad H
theorem sound_capT {o : Oper} {vals : List D} {H : Hp} (x : Operand) (t : TypeId) (ho : o.op = .call { callee := .builtin .cap, args := #[x], argTypes := #[t] }) : Sound P o vals H (opCapT P t vals H) := by
  have hx : o.op.operands.toList = [x] := by rw [ho]; rfl
  have key : ∀ (d' : D) (n : Nat) (e : TypeId), P.underlying t = some (.slice e) → (∀ μ I w v f, Rep μ I w d' v f → ∃ A m, v = .slice A m n) → Sound P o [d'] H ⟨True, .int .i64 n, H, none⟩ := by
    intro d' n e hd hv
    refine .of rfl rfl fun μ I w a f N avals hr hav hn hb hp => ?_
    obtain rfl := one_eval hx hav
    obtain ⟨A, c, hv⟩ := hv μ I w _ f hr.one
    refine ⟨.int .i64 n, [], ?_, by simp [Rep], .nil, by simp, by simp [bnd]⟩
    simp [execOp, ho, resolve, invoke, builtin, Builtin.cap_, run_underlying hd, hv, goInt]
  unfold opCapT
  split
  · rename_i e hd
    unfold opCap
    split
    · refine key _ 0 e hd fun μ I w v f h => ?_
      simp only [Rep] at h
      obtain ⟨_, A, hv⟩ := h
      exact ⟨A, 0, hv⟩
    · refine key _ _ e hd fun μ I w v f h => ?_
      simp only [Rep] at h
      obtain ⟨_, _, _, ⟨A, hv⟩, _⟩ := h
      exact ⟨A, _, hv⟩
    · exact .bad P o _ H
  · exact .bad P o _ H
variable (P) in
def opAppZ (t tx : Nat) (n : Int) (H : Hp) : Res :=
  match τ P t, P.underlying tx with
  | some ⟨_, _, _, _, .slice e⟩, some (.int _) =>
    match τ P e with
    | some te => ⟨te.zero ≠ [] ∧ te.zero.all leaf = true ∧ te.zero.length = te.size ∧ 0 < te.size ∧ 1 ≤ n ∧ n ≤ 9223372036854775807 ∧ n.toNat * te.bytes ≤ 281474976710656, .fr te.size n.toNat (makeD te.zero (n.toNat * te.size)), H, none⟩
    | none => bad H
  | _, _ => bad H
theorem run_firstCells0 (size : Nat) (A : Option Addr) (w : World) : (Builtin.firstCells size 0 (.slice A 0 0)).run P w = .ok #[] w := by
  cases A <;> simp [Builtin.firstCells, loadCells, loadCellsFrom]
theorem sound_appZ {o : Oper} {H : Hp} (t tx : TypeId) (x y : Operand) (k : IntKind) (n : Int) (ho : o.op = .call { callee := .builtin .append, args := #[x, y], argTypes := #[t, tx] }) : Sound P o [.nil, .int k n] H (opAppZ P t tx n H) := by
  have hx : o.op.operands.toList = [x, y] := by rw [ho]; rfl
  unfold opAppZ
  split
  case h_2 => exact .bad P o _ H
  rename_i e kn ht htx
  split
  case h_2 => exact .bad P o _ H
  rename_i te he
  refine .ofNew rfl rfl fun μ I w a f N avals hr hav hn hb hpre hI hf => ?_
  rw [hx] at hav; subst hav
  obtain ⟨f1, f2, rfl, r1, r2⟩ := RepL.two hr
  simp only [Rep] at r1 r2
  obtain ⟨_, A, hv⟩ := r1
  obtain ⟨hz, hall, hzl, p0, p1, p2, p3⟩ := hpre
  obtain ⟨z, h1, ⟨i, hi, hzi, h4, h5⟩, h2⟩ := zero_spec he hz
  obtain ⟨_, _, _, _, hu, _⟩ := τ_spec ht
  obtain ⟨m, rfl⟩ : ∃ m : Nat, n = m := ⟨n.toNat, by omega⟩
  simp only [Int.toNat_natCast] at p3 ⊢
  have hm0 : 0 < m := by omega
  have hzc : z.cells.size = te.size := by have := congrArg List.length h2; simp at this; omega
  have hrun : (Builtin.append_ #[t, tx] o.type #[.slice A 0 0, .int k m]).run P w =
      .ok (.slice (some ⟨w.heap.size, 0, none⟩) m (grownCap w m 0 e)) (w.drew.alloc (.cells (Builtin.zeroCells z.cells m ++ Builtin.zeroCells z.cells (grownCap w m 0 e - m)) e)) := by
    have hn : m ≠ 0 := by omega
    have hw : IntKind.i64.wrap (m : Int) = m := by rw [IntKind.wrap_i64]; omega
    have h63' : ¬ (9223372036854775807 < (m : Int)) := by omega
    have h48' : ¬ (281474976710656 < Builtin.nextslicecap m 0 * i.bytes) := by rw [nextslicecap_zero hm0, h5]; omega
    have h48i : ¬ (281474976710656 < (m : Int) * (i.bytes : Int)) := by
      rw [← Int.natCast_mul, h5]
      omega
    have hneg : ¬ ((m : Int) < 0) := by omega
    have hns : ¬ (m * i.size = 0) := Nat.mul_ne_zero hn (by rw [h4]; omega)
    simp [Builtin.append_, run_underlying hu, run_underlying htx, sizeOf, typeInfo, zeroValue, hi, hzi, asInt, asIntOf, hw, hn, hneg, hns, h63', h48', h48i, Question.forced, run_firstCells0, newRow, grownCap]
  have hmc : ∀ q, Builtin.zeroCells z.cells q = madeCells z.cells (q * te.size) := fun q => by unfold Builtin.zeroCells madeCells; rw [hzc]
  have hge := grownCap_ge w m 0 e
  refine ⟨_, _, [w.heap.size], by simp [execOp, ho, resolve, invoke, builtin, hv, r2.2, hrun]; exact ⟨rfl, rfl⟩, Frm.trans0 (Frm.drew w) (Frm.alloc _ _), ?_, by simp, by simp, ?_⟩
  · have hsz : w.drew.heap.size = w.heap.size := rfl
    have := fr_new (μ := μ) (I := fun x => I x ∨ (w.heap.size ≤ x ∧ x < (w.drew.alloc (.cells (Builtin.zeroCells z.cells m ++ Builtin.zeroCells z.cells (grownCap w m 0 e - m)) e)).heap.size ∧ x ∉ [w.heap.size])) (w := w.drew) (sz := te.size) (n := m) (c := grownCap w m 0 e) (ds := makeD te.zero (m * te.size)) (cells := Builtin.zeroCells z.cells m ++ Builtin.zeroCells z.cells (grownCap w m 0 e - m)) (f := []) e (by unfold maxLen; omega) (makeD_length _ _) hge (by simp [hmc, size_madeCells]; rw [← Nat.add_mul]; exact Nat.mul_le_mul_right _ (by omega))
      (by intro v hv; simp only [Array.toList_append, List.mem_append, hmc] at hv; rcases hv with hv | hv <;> exact made_one h2 hz hall _ v hv)
      (by
        rw [makeD_length, Array.toList_append, List.take_append_of_le_length (by simp [hmc, size_madeCells]), List.take_of_length_le (by simp [hmc, size_madeCells]), hmc]
        exact made_rep h2 hz _)
    rw [hsz] at this
    exact this
  · simp only [bnd]; exact bndL_makeD (by rw [h2]; exact bndL_leafD _ _) _
end
end Go.Proofs.Ytljncoikoffijaa.Vm


/-
  One operation of a region, and a region walked in the text's order, at abstract states. No conditions; nothing of the program is named here.
-/
namespace Go.Proofs.Ytljncoikoffijaa.Vm
open Go
set_option linter.unusedVariables false
set_option linter.unusedSimpArgs false
set_option linter.unusedSectionVars false

section
variable (P : Program) (Γ : FuncId → Con)
def opLenT (t : Nat) (vs : List D) (H : Hp) : Res :=
  match P.underlying t with
  | some .string => match vs with
    | [.str s] => opLen [.str s] H
    | _ => bad H
  | some (.slice _) => match vs with
    | [.str _] => bad H
    | vs => opLen vs H
  | _ => bad H
def opIndexT (t : Nat) (vs : List D) (H : Hp) : Res :=
  match P.underlying t with
  | some .string => opIndex vs H
  | _ => bad H
/-- Whether an append may take a named block with it ('dr': no, in a region whose order is drawn). -/
def opAppendT (dr : Bool) (t tx : Nat) (vs : List D) (H : Hp) : Res :=
  match dr, vs with
  | true, .sl .. :: _ => bad H
  | false, [.nil, .int _ n] => opAppZ P t tx n H
  | _, vs => opAppend P t tx vs H
/-- Elements of one cell copied into a named block. -/
def opCopy (t tx : Nat) (vs : List D) (H : Hp) : Res :=
  match τ P t, vs with
  | some ⟨_, _, _, _, .slice e⟩, [.sl b _ o n _, s] =>
    match τ P e, H b, srcD H 1 s with
    | some te, some cs, some (k, ys) => ⟨te.size = 1 ∧ (∃ e', P.underlying tx = some (.slice e')) ∧ owns s = false ∧ isStr s = false ∧ ys.length = k ∧ ownsL ys = false ∧ o + min k n ≤ cs.length,
        .int .i64 (min k n : Nat), upd H b (some (stSeg cs o (ys.take (min k n)))), none⟩
    | _, _, _ => bad H
  | _, _ => bad H
def opCallT (ch : Any) (dr : Bool) (c : Call) (vs : List D) (H : Hp) : Res :=
  match c.callee, c.args.toList, c.argTypes.toList with
  | .builtin .len, [_], [t] => opLenT P t vs H
  | .builtin .append, [_, _], [t, tx] => opAppendT P dr t tx vs H
  | .builtin .cap, [_], [t] => opCapT P t vs H
  | .builtin .copy, [_, _], [t, tx] => opCopy P t tx vs H
  | .value _, _, _ => opCall Γ ch vs H
  | _, _, _ => bad H
def opLoadT (dr : Bool) (t : Nat) (vs : List D) (H : Hp) : Res :=
  match dr with
  | true => opLoad P t vs H
  | false => opLoadM P t vs H
def opF (ch : Any) (dr : Bool) (o : Oper) (vs : List D) (H : Hp) : Res :=
  match o.op with
  | .move _ => match vs with
    | [d] => ⟨True, d, H, none⟩
    | _ => bad H
  | .assign _ => match vs with
    | [d] => ⟨True, d, H, none⟩
    | _ => bad H
  | .pick _ _ _ => match vs with
    | [.bool b, d, e] => ⟨True, pickD b d e, H, none⟩
    | _ => bad H
  | .alloc t => opAlloc P t vs H
  | .box _ _ => opBox vs H
  | .build t parts => opBuild P t (parts.toList.map (·.1)) vs H
  | .buildSlice t len parts => opBuildSlice P t len (parts.toList.map (·.1)) vs H
  | .load t _ => opLoadT P dr t vs H
  | .store t _ _ => opStore P t vs H
  | .nilCheck _ => opNil vs H
  | .binOp op t _ y _ => opBin P op t y vs H
  | .unOp op _ _ => opUn op vs H
  | .convert s t _ => opConvert P s t vs H
  | .makeFunc fn first _ => opMakeFunc fn first vs H
  | .makeSlice t _ _ => opMakeSlice P t vs H
  | .slice t _ lo hi mx => opSlice P t lo hi mx vs H
  | .fieldAddr s _ f => opFieldAddr P s f vs H
  | .field s _ f => opField P s f vs H
  | .indexAddr t _ _ => opIndexAddr P t vs H
  | .index t _ _ => opIndexT P t vs H
  | .extract _ i => opExtract i vs H
  | .call c => opCallT P Γ ch dr c vs H
  | _ => bad H
variable {P Γ}
theorem arr1 {α : Type} {a : Array α} {x : α} (h : a.toList = [x]) : a = #[x] := by apply Array.ext'; simpa using h
theorem arr2 {α : Type} {a : Array α} {x y : α} (h : a.toList = [x, y]) : a = #[x, y] := by apply Array.ext'; simpa using h
theorem sound_lenT {o : Oper} {vals : List D} {H : Hp} (x : Operand) (t : TypeId) (ho : o.op = .call { callee := .builtin .len, args := #[x], argTypes := #[t] }) : Sound P o vals H (opLenT P t vals H) := by
  unfold opLenT
  split
  · rename_i hu
    split
    · exact sound_len x t _ ho hu (.inl rfl) (fun _ => ⟨_, rfl⟩) (fun _ => rfl)
    · exact .bad P o _ H
  · rename_i e hu
    split
    · exact .bad P o _ H
    · rename_i hn
      exact sound_len x t _ ho hu (.inr ⟨e, rfl⟩) (fun h => by cases h) (fun ⟨s, h⟩ => (hn s h).elim)
  · exact .bad P o _ H
theorem cut_src {H : Hp} {s : D} {k : Nat} {ys : List D} (hs : srcD H 1 s = some (k, ys)) (ho : owns s = false) (hi : isStr s = false) (hl : ys.length = k) {m : Nat} (hm : m ≤ k) :
    ∃ s', srcD H 1 s' = some (m, ys.take m) ∧ owns s' = false ∧ isStr s' = false ∧ (∀ N, bnd N s → bnd N s') ∧ ∀ μ I w u, Rep μ I w s u [] → ∃ A c, u = .slice A k c ∧ Rep μ I w s' (.slice A m c) [] := by
  cases s <;> simp only [srcD] at hs <;> (try (cases hs; done)) <;> (try (simp [owns] at ho; done)) <;> (try (simp [isStr] at hi; done))
  · cases hs
    obtain rfl : m = 0 := by omega
    refine ⟨.nil, by simp [srcD], rfl, rfl, fun _ h => h, fun μ I w u h => ?_⟩
    simp only [Rep] at h
    obtain ⟨_, A, hv⟩ := h
    exact ⟨A, 0, hv, by simp only [Rep]; exact ⟨trivial, A, rfl⟩⟩
  · rename_i n cs
    cases hs
    refine ⟨.list m (ys.take m), rfl, rfl, rfl, fun N h => by simp only [bnd] at h ⊢; exact bndL_take h _, fun μ I w u h => ?_⟩
    simp only [Rep] at h
    obtain ⟨_, hmax, A, c, vs, hv, hmc, hA, hrep⟩ := h
    refine ⟨A, c, hv, ?_⟩
    simp only [Rep]
    refine ⟨trivial, by omega, A, c, vs.take m, rfl, by omega, ?_, hrep.take m⟩
    rcases hA with h | ⟨b, i, h1, h2, h3⟩
    · subst h; left; simp
    · exact .inr ⟨b, i, h1, h2, h3.take m⟩
  · rename_i b sz i n c
    split at hs
    · rename_i all hall
      cases hs
      refine ⟨.sl b sz i m c, ?_, rfl, rfl, fun N h => by simp only [bnd] at h ⊢; exact h, fun μ I w u h => ?_⟩
      · simp only [srcD, hall, Nat.mul_one, List.take_take]
        rw [Nat.min_eq_left hm]
      · simp only [Rep] at h
        obtain ⟨_, hmc, hmax, ⟨A, hA⟩, hv⟩ := h
        subst hA
        refine ⟨A, c, rfl, ?_⟩
        simp only [Rep]
        refine ⟨trivial, by omega, by omega, ⟨A, rfl⟩, ?_⟩
        rcases hv with h | h
        · exact .inl h
        · right; cases h; rfl
    · cases hs
theorem sound_copy {o : Oper} {vals : List D} {H : Hp} (t tx : TypeId) (x y : Operand) (ho : o.op = .call { callee := .builtin .copy, args := #[x, y], argTypes := #[t, tx] }) : Sound P o vals H (opCopy P t tx vals H) := by
  have hx : o.op.operands.toList = [x, y] := by rw [ho]; rfl
  unfold opCopy
  split
  case h_2 => exact .bad P o _ H
  rename_i size bytes agg zero e b sz q n c s ht
  split
  case h_2 => exact .bad P o _ H
  rename_i te cs k ys he hc hs
  intro B nn T a w μ fp N avals hR hav hpre next Q hk
  rw [hx] at hav; subst hav
  obtain ⟨p1, ⟨e', p2⟩, p3, p4, p5, p6, p7⟩ := hpre
  obtain ⟨f1, f2, hf, r1, r2⟩ := RepL.two hR.bg
  have : f2 = [] := r2.free p3
  subst this
  have hb := hR.bB
  simp only [bndL] at hb
  have h1 := r1
  simp only [Rep] at h1
  obtain ⟨rfl, _, _, ⟨A, hA⟩, hd⟩ := h1
  obtain ⟨s', s1, s2, s3, s4, s5⟩ := cut_src hs p3 p4 p5 (m := min k n) (Nat.min_le_left ..)
  obtain ⟨A2, c2, hu, hr2⟩ := s5 _ _ _ _ r2
  have hl2 : (ys.take (min k n)).length = min k n := by rw [List.length_take, p5]; omega
  have hown : ∀ (n : Nat) (l : List D), ownsL l = false → ownsL (l.take n) = false := by
    intro n l
    induction l generalizing n with
    | nil => intro _; simp [ownsL]
    | cons z zs ih =>
      intro h
      cases n with
      | zero => simp [ownsL]
      | succ n => simp only [List.take_succ_cons, ownsL, Bool.or_eq_false_iff] at h ⊢; exact ⟨h.1, ih n h.2⟩
  obtain ⟨news, g, q1, q2, q3, q4, q5⟩ := src_spec (P := P) (size := 1) (by omega) hR hr2 (tx := tx) (e' := e') (by rw [s3]; exact p2) s1 (by rw [hl2, Nat.mul_one]) (fun _ => hown _ _ p6) (s4 N hb.2.1)
  have : g = [] := List.eq_nil_iff_forall_not_mem.2 fun z hz => by cases q3 z hz
  subst this
  have hR1 : R B nn ⟨T, H⟩ (ys.take (min k n)) news a w μ fp N := { hR with bg := by rw [hf]; simpa using q2, bB := q5 }
  obtain ⟨_, _, _, _, hut, _⟩ := τ_spec ht
  have hfc : (Builtin.firstCells 1 (Nat.min k n) (.slice A2 k c2)).run P w = .ok news.toArray w := by
    have := q1.cells
    cases A2 <;> simpa [Builtin.firstCells] using this
  obtain ⟨fp', w', h2, h3⟩ := R.storeL (P := P) (i := q) hR1 hc (by rw [hl2]; exact p7) q1.one 0 q (by omega)
  have hst : ∀ A', A = some A' → (storeCells A' news).run P w = .ok () w' := by
    rintro A' rfl
    rcases hd with h | h
    · have : news = [] := List.eq_nil_of_length_eq_zero (by rw [q1.newsLen]; omega)
      subst this
      simpa [storeCells] using h3
    · rw [hA] at h; cases h; exact h3
  have hno : A = none → w' = w := by
    rintro rfl
    rcases hd with h | h
    · have : news = [] := List.eq_nil_of_length_eq_zero (by rw [q1.newsLen]; omega)
      subst this
      have := h3
      simp [storeCells] at this
      exact this.symm
    · rw [hA] at h; cases h
  have hrun : (execOp a.eval o).run P w = .ok (.value (.int .i64 (min k n : Nat))) w' := by
    cases A with
    | none =>
      have e1 := hno rfl
      subst e1
      simp [execOp, ho, resolve, invoke, builtin, Builtin.copy_, run_underlying hut, hA, hu, Builtin.lenOf, run_size he, p1, hfc, goInt]
    | some A' =>
      simp [execOp, ho, resolve, invoke, builtin, Builtin.copy_, run_underlying hut, hA, hu, Builtin.lenOf, run_size he, p1, hfc, goInt, hst A' rfl]
  unfold Oper.wp
  rw [hrun]
  obtain ⟨fp2, h4⟩ := h2.res0 (d := .int .i64 (min k n : Nat)) (v := .int .i64 (min k n : Nat)) (by simp [Rep]) (by simp [bnd])
  exact hk _ w' μ fp2 N h4
def isVal : Op → Bool
  | .call { callee := .value _, .. } => true
  | _ => false
theorem sound_opF0 (ch : Any) (dr : Bool) (o : Oper) (hv : isVal o.op = false) (vals : List D) (H : Hp) : Sound P o vals H (opF P Γ ch dr o vals H) := by
  unfold opF
  split <;> rename_i ho
  · split
    · exact sound_move _ (.inl ho) _
    · exact .bad P o _ H
  · split
    · exact sound_move _ (.inr ho) _
    · exact .bad P o _ H
  · split
    · exact sound_pick _ _ _ ho _ _ _
    · exact .bad P o _ H
  · exact sound_alloc _ ho
  · exact sound_box _ _ ho
  · exact sound_build _ _ ho
  · exact sound_buildSlice _ _ _ ho
  · unfold opLoadT; split
    · exact sound_load _ _ ho
    · exact sound_loadM _ _ ho
  · exact sound_store _ _ _ ho
  · exact sound_nil _ ho
  · exact sound_bin _ _ _ _ _ ho
  · exact sound_un _ _ _ ho
  · exact sound_convert _ _ _ ho
  · exact sound_makeFunc _ _ _ ho
  · exact sound_makeSlice _ _ _ ho
  · exact sound_slice _ _ _ _ _ ho
  · exact sound_fieldAddr _ _ _ ho
  · exact sound_field _ _ _ ho
  · exact sound_indexAddr _ _ _ ho
  · unfold opIndexT
    split
    · rename_i hu; exact sound_index _ _ _ ho hu
    · exact .bad P o _ H
  · exact sound_extract _ _ ho
  · rename_i c
    unfold opCallT
    split
    · rename_i x t h1 h2 h3
      refine sound_lenT x t ?_
      obtain ⟨c1, c2, c3⟩ := c
      dsimp only at h1 h2 h3
      rw [ho, h1, arr1 h2, arr1 h3]
    · rename_i x y t tx h1 h2 h3
      unfold opAppendT
      split
      · exact .bad P o _ H
      · refine sound_appZ t tx x y _ _ ?_
        obtain ⟨c1, c2, c3⟩ := c
        dsimp only at h1 h2 h3
        rw [ho, h1, arr2 h2, arr2 h3]
      · refine sound_append t tx x y ?_
        obtain ⟨c1, c2, c3⟩ := c
        dsimp only at h1 h2 h3
        rw [ho, h1, arr2 h2, arr2 h3]
    · rename_i x t h1 h2 h3
      refine sound_capT x t ?_
      obtain ⟨c1, c2, c3⟩ := c
      dsimp only at h1 h2 h3
      rw [ho, h1, arr1 h2, arr1 h3]
    · rename_i x y t tx h1 h2 h3
      refine sound_copy t tx x y ?_
      obtain ⟨c1, c2, c3⟩ := c
      dsimp only at h1 h2 h3
      rw [ho, h1, arr2 h2, arr2 h3]
    · rename_i g h1
      obtain ⟨c1, c2, c3⟩ := c
      dsimp only at h1
      subst h1
      rw [ho] at hv
      simp [isVal] at hv
    · exact .bad P o _ H
  · exact .bad P o _ H
theorem opF_const (ch ch' : Any) (dr : Bool) (o : Oper) (hv : isVal o.op = false) (vals : List D) (H : Hp) : opF P Γ ch dr o vals H = opF P Γ ch' dr o vals H := by
  unfold opF
  cases ho : o.op with
  | call c =>
    rw [ho] at hv
    dsimp only
    unfold opCallT
    obtain ⟨c1, c2, c3⟩ := c
    cases c1 with
    | value g => simp [isVal] at hv
    | builtin b =>
      dsimp only
      generalize c2.toList = l2
      generalize c3.toList = l3
      cases b <;> (first | rfl | (rcases l2 with _ | ⟨_, _ | ⟨_, _ | ⟨_, _⟩⟩⟩ <;> rcases l3 with _ | ⟨_, _ | ⟨_, _ | ⟨_, _⟩⟩⟩ <;> rfl))
    | _ => rfl
  | _ => rfl
theorem sound_opF (hΓ : ∀ f, ConOk P f (Γ f)) (dr : Bool) (o : Oper) (vals : List D) (H : Hp) : SoundC P o vals H (fun ch => opF P Γ ch dr o vals H) := by
  cases hv : isVal o.op with
  | false =>
    have e : (fun ch => opF P Γ ch dr o vals H) = fun _ => opF P Γ ⟨Unit, ()⟩ dr o vals H := funext fun ch => opF_const ch _ dr o hv vals H
    rw [e]
    exact (sound_opF0 _ dr o hv vals H).c
  | true =>
    cases ho : o.op with
    | call c =>
      obtain ⟨c1, c2, c3⟩ := c
      cases c1 with
      | value g =>
        have e : (fun ch => opF P Γ ch dr o vals H) = fun ch => opCall Γ ch vals H := funext fun ch => by unfold opF; rw [ho]; unfold opCallT; dsimp only
        rw [e]
        exact sound_call hΓ g c2 c3 ho
      | _ => rw [ho] at hv; simp [isVal] at hv
    | _ => rw [ho] at hv; simp [isVal] at hv

/-! ### One operation at a state -/
/-- What an operand reads, without taking it. -/
def look (T : Nat → D) : Operand → D
  | .tmp t => match T t with
    | .fr _ n _ => .list n []
    | d => if owns d then .any else d
  | .const v => cst v
  | .func f => .fn f []
  | .global _ => .any
def grabs (T : Nat → D) : List Operand → List D × (Nat → D)
  | [] => ([], T)
  | .tmp t :: xs => (T t :: (grabs (grab T t) xs).1, (grabs (grab T t) xs).2)
  | .const v :: xs => (cst v :: (grabs T xs).1, (grabs T xs).2)
  | .func f :: xs => (.fn f [] :: (grabs T xs).1, (grabs T xs).2)
  | .global _ :: xs => (.any :: (grabs T xs).1, (grabs T xs).2)
def isLen : Op → Bool
  | .call { callee := .builtin .len, .. } => true
  | _ => false
def taken (T : Nat → D) (op : Op) : List D × (Nat → D) := if isLen op then (op.operands.toList.map (look T), T) else grabs T op.operands.toList
def putD (dst : Option Nat) (d : D) (T : Nat → D) : Nat → D :=
  match dst with
  | some t => upd T t d
  | none => T
def backT (op : Op) (b : Option D) (T : Nat → D) : Nat → D :=
  match b, op.operands.toList with
  | some d, .tmp t :: _ => upd T t d
  | _, _ => T
def backOk (op : Op) (dst : Option Nat) (b : Option D) : Prop :=
  match b, op.operands.toList with
  | some _, .tmp t :: _ => dst ≠ some t
  | _, _ => True
variable (P Γ) in
def step (ch : Any) (dr : Bool) (o : Oper) (S : St) : Prop × St :=
  let v := taken S.T o.op
  let r := opF P Γ ch dr o v.1 S.H
  (r.pre ∧ backOk o.op o.dst r.back, ⟨putD o.dst r.val (backT o.op r.back v.2), r.H⟩)
section
variable {B : Base} {n : Nat} {a : Act} {w : World} {μ : Nat → Nat}
theorem R.look {S : St} {ds : List D} {vs : List Value} {fp : Root → List Nat} {N : Nat} (h : R B n S ds vs a w μ fp N) (x : Operand) : Rep μ (Im B w fp) w (look S.T x) (a.eval x) [] ∧ bnd N (look S.T x) := by
  cases x with
  | tmp t =>
    have h1 := h.tm t
    have h2 := h.bT t
    simp only [Vm.look, Act.eval]
    split
    · rename_i sz m cs ht
      rw [ht] at h1 h2
      simp only [Rep] at h1 ⊢
      obtain ⟨h3, h4, h5⟩ := h1
      refine ⟨?_, by simp [bnd, bndL]⟩
      rcases h5 with ⟨rfl, _, A, hv⟩ | ⟨b, c, _, _, _, hv, hc, _⟩
      · exact ⟨trivial, h3, A, 0, [], hv, by simp, .inl trivial, by simp [RepL]⟩
      · exact ⟨trivial, h3, _, c, [], hv, hc, .inl trivial, by simp [RepL]⟩
    · by_cases ho : owns (S.T t) = true
      · simp [ho, Rep, bnd]
      · have ho : owns (S.T t) = false := by simpa using ho
        have := h1.free ho
        rw [this] at h1
        simp only [ho, Bool.false_eq_true, if_false]
        exact ⟨h1, h2⟩
  | const v => exact ⟨Rep.cst .., bnd_cst ..⟩
  | func f => exact ⟨by simp [Vm.look, Act.eval, Rep, RepL], by simp [Vm.look, bnd, bndL]⟩
  | global g => exact ⟨by simp [Vm.look, Rep], by simp [Vm.look, bnd]⟩
theorem R.looks : ∀ {xs : List Operand} {S : St} {ds : List D} {vs : List Value} {fp : Root → List Nat} {N : Nat}, R B n S ds vs a w μ fp N → R B n S (ds ++ xs.map (Vm.look S.T)) (vs ++ xs.map a.eval) a w μ fp N
  | [], S, ds, vs, fp, N, h => by simpa using h
  | x :: xs, S, ds, vs, fp, N, h => by
    have h1 := h.join (h.look x).1 (h.look x).2
    have := R.looks (xs := xs) h1
    simpa using this
theorem R.grabs : ∀ {xs : List Operand} {T : Nat → D} {H : Hp} {ds : List D} {vs : List Value} {fp : Root → List Nat} {N : Nat}, R B n ⟨T, H⟩ ds vs a w μ fp N → ∃ fp', R B n ⟨(Vm.grabs T xs).2, H⟩ (ds ++ (Vm.grabs T xs).1) (vs ++ xs.map a.eval) a w μ fp' N
  | [], T, H, ds, vs, fp, N, h => ⟨fp, by simpa [Vm.grabs] using h⟩
  | .tmp t :: xs, T, H, ds, vs, fp, N, h => by
    obtain ⟨fp1, h1⟩ := h.grab t
    obtain ⟨fp2, h2⟩ := R.grabs (xs := xs) h1
    exact ⟨fp2, by simpa [Vm.grabs, Act.eval] using h2⟩
  | .const v :: xs, T, H, ds, vs, fp, N, h => by
    obtain ⟨fp2, h2⟩ := R.grabs (xs := xs) (h.join (Rep.cst _ _ _ v) (bnd_cst _ v))
    exact ⟨fp2, by simpa [Vm.grabs, Act.eval] using h2⟩
  | .func f :: xs, T, H, ds, vs, fp, N, h => by
    obtain ⟨fp2, h2⟩ := R.grabs (xs := xs) (h.join (d := .fn f []) (v := .func (.func f) #[] #[]) (by simp [Rep, RepL]) (by simp [bnd, bndL]))
    exact ⟨fp2, by simpa [Vm.grabs, Act.eval] using h2⟩
  | .global g :: xs, T, H, ds, vs, fp, N, h => by
    obtain ⟨fp2, h2⟩ := R.grabs (xs := xs) (h.join (d := .any) (v := .pointer (some ⟨g, 0, none⟩)) (by simp [Rep]) (by simp [bnd]))
    exact ⟨fp2, by simpa [Vm.grabs, Act.eval] using h2⟩
theorem R.taken {S : St} {fp : Root → List Nat} {N : Nat} (h : R B n S [] [] a w μ fp N) (op : Op) : ∃ fp', R B n ⟨(Vm.taken S.T op).2, S.H⟩ (Vm.taken S.T op).1 (op.operands.toList.map a.eval) a w μ fp' N := by
  unfold Vm.taken
  split
  · exact ⟨fp, by simpa using R.looks (xs := op.operands.toList) h⟩
  · obtain ⟨fp', h'⟩ := R.grabs (xs := op.operands.toList) (T := S.T) (H := S.H) h
    exact ⟨fp', by simpa using h'⟩
theorem step_sound (hΓ : ∀ f, ConOk P f (Γ f)) {dr : Bool} {o : Oper} {S : St} {fp : Root → List Nat} {N : Nat} (h : R B n S [] [] a w μ fp N) {c0 : Any} (hp : (step P Γ c0 dr o S).1) (hd : ∀ t, o.dst = some t → t < n) {next : Act → World → Prop} {Q : Exit → Act → World → Prop}
    (hp2 : ∀ ch, backOk o.op o.dst (opF P Γ ch dr o (taken S.T o.op).1 S.H).back) (hk : ∀ ch a' w' μ' fp' N', R B n (step P Γ ch dr o S).2 [] [] a' w' μ' fp' N' → next a' w') : o.wp P a w next Q := by
  obtain ⟨fp1, h1⟩ := h.taken o.op
  obtain ⟨hp1, _⟩ := hp
  refine sound_opF hΓ dr o _ _ c0 B n _ a w μ fp1 N _ h1 rfl hp1 next Q fun ch v w' μ' fp' N' h2 => ?_
  suffices hx : ∃ fp'' N'', R B n (step P Γ ch dr o S).2 [] [] (a.put o.dst v) w' μ' fp'' N'' by
    obtain ⟨fp'', N'', hR⟩ := hx
    exact hk ch _ w' μ' fp'' N'' hR
  have hp2 := hp2 ch
  revert h2; revert hp2
  simp only [step]
  generalize opF P Γ ch dr o (Vm.taken S.T o.op).1 S.H = r
  intro hp2 h2
  -- the result is put
  have put : ∀ {S' : St} {ds : List D} {vs : List Value} {fp : Root → List Nat}, R B n S' (r.val :: ds) (v :: vs) a w' μ' fp N' → ∃ fp', R B n ⟨putD o.dst r.val S'.T, S'.H⟩ ds vs (a.put o.dst v) w' μ' fp' N' := by
    intro S' ds vs fp h
    cases hdst : o.dst with
    | none => obtain ⟨fp', h'⟩ := h.unbag; exact ⟨fp', h'⟩
    | some t => exact h.put (hd t hdst)
  cases hb : r.back with
  | none =>
    rw [hb] at h2
    obtain ⟨fp', h'⟩ := put h2
    refine ⟨fp', N', ?_⟩
    have e : backT o.op none (Vm.taken S.T o.op).2 = (Vm.taken S.T o.op).2 := by unfold backT; rfl
    rw [e]
    exact h'
  | some d =>
    rw [hb] at h2 hp2
    obtain ⟨fp2, h3⟩ := put h2
    simp only [List.map_cons, List.map_nil, Option.toList] at h3
    cases hop : o.op.operands.toList with
    | nil =>
      obtain ⟨fp', h'⟩ := h3.unbag
      refine ⟨fp', N', ?_⟩
      have e : backT o.op (some d) (Vm.taken S.T o.op).2 = (Vm.taken S.T o.op).2 := by unfold backT; rw [hop]
      rw [e]
      exact h'
    | cons x xs =>
      cases x with
      | tmp t =>
        have e : backT o.op (some d) (Vm.taken S.T o.op).2 = upd (Vm.taken S.T o.op).2 t d := by unfold backT; rw [hop]
        have hne : o.dst ≠ some t := by unfold backOk at hp2; rw [hop] at hp2; exact hp2
        rw [e]
        have hval : (o.op.operands.toList.map a.eval).headD undef = (a.put o.dst v).tmps.getD t undef := by
          rw [hop]
          simp only [List.map_cons, List.headD_cons, Act.eval]
          cases hdst : o.dst with
          | none => rfl
          | some t' =>
            simp only [Act.put]
            rw [Array.getD_eq_getD_getElem?, Array.getD_eq_getD_getElem?, Array.getElem?_setIfInBounds, if_neg]
            rintro rfl
            exact hne hdst
        rw [hval] at h3
        obtain ⟨fp', h'⟩ := h3.putback
        refine ⟨fp', N', ?_⟩
        have e2 : putD o.dst r.val (upd (Vm.taken S.T o.op).2 t d) = upd (putD o.dst r.val (Vm.taken S.T o.op).2) t d := by
          cases hdst : o.dst with
          | none => rfl
          | some t' =>
            funext y
            simp only [putD, upd]
            by_cases e1 : y = t' <;> by_cases e2 : y = t <;> simp [e1, e2]
            · subst e1; subst e2; exact (hne hdst).elim
            · intro e3; subst e3; subst e1; exact (e2 rfl).elim
            · intro e3; subst e3; subst e2; exact (hne hdst).elim
        rw [e2]
        exact h'
      | _ =>
        obtain ⟨fp', h'⟩ := h3.unbag
        refine ⟨fp', N', ?_⟩
        have e : backT o.op (some d) (Vm.taken S.T o.op).2 = (Vm.taken S.T o.op).2 := by unfold backT; rw [hop]
        rw [e]
        exact h'

/-! ### Guards -/
/-- What stands in a slot that an operation passed over. -/
def skipped : D := .tup []
def guardD (ops : Array Oper) (o : Oper) (T : Nat → D) : Option Bool :=
  match o.guard with
  | none => some true
  | some (j, want) => match ops[j]? with
    | some oj => match oj.dst with
      | some d => match T d with
        | .bool b => some (b == want)
        | .tup [] => some false
        | _ => none
      | none => none
    | none => none
variable (P Γ) in
/-- An operation in its region, its guard asked first. -/
def stepG (ch : Any) (dr : Bool) (ops : Array Oper) (o : Oper) (S : St) : Prop × St :=
  match guardD ops o S.T with
  | none => (False, S)
  | some false => (True, ⟨putD o.dst skipped S.T, S.H⟩)
  | some true => step P Γ ch dr o S
theorem guard_wanted {ops : Array Oper} {o : Oper} {S : St} {fp : Root → List Nat} {N : Nat} (h : R B n S [] [] a w μ fp N) {b : Bool} (hg : guardD ops o S.T = some b) (hd : ∀ (j : Nat) oj t, ops[j]? = some oj → oj.dst = some t → t < n) : Region.wanted o (yielded ops a.tmps) = b := by
  unfold guardD at hg
  unfold Region.wanted
  cases hgd : o.guard with
  | none => rw [hgd] at hg; cases hg; rfl
  | some jw =>
    obtain ⟨j, want⟩ := jw
    rw [hgd] at hg
    dsimp only at hg ⊢
    cases hj : ops[j]? with
    | none => rw [hj] at hg; cases hg
    | some oj =>
      rw [hj] at hg
      dsimp only at hg
      cases hdst : oj.dst with
      | none => rw [hdst] at hg; cases hg
      | some t =>
        rw [hdst] at hg
        dsimp only at hg
        have ht := hd j oj t hj hdst
        have hv := h.tm t
        have hy : yielded ops a.tmps j = match a.tmps.getD t undef with
          | .bool b => some b
          | _ => none := by
          unfold yielded
          rw [hj]
          simp only [Option.bind_some, hdst]
          rw [Array.getD_eq_getD_getElem?, Array.getElem?_eq_getElem (by rw [h.len]; exact ht)]
          simp only [Option.getD_some]
          split <;> simp_all
        rw [hy]
        split at hg
        · rename_i b' hb'
          rw [hb'] at hv
          simp only [Rep] at hv
          rw [hv.2]
          cases hg
          cases b' <;> cases want <;> rfl
        · rename_i hb'
          rw [hb'] at hv
          simp only [Rep] at hv
          obtain ⟨us, hv, hu⟩ := hv
          rw [hv]
          cases hg
          rfl
        · cases hg
theorem back_const (ch ch' : Any) (dr : Bool) (o : Oper) (vals : List D) (H : Hp) : (opF P Γ ch dr o vals H).back = (opF P Γ ch' dr o vals H).back := by
  cases hv : isVal o.op with
  | false => rw [opF_const ch ch' dr o hv]
  | true =>
    cases ho : o.op with
    | call c =>
      obtain ⟨c1, c2, c3⟩ := c
      cases c1 with
      | value g =>
        have e : ∀ ch, (opF P Γ ch dr o vals H).back = none := fun ch => by
          unfold opF; rw [ho]; unfold opCallT; dsimp only; unfold opCall
          split
          · split <;> rfl
          · rfl
        rw [e, e]
      | _ => rw [ho] at hv; simp [isVal] at hv
    | _ => rw [ho] at hv; simp [isVal] at hv
theorem wpOp_stepG (hΓ : ∀ f, ConOk P f (Γ f)) {dr : Bool} {ops : Array Oper} {i : Nat} {o : Oper} (ho : ops[i]? = some o) {S : St} {fp : Root → List Nat} {N : Nat} (h : R B n S [] [] a w μ fp N) {c0 : Any} (hp : (stepG P Γ c0 dr ops o S).1)
    (hd : ∀ (j : Nat) oj t, ops[j]? = some oj → oj.dst = some t → t < n) {next : Act → World → Prop} {Q : Exit → Act → World → Prop} (hk : ∀ ch a' w' μ' fp' N', R B n (stepG P Γ ch dr ops o S).2 [] [] a' w' μ' fp' N' → next a' w') : wpOp P ops Q i next a w := by
  unfold wpOp
  rw [ho]
  dsimp only
  unfold stepG at hp hk
  cases hg : guardD ops o S.T with
  | none => rw [hg] at hp; exact hp.elim
  | some b =>
    rw [hg] at hp hk
    rw [guard_wanted h hg hd]
    cases b with
    | true =>
      rw [if_pos rfl]
      exact .inl (step_sound hΓ h hp (fun t ht => hd i o t ho ht) (fun ch => by rw [back_const ch c0]; exact hp.2) hk)
    | false =>
      rw [if_neg (by simp)]
      have h1 := h.join (d := skipped) (v := undef) (by simp only [skipped, Rep]; exact ⟨[], rfl, by simp [RepL]⟩) (by simp [skipped, bnd, bndL])
      cases hdst : o.dst with
      | none => rw [hdst] at hk; exact hk c0 _ w μ fp N h
      | some t =>
        rw [hdst] at hk
        obtain ⟨fp', h2⟩ := R.put (ds := []) (vs := []) h1 (hd i o t ho hdst)
        exact hk c0 _ w μ fp' N h2
end
end
end Go.Proofs.Ytljncoikoffijaa.Vm


/-
  Regions at abstract states: in the text's order, and in whatever order is drawn. No conditions; nothing of the program is named here.
-/
namespace Go.Proofs.Ytljncoikoffijaa.Vm
open Go
set_option linter.unusedVariables false
set_option linter.unusedSimpArgs false
set_option linter.unusedSectionVars false
section
variable (P : Program) (Γ : FuncId → Con)
/-- A region's operations one behind the other. -/
def W0 (dr : Bool) (ops : Array Oper) : List Nat → St → (St → Prop) → Prop
  | [], S, K => K S
  | i :: L, S, K => match ops[i]? with
    | none => W0 dr ops L S K
    | some o => ∀ ch, (stepG P Γ ch dr ops o S).1 ∧ W0 dr ops L (stepG P Γ ch dr ops o S).2 K
/-- Both ways of a Bool. -/
def splitB (b : Bool) (p q : Prop) : Prop := (b = true → p) ∧ (b = false → q)
theorem splitB_true (p q : Prop) : splitB true p q = p := by simp [splitB]
theorem splitB_false (p q : Prop) : splitB false p q = q := by simp [splitB]
/-- The same, parted in two at the Bools of the slots 'srcs'. -/
def V (srcs : List Nat) (dr : Bool) (ops : Array Oper) : List Oper → St → (St → Prop) → Prop
  | [], S, K => K S
  | o :: L, S, K => ∀ ch, (stepG P Γ ch dr ops o S).1 ∧
    match o.dst with
    | some t => if t ∈ srcs then (match (stepG P Γ ch dr ops o S).2.T t with
        | .bool b => splitB b (V srcs dr ops L ⟨upd (stepG P Γ ch dr ops o S).2.T t (.bool true), (stepG P Γ ch dr ops o S).2.H⟩ K) (V srcs dr ops L ⟨upd (stepG P Γ ch dr ops o S).2.T t (.bool false), (stepG P Γ ch dr ops o S).2.H⟩ K)
        | _ => V srcs dr ops L (stepG P Γ ch dr ops o S).2 K) else V srcs dr ops L (stepG P Γ ch dr ops o S).2 K
    | none => V srcs dr ops L (stepG P Γ ch dr ops o S).2 K
variable {P Γ}
theorem V_W0 {srcs : List Nat} {dr : Bool} {ops : Array Oper} {K : St → Prop} : ∀ {k : Nat} {L : List Oper} {S : St}, (∀ j, L[j]? = ops[k + j]?) → V P Γ srcs dr ops L S K → W0 P Γ dr ops (List.range' k L.length) S K
  | k, [], S, hL, h => h
  | k, o :: L, S, hL, h => by
    have h0 : ops[k]? = some o := by have := hL 0; simpa using this.symm
    have hL' : ∀ j, L[j]? = ops[k + 1 + j]? := fun j => by
      have := hL (j + 1)
      rw [List.getElem?_cons_succ] at this
      rw [this]; congr 1; omega
    simp only [List.length_cons, List.range'_succ, W0, h0]
    simp only [V] at h
    intro ch
    replace h := h ch
    refine ⟨h.1, ?_⟩
    obtain ⟨_, h⟩ := h
    generalize (stepG P Γ ch dr ops o S).2 = S' at h
    split at h
    · rename_i t _
      split at h
      · split at h
        · rename_i b hb
          obtain ⟨h1, h2⟩ := h
          cases b
          · have := h2 rfl
            rw [upd_self hb] at this
            exact V_W0 hL' this
          · have := h1 rfl
            rw [upd_self hb] at this
            exact V_W0 hL' this
        · exact V_W0 hL' h
      · exact V_W0 hL' h
    · exact V_W0 hL' h
theorem V_all {srcs : List Nat} {dr : Bool} {ops : Array Oper} {S : St} {K : St → Prop} (h : V P Γ srcs dr ops ops.toList S K) : W0 P Γ dr ops (List.range ops.size) S K := by
  have := V_W0 (k := 0) (by simp) h
  rw [List.range_eq_range']
  simpa using this

/-! ### The text's order -/
section
variable {B : Base} {n : Nat}
/-- Ways out, at abstract states. -/
def lift (B : Base) (n : Nat) (Q : Exit → St → Prop) : Exit → Act → World → Prop
  | .normal, a, w => ∃ S μ fp N, R B n S [] [] a w μ fp N ∧ Q .normal S
  | .exit id, a, w => ∃ S μ fp N, R B n S [] [] a w μ fp N ∧ Q (.exit id) S
  | .ret, a, w => ∃ S μ fp N, R B n S [] [] a w μ fp N ∧ Q .ret S
  | _, _, _ => False
def dstsOk (n : Nat) (ops : Array Oper) : Bool := ops.toList.all fun o => match o.dst with
  | some t => decide (t < n)
  | none => true
theorem dstsOk_spec {ops : Array Oper} (h : dstsOk n ops = true) : ∀ (j : Nat) oj t, ops[j]? = some oj → oj.dst = some t → t < n := by
  intro j oj t hj ht
  unfold dstsOk at h
  rw [List.all_eq_true] at h
  have := h oj (by rw [← Array.getElem?_toList] at hj; exact List.mem_of_getElem? hj)
  rw [ht] at this
  simpa using this
theorem W0_wpOps (hΓ : ∀ f, ConOk P f (Γ f)) {dr : Bool} {ops : Array Oper} (hd : dstsOk n ops = true) {Q : Exit → St → Prop} : ∀ {L : List Nat} {S : St} {a : Act} {w : World} {μ : Nat → Nat} {fp : Root → List Nat} {N : Nat}, R B n S [] [] a w μ fp N →
    W0 P Γ dr ops L S (Q .normal) → wpOps P ops (lift B n Q) L a w
  | [], S, a, w, μ, fp, N, h, hw => ⟨S, μ, fp, N, h, hw⟩
  | i :: L, S, a, w, μ, fp, N, h, hw => by
    rw [wpOps_cons]
    simp only [W0] at hw
    cases ho : ops[i]? with
    | none =>
      rw [ho] at hw
      unfold wpOp
      rw [ho]
      exact W0_wpOps hΓ hd h hw
    | some o =>
      rw [ho] at hw
      exact wpOp_stepG hΓ ho h (hw ⟨Unit, ()⟩).1 (dstsOk_spec hd) fun ch a' w' μ' fp' N' h' => W0_wpOps hΓ hd h' (hw ch).2
/-- The weakest precondition over abstract states. -/
def AW (P : Program) (B : Base) (n : Nat) (c : Code) (Q : Exit → St → Prop) (S : St) : Prop :=
  ∀ (a : Act) (w : World) (μ : Nat → Nat) (fp : Root → List Nat) (N : Nat), R B n S [] [] a w μ fp N → c.wp P (lift B n Q) a w
theorem AW_region (hΓ : ∀ f, ConOk P f (Γ f)) {id : Nat} {ops : Array Oper} {Q : Exit → St → Prop} {S : St} (srcs : List Nat) (hd : dstsOk n ops = true) (h : V P Γ srcs false ops ops.toList S (Q .normal)) : AW P B n (.region id ops false) Q S :=
  fun a w μ fp N hR => wp_region (W0_wpOps hΓ hd hR (V_all h))

/-! ### A drawn order -/
def isPure : Con → Bool
  | .pure _ => true
  | .ext _ => true
  | .prel _ => true
  | _ => false
/-- 0: not of memory; 1: reads named blocks; 2: writes them. -/
def kindO (Γ : FuncId → Con) (o : Oper) : Nat :=
  match o.op with
  | .load .. => 1
  | .store .. => 2
  | .call c => match c.callee with
    | .builtin .len => 0
    | .builtin .append => 1
    | .value (.func f) => if isPure (Γ f) then 1 else 2
    | _ => 2
  | _ => 0
def tmpsOf (o : Oper) : List Nat := o.op.operands.toList.filterMap fun | .tmp t => some t | _ => none
end
end
end Go.Proofs.Ytljncoikoffijaa.Vm


/-
  Blocks get names and lose them; how a walk over abstract states begins, goes and ends. No conditions; nothing of the program is named here.
-/
namespace Go.Proofs.Ytljncoikoffijaa.Vm
open Go
set_option linter.unusedVariables false
set_option linter.unusedSimpArgs false
set_option linter.unusedSectionVars false
section
variable {P : Program} {Γ : FuncId → Con} {B : Base} {n : Nat} {S : St} {ds : List D} {vs : List Value} {a : Act} {w : World} {μ : Nat → Nat} {fp : Root → List Nat} {N : Nat}

theorem R.hlt (h : R B n S ds vs a w μ fp N) {b : Nat} {cs : List D} (hc : S.H b = some cs) : b < N := (h.bH b cs hc).1
theorem R.hN (h : R B n S ds vs a w μ fp N) : S.H N = none := by
  cases hc : S.H N with
  | none => rfl
  | some cs => exact absurd (h.hlt hc) (Nat.lt_irrefl _)
/-- The bag is read in other words. -/
theorem R.rebag (h : R B n S ds vs a w μ fp N) {ds' : List D} {vs' : List Value} (hr : RepL μ (Im B w fp) w ds' vs' (fp .bag)) (hb : bndL N ds') : R B n S ds' vs' a w μ fp N := { h with bg := hr, bB := hb }

/-! ### Names -/
/-- A new name for a block of the bag's first value. -/
theorem R.name {d : D} {v : Value} (h : R B n S (d :: ds) (v :: vs) a w μ fp N) {x : Nat} {cs : List D} {cells : Array Value} {f f2 : List Nat} (hf : fp .bag = (x :: f) ++ f2) (h2 : RepL μ (Im B w fp) w ds vs f2) (hw : Whole w x cells) (hr : RepL μ (Im B w fp) w cs (cells.toList.take cs.length) f) (hcs : bndL N cs)
    {d' : D} (hd : ∀ μ' I, μ' N = x → Rep μ' I w d' v []) (hdb : bnd (N + 1) d') :
    ∃ fp', R B n ⟨S.T, upd S.H N (some (cs ++ List.replicate (cells.size - cs.length) .any))⟩ (d' :: ds) (v :: vs) a w (upd μ N x) fp' (N + 1) := by
  have hnod : ((x :: f) ++ f2).Nodup := hf ▸ h.nod .bag
  have hn' := List.nodup_append.1 hnod
  have hnx := List.nodup_cons.1 hn'.1
  obtain ⟨g, g1, g2, g3, g4⟩ := hr.slots hnx.2
  have hNn := h.hN
  have hNf := h.hn N hNn
  let fp' : Root → List Nat := fun r => match r with
    | .bag => f2
    | .blk b => if b = N then [x] else fp (.blk b)
    | .cell b i => if b = N then g i else fp (.cell b i)
    | .slot t => fp (.slot t)
  have hkey : ∀ r y, y ∈ fp' r → (y ∈ fp r ∧ r ≠ .bag ∧ r ≠ .blk N ∧ ∀ i, r ≠ .cell N i) ∨ (r = .bag ∧ y ∈ f2) ∨ (r = .blk N ∧ y = x) ∨ ∃ i, r = .cell N i ∧ y ∈ g i := by
    intro r y hy
    cases r with
    | slot t => exact .inl ⟨hy, by simp, by simp, by simp⟩
    | bag => exact .inr (.inl ⟨rfl, hy⟩)
    | blk b =>
      simp only [fp'] at hy
      split at hy
      · rename_i e; subst e; exact .inr (.inr (.inl ⟨rfl, by simpa using hy⟩))
      · rename_i e; exact .inl ⟨hy, by simp, by simp [e], by simp⟩
    | cell b i =>
      simp only [fp'] at hy
      split at hy
      · rename_i e; subst e; exact .inr (.inr (.inr ⟨i, rfl, hy⟩))
      · rename_i e; exact .inl ⟨hy, by simp, by simp, fun j hj => by simp at hj; exact e hj.1⟩
  have inbag : ∀ y, y ∈ f2 ∨ y = x ∨ (∃ i, y ∈ g i) → y ∈ fp .bag := by
    intro y hy
    rw [hf]
    rcases hy with hy | rfl | ⟨i, hy⟩
    · exact List.mem_append_right _ hy
    · simp
    · have := g2 i y hy; simp [this]
  have hm : Moves fp fp' := by
    refine ⟨fun r y hy => ?_, fun r => ?_, fun r r' y hy hz => ?_⟩
    · rcases hkey r y hy with ⟨k, _⟩ | ⟨_, k⟩ | ⟨_, k⟩ | ⟨i, _, k⟩
      · exact ⟨r, k⟩
      · exact ⟨_, inbag y (.inl k)⟩
      · exact ⟨_, inbag y (.inr (.inl k))⟩
      · exact ⟨_, inbag y (.inr (.inr ⟨i, k⟩))⟩
    · cases r with
      | slot t => exact h.nod _
      | bag => exact hn'.2.1
      | blk b => simp only [fp']; split; simp; exact h.nod _
      | cell b i => simp only [fp']; split; exact g3 i; exact h.nod _
    · have no : ∀ r, r ≠ .bag → y ∈ fp r → ¬ (y ∈ f2 ∨ y = x ∨ ∃ i, y ∈ g i) := fun r hr hy hx => hr (h.dis _ _ y hy (inbag y hx))
      rcases hkey r y hy with ⟨k, k2, _⟩ | ⟨e, k⟩ | ⟨e, k⟩ | ⟨i, e, k⟩ <;> rcases hkey r' y hz with ⟨l, l2, _⟩ | ⟨e', l⟩ | ⟨e', l⟩ | ⟨i', e', l⟩
      · exact h.dis _ _ y k l
      · exact (no r k2 k (.inl l)).elim
      · exact (no r k2 k (.inr (.inl l))).elim
      · exact (no r k2 k (.inr (.inr ⟨i', l⟩))).elim
      · exact (no r' l2 l (.inl k)).elim
      · rw [e, e']
      · subst l; exact (hn'.2.2 y (by simp) y k rfl).elim
      · exact (hn'.2.2 y (by simp [g2 i' y l]) y k rfl).elim
      · exact (no r' l2 l (.inr (.inl k))).elim
      · subst k; exact (hn'.2.2 y (by simp) y l rfl).elim
      · rw [e, e']
      · subst k; exact (hnx.1 (g2 i' y l)).elim
      · exact (no r' l2 l (.inr (.inr ⟨i, k⟩))).elim
      · exact (hn'.2.2 y (by simp [g2 i y k]) y l rfl).elim
      · subst l; exact (hnx.1 (g2 i y k)).elim
      · rw [e, e', g4 i i' y k l]
  have hμ : ∀ b, b < N → upd μ N x b = μ b := fun b hb => upd_ne (Nat.ne_of_lt hb)
  have hbb := h.bB
  simp only [bndL] at hbb
  refine ⟨fp', h.len, h.dfs, h.frm, h.jk, h.own' hm, hm.nod, hm.dis, fun t => Rep.ren hμ (h.bT t) ((h.tm t).sub hm.sub), ?_, ?_, ?_, fun t => bnd.mono (Nat.le_succ N) (h.bT t), ?_, ?_, ?_⟩
  · simp only [RepL]
    exact ⟨v, vs, [], f2, rfl, rfl, hd _ _ (upd_eq ..), RepL.ren hμ hbb.2 (h2.sub hm.sub)⟩
  · intro b cs' hc
    by_cases e : b = N
    · subst e
      dsimp only at hc
      rw [upd_eq] at hc
      cases hc
      have hlen : cs.length ≤ cells.size := by have := hr.length; rw [List.length_take] at this; simp at this; omega
      by_cases h0 : cells.size = 0
      · refine .inr ⟨cells, by rw [upd_eq]; exact hw, by simp; omega, by rw [upd_eq]; simp [fp'], fun i d hd => ?_, fun i hi => ?_⟩
        · have : cs = [] := List.eq_nil_of_length_eq_zero (by omega)
          subst this
          simp [h0] at hd
        · simp only [fp', if_true]
          refine List.eq_nil_iff_forall_not_mem.2 fun y hy => ?_
          have := hr.length
          rw [List.length_take] at this
          have hc0 : cs = [] := List.eq_nil_of_length_eq_zero (by omega)
          subst hc0
          simp only [RepL] at hr
          have := g2 i y hy
          rw [hr.2] at this
          cases this
      · refine .inr ⟨cells, by rw [upd_eq]; exact hw, by simp; omega, by rw [upd_eq]; simp [fp'], fun i d hd => ?_, fun i hi => ?_⟩
        · by_cases hi : i < cs.length
          · rw [List.getElem?_append_left hi] at hd
            have hr1 := g1 i
            have e1 : cs.getD i .any = d := by rw [List.getD_eq_getElem?_getD, hd]; rfl
            have e2 : (cells.toList.take cs.length).getD i undef = cells[i]'(by omega) := by
              rw [List.getD_eq_getElem?_getD, List.getElem?_take, if_pos hi]; simp; rw [Array.getElem?_eq_getElem (by omega)]; rfl
            rw [e1, e2] at hr1
            refine ⟨_, Array.getElem?_eq_getElem (by omega), ?_⟩
            simp only [fp', if_true]
            exact Rep.ren hμ (bndL_iff.1 hcs d (List.mem_of_getElem? hd)) (hr1.sub hm.sub)
          · rw [List.getElem?_append_right (by omega), List.getElem?_replicate] at hd
            split at hd
            · cases hd
              have gi : g i = [] := by
                have hr1 := g1 i
                have e1 : cs.getD i .any = .any := by rw [List.getD_eq_getElem?_getD, List.getElem?_eq_none (by omega)]; rfl
                rw [e1] at hr1
                simpa [Rep] using hr1
              exact ⟨_, Array.getElem?_eq_getElem (by omega), by simp only [fp', if_true, gi, Rep]⟩
            · cases hd
        · simp only [fp', if_true]
          have hr1 := g1 i
          have e1 : cs.getD i .any = .any := by rw [List.getD_eq_getElem?_getD, List.getElem?_eq_none (by simp at hi; omega)]; rfl
          rw [e1] at hr1
          simpa [Rep] using hr1
    · dsimp only at hc
      rw [upd_ne e] at hc
      have hb := h.bH b cs' hc
      have := (h.hp b cs' hc).sub hm.sub (by simp [fp', e]) (by simp [fp', e])
      rcases this with q | ⟨cells2, q1, q2, q3, q4, q5⟩
      · exact .inl q
      · refine .inr ⟨cells2, by rw [hμ b hb.1]; exact q1, q2, by rw [hμ b hb.1]; exact q3, fun i d hd => ?_, q5⟩
        obtain ⟨y, hy, hr⟩ := q4 i d hd
        exact ⟨y, hy, Rep.ren hμ (bndL_iff.1 hb.2 d (List.mem_of_getElem? hd)) hr⟩
  · intro b hb
    have e : b ≠ N := by rintro rfl; dsimp only at hb; rw [upd_eq] at hb; cases hb
    dsimp only at hb
    rw [upd_ne e] at hb
    have := h.hn b hb
    simp [fp', e, this]
  · simp only [bndL]
    exact ⟨hdb, bndL.mono (Nat.le_succ N) hbb.2⟩
  · intro b cs' hc
    by_cases e : b = N
    · subst e
      dsimp only at hc
      rw [upd_eq] at hc
      cases hc
      refine ⟨Nat.lt_succ_self _, bndL_iff.2 fun d hd => ?_⟩
      rcases List.mem_append.1 hd with hd | hd
      · exact bnd.mono (Nat.le_succ _) (bndL_iff.1 hcs d hd)
      · rw [(List.mem_replicate.1 hd).2]; simp [bnd]
    · dsimp only at hc
      rw [upd_ne e] at hc
      have hb := h.bH b cs' hc
      exact ⟨Nat.lt_succ_of_lt hb.1, bndL.mono (Nat.le_succ N) hb.2⟩
  · exact ⟨Nat.le_succ_of_le h.rn.1, fun b hb => (hμ b (Nat.lt_of_lt_of_le hb h.rn.1)).trans (h.rn.2 b hb)⟩
/-- The bag's first value, a slice of its own, gets a name. -/
theorem R.mat {sz m : Nat} {cs : List D} {v : Value} (h : R B n S (.fr sz m cs :: ds) (v :: vs) a w μ fp N) :
    ∃ c k μ' fp', m ≤ c ∧ c * sz ≤ m * sz + k ∧ (∀ b, b < N → μ' b = μ b) ∧ R B n ⟨S.T, upd S.H N (some (cs ++ List.replicate k .any))⟩ (.sl N sz 0 m c :: ds) (v :: vs) a w μ' fp' (N + 1) := by
  have hbg := h.bg
  simp only [RepL] at hbg
  obtain ⟨v', vs', f1, f2, he, hf, h1, h2⟩ := hbg
  cases he
  have hb := h.bB
  simp only [bndL, bnd] at hb
  simp only [Rep] at h1
  obtain ⟨hmax, hlen, h1⟩ := h1
  rcases h1 with ⟨rfl, rfl, A, rfl⟩ | ⟨b, c, cells, us, f, rfl, hmc, hw, hcs, hcell, hrep, rfl⟩
  · have hc0 : cs = [] := List.eq_nil_of_length_eq_zero (by simpa using hlen)
    subst hc0
    refine ⟨0, 0, μ, fp, Nat.le_refl _, by simp, fun _ _ => rfl, ?_⟩
    have hN := h.hN
    have hNf := h.hn N hN
    refine ⟨h.len, h.dfs, h.frm, h.jk, h.own, h.nod, h.dis, h.tm, ?_, ?_, ?_, fun t => bnd.mono (Nat.le_succ N) (h.bT t), ?_, ?_, ⟨Nat.le_succ_of_le h.rn.1, h.rn.2⟩⟩
    · rw [hf]
      simp only [RepL, List.nil_append]
      exact ⟨_, vs, [], f2, rfl, rfl, by simp only [Rep]; exact ⟨trivial, Nat.le_refl _, hmax, ⟨A, rfl⟩, .inl trivial⟩, h2⟩
    · intro b cs' hc
      by_cases e : b = N
      · subst e
        dsimp only at hc
        rw [upd_eq] at hc
        cases hc
        exact .inl ⟨by simp, hNf⟩
      · dsimp only at hc
        rw [upd_ne e] at hc
        exact h.hp b cs' hc
    · intro b hb'
      have e : b ≠ N := by rintro rfl; dsimp only at hb'; rw [upd_eq] at hb'; cases hb'
      dsimp only at hb'
      rw [upd_ne e] at hb'
      exact h.hn b hb'
    · simp only [bndL, bnd]; exact ⟨Nat.lt_succ_self _, bndL.mono (Nat.le_succ N) hb.2⟩
    · intro b cs' hc
      by_cases e : b = N
      · subst e
        dsimp only at hc
        rw [upd_eq] at hc
        cases hc
        exact ⟨Nat.lt_succ_self _, by simp [bndL]⟩
      · dsimp only at hc
        rw [upd_ne e] at hc
        have hb := h.bH b cs' hc
        exact ⟨Nat.lt_succ_of_lt hb.1, bndL.mono (Nat.le_succ N) hb.2⟩
  · have hul := hrep.length
    have hle : cs.length ≤ cells.size := by rw [hlen]; exact Nat.le_trans (Nat.mul_le_mul_right sz hmc) hcs
    have hus : us = cells.toList.take cs.length := by
      apply List.ext_getElem?
      intro i
      rw [List.getElem?_take]
      by_cases hi : i < cs.length
      · rw [if_pos hi]
        obtain ⟨u, hu⟩ : ∃ u, us[i]? = some u := ⟨_, List.getElem?_eq_getElem (by omega)⟩
        rw [hu]
        have := hcell i u hu
        simpa using this.symm
      · rw [if_neg hi, List.getElem?_eq_none (by omega)]
    rw [hus] at hrep
    obtain ⟨fp', h'⟩ := h.name hf h2 hw hrep hb.1 (d' := .sl N sz 0 m c) (fun μ' I hμ => by simp only [Rep]; exact ⟨trivial, hmc, hmax, ⟨_, rfl⟩, .inr (by rw [hμ])⟩) (by simp [bnd])
    exact ⟨c, cells.size - cs.length, _, fp', hmc, by omega, fun b hb => upd_ne (Nat.ne_of_lt hb), h'⟩
/-- The bag's first value, a pointer to memory of its own, gets a name. -/
theorem R.matBox {cs : List D} {v : Value} (h : R B n S (.box cs :: ds) (v :: vs) a w μ fp N) :
    ∃ μ' fp', R B n ⟨S.T, upd S.H N (some cs)⟩ (.ptr N 0 :: ds) (v :: vs) a w μ' fp' (N + 1) := by
  have hbg := h.bg
  simp only [RepL] at hbg
  obtain ⟨v', vs', f1, f2, he, hf, h1, h2⟩ := hbg
  cases he
  have hb := h.bB
  simp only [bndL, bnd] at hb
  simp only [Rep] at h1
  obtain ⟨b, cells, f, rfl, hw, hrep, rfl⟩ := h1
  have hul := hrep.length
  have e : cells.toList.take cs.length = cells.toList := List.take_of_length_le (by omega)
  rw [← e] at hrep
  obtain ⟨fp', h'⟩ := h.name hf h2 hw hrep hb.1 (d' := .ptr N 0) (fun μ' I hμ => by simp only [Rep]; exact ⟨trivial, by rw [hμ]⟩) (by simp [bnd])
  have e2 : cells.size - cs.length = 0 := by simp at hul; omega
  rw [e2] at h'
  simp only [List.replicate_zero, List.append_nil] at h'
  exact ⟨_, fp', h'⟩
end
end Go.Proofs.Ytljncoikoffijaa.Vm


/-
  The rules of walks over abstract states; contracts out of walks. No conditions; nothing of the program is named here.
-/
namespace Go.Proofs.Ytljncoikoffijaa.Vm
open Go
set_option linter.unusedVariables false
set_option linter.unusedSimpArgs false
set_option linter.unusedSectionVars false
section
variable {P : Program} {Γ : FuncId → Con} {B : Base} {n : Nat} {S S' : St} {Q : Exit → St → Prop}

/-! ### Control -/
def Exit.thenA (next : St → Prop) (Q : Exit → St → Prop) : Exit → St → Prop
  | .normal, S => next S
  | e, S => Q e S
theorem AW_seq {x y : Code} (h : AW P B n x (Exit.thenA (AW P B n y Q) Q) S) : AW P B n (.seq x y) Q S := fun a w μ fp N hR =>
  wp_seq (wp_mono (h a w μ fp N hR) fun e a' w' he => by
    cases e with
    | normal => obtain ⟨S', μ', fp', N', h1, h2⟩ := he; exact h2 a' w' μ' fp' N' h1
    | exit id => exact he
    | ret => exact he
    | goto l => exact he
    | panic c => exact he
    | outgrown => exact he)
/-- Between the two stands what the first is asked for. -/
theorem AW_cut {x y : Code} (M : St → Prop) (h : AW P B n x (Exit.thenA M Q) S) (k : ∀ S', M S' → AW P B n y Q S') : AW P B n (.seq x y) Q S := fun a w μ fp N hR =>
  wp_seq (wp_mono (h a w μ fp N hR) fun e a' w' he => by
    cases e with
    | normal => obtain ⟨S', μ', fp', N', h1, h2⟩ := he; exact k S' h2 a' w' μ' fp' N' h1
    | exit id => exact he
    | ret => exact he
    | goto l => exact he
    | panic c => exact he
    | outgrown => exact he)
theorem AW_mono {c : Code} {Q' : Exit → St → Prop} (h : AW P B n c Q S) (k : ∀ e S, Q e S → Q' e S) : AW P B n c Q' S := fun a w μ fp N hR =>
  wp_mono (h a w μ fp N hR) fun e a' w' he => by
    cases e with
    | normal => obtain ⟨S', μ', fp', N', h1, h2⟩ := he; exact ⟨S', μ', fp', N', h1, k _ _ h2⟩
    | exit id => obtain ⟨S', μ', fp', N', h1, h2⟩ := he; exact ⟨S', μ', fp', N', h1, k _ _ h2⟩
    | ret => obtain ⟨S', μ', fp', N', h1, h2⟩ := he; exact ⟨S', μ', fp', N', h1, k _ _ h2⟩
    | goto l => exact he
    | panic c => exact he
    | outgrown => exact he
theorem AW_skip (h : Q .normal S) : AW P B n .skip Q S := fun a w μ fp N hR => wp_skip ⟨S, μ, fp, N, hR, h⟩
theorem AW_exit {id : Nat} (h : Q (.exit id) S) : AW P B n (.exit id) Q S := fun a w μ fp N hR => wp_exit ⟨S, μ, fp, N, hR, h⟩
theorem AW_ret (h : Q .ret S) : AW P B n .ret Q S := fun a w μ fp N hR => wp_ret ⟨S, μ, fp, N, hR, h⟩
theorem AW_cond {c : Operand} {x y : Code} {b : Bool} (hc : look S.T c = .bool b) (h1 : b = true → AW P B n x Q S) (h2 : b = false → AW P B n y Q S) : AW P B n (.cond c x y) Q S := fun a w μ fp N hR =>
  wp_cond_split (t := b) (by have := (hR.look c).1; rw [hc] at this; simp only [Rep] at this; exact this.2) (fun e => h1 e a w μ fp N hR) (fun e => h2 e a w μ fp N hR)
theorem AW_cond2 {c : Operand} {x y : Code} (hc : look S.T c = .ubool) (h1 : AW P B n x Q S) (h2 : AW P B n y Q S) : AW P B n (.cond c x y) Q S := fun a w μ fp N hR => by
  have := (hR.look c).1
  rw [hc] at this
  simp only [Rep] at this
  obtain ⟨_, b, hb⟩ := this
  exact wp_cond_split hb (fun _ => h1 a w μ fp N hR) (fun _ => h2 a w μ fp N hR)
def Exit.inBlockA (id : Nat) (Q : Exit → St → Prop) : Exit → St → Prop
  | .exit id', S => if id' = id then Q .normal S else Q (.exit id') S
  | e, S => Q e S
theorem AW_block {id : Nat} {c : Code} (h : AW P B n c (Exit.inBlockA id Q) S) : AW P B n (.block id c) Q S := fun a w μ fp N hR =>
  wp_block (wp_mono (h a w μ fp N hR) fun e a' w' he => by
    cases e with
    | normal => exact he
    | exit id' =>
      obtain ⟨S', μ', fp', N', h1, h2⟩ := he
      simp only [Exit.inBlock, Exit.inBlockA] at h2 ⊢
      split
      · rename_i e; rw [if_pos e] at h2; exact ⟨S', μ', fp', N', h1, h2⟩
      · rename_i e; rw [if_neg e] at h2; exact ⟨S', μ', fp', N', h1, h2⟩
    | ret => exact he
    | goto l => exact he
    | panic c => exact he
    | outgrown => exact he)
theorem AW_less {c : Code} (k : Sub S S') (h : AW P B n c Q S') : AW P B n c Q S := fun a w μ fp N hR => by
  obtain ⟨fp', h'⟩ := hR.less k
  exact h a w μ fp' N h'
theorem wp_loop_ix {c : Code} {Q : Exit → Act → World → Prop} (I : Nat → Act → World → Prop) {k0 : Nat} {a : Act} {w : World} (h₀ : I k0 a w)
    (round : ∀ k a w, I k a w → c.wp P (Exit.then (fun a' w' => ∃ k', k' < k ∧ I k' a' w') Q) a w) : (Code.loop c).wp P Q a w := by
  intro b k cs
  have key : ∀ n a w, I n a w → ∃ e a' w', Q e a' w' ∧ Arrives P (lone (b.at a (.code c :: .inLoop c :: k)) cs w) b k cs e a' w' := by
    intro n
    induction n using Nat.strongRecOn with
    | _ n ih =>
      intro a w hI
      obtain ⟨e, a₁, w₁, hq, harr⟩ := round n a w hI b (.inLoop c :: k) cs
      cases e with
      | normal =>
        obtain ⟨k', hlt, hI₁⟩ := hq
        obtain ⟨e₂, a₂, w₂, hq₂, harr₂⟩ := ih k' hlt a₁ w₁ hI₁
        exact ⟨e₂, a₂, w₂, hq₂, .of_steps (Steps.trans harr (.one step_inLoop)) harr₂⟩
      | exit id => exact ⟨_, a₁, w₁, hq, .pass (x := .inLoop c) rfl (fun _ _ => .inl (by simp)) harr⟩
      | goto l => exact ⟨_, a₁, w₁, hq, .pass (x := .inLoop c) rfl (fun _ _ => .inl (by simp)) harr⟩
      | ret => exact ⟨_, a₁, w₁, hq, .pass (x := .inLoop c) rfl (fun _ _ => .inl (by simp)) harr⟩
      | panic ch => exact ⟨_, a₁, w₁, hq, .pass (x := .inLoop c) rfl (fun _ _ => .inl (by simp)) harr⟩
      | outgrown => exact ⟨_, a₁, w₁, hq, .pass (x := .inLoop c) rfl (fun _ _ => .inl (by simp)) harr⟩
  obtain ⟨e, a', w', hq, harr⟩ := key _ a w h₀
  exact ⟨e, a', w', hq, .of_steps (.one step_loop) harr⟩
/-- A round's end: again one of the states, the measure less. -/
def Next {ι : Type} (I : ι → St) (p : ι → Prop) (m : ι → Nat) (i : ι) (S' : St) : Prop := ∃ j, p j ∧ m j < m i ∧ Sub S' (I j)
/-- A loop: at its head stands one of the states I i with p i; each round makes the measure less. -/
theorem AW_loop {c : Code} {ι : Type} (I : ι → St) (p : ι → Prop) (m : ι → Nat) (i0 : ι) (h0 : p i0) (hs : Sub S (I i0))
    (round : ∀ i, p i → AW P B n c (Exit.thenA (Next I p m i) Q) (I i)) : AW P B n (.loop c) Q S := fun a w μ fp N hR => by
  obtain ⟨fp0, h0'⟩ := hR.less hs
  refine wp_loop_ix (fun k a w => ∃ i μ fp N, p i ∧ m i = k ∧ R B n (I i) [] [] a w μ fp N) ⟨i0, μ, fp0, N, h0, rfl, h0'⟩ ?_
  rintro k a w ⟨i, μ, fp, N, hp, rfl, hR⟩
  refine wp_mono (round i hp a w μ fp N hR) fun e a' w' he => ?_
  cases e with
  | normal =>
    obtain ⟨S', μ', fp', N', h1, j, hj, hm, hsub⟩ := he
    obtain ⟨fp2, h2⟩ := h1.less hsub
    exact ⟨m j, hm, j, μ', fp2, N', hj, rfl, h2⟩
  | exit id => exact he
  | ret => exact he
  | goto l => exact he
  | panic c => exact he
  | outgrown => exact he

/-! ### Slots and blocks -/
theorem AW_mat (t : Nat) {c : Code} {sz m : Nat} {cs : List D} (hT : S.T t = .fr sz m cs) (h : ∀ b cp k, S.H b = none → m ≤ cp → cp * sz ≤ m * sz + k → AW P B n c Q ⟨upd S.T t (.sl b sz 0 m cp), upd S.H b (some (cs ++ List.replicate k .any))⟩) : AW P B n c Q S := fun a w μ fp N hR => by
  obtain ⟨fp1, h1⟩ := hR.grab t
  rw [hT, List.nil_append, List.nil_append] at h1
  obtain ⟨cp, k, μ', fp2, q1, q2, _, h2⟩ := h1.mat
  obtain ⟨fp3, h3⟩ := h2.putback
  have e : upd (grab S.T t) t (.sl N sz 0 m cp) = upd S.T t (.sl N sz 0 m cp) := by
    funext y
    by_cases ey : y = t
    · subst ey; rw [upd_eq, upd_eq]
    · rw [upd_ne ey, upd_ne ey]
      simp only [grab]
      split
      · rw [upd_ne ey]
      · rfl
  rw [e] at h3
  exact h N cp k h1.hN q1 q2 a w μ' fp3 (N + 1) h3
theorem AW_matBox (t : Nat) {c : Code} {cs : List D} (hT : S.T t = .box cs) (h : ∀ b, S.H b = none → AW P B n c Q ⟨upd S.T t (.ptr b 0), upd S.H b (some cs)⟩) : AW P B n c Q S := fun a w μ fp N hR => by
  obtain ⟨fp1, h1⟩ := hR.grab t
  rw [hT, List.nil_append, List.nil_append] at h1
  obtain ⟨μ', fp2, h2⟩ := h1.matBox
  obtain ⟨fp3, h3⟩ := h2.putback
  have e : upd (grab S.T t) t (.ptr N 0) = upd S.T t (.ptr N 0) := by
    funext y
    by_cases ey : y = t
    · subst ey; rw [upd_eq, upd_eq]
    · rw [upd_ne ey, upd_ne ey]
      simp only [grab]
      split
      · rw [upd_ne ey]
      · rfl
  rw [e] at h3
  exact h N h1.hN a w μ' fp3 (N + 1) h3
/-- A named slice becomes a value of its own again. -/
theorem AW_unmat (t : Nat) {c : Code} {b sz m cp : Nat} {all : List D} (hT : S.T t = .sl b sz 0 m cp) (hH : S.H b = some all) (hsz : 0 < sz) (hm : m * sz ≤ all.length) (hc : cp * sz ≤ all.length) (h : AW P B n c Q ⟨upd S.T t (.fr sz m (all.take (m * sz))), upd S.H b none⟩) : AW P B n c Q S := fun a w μ fp N hR => by
  obtain ⟨fp1, h1⟩ := hR.grab t
  rw [hT, List.nil_append, List.nil_append] at h1
  have e : grab S.T t = S.T := grab_no (by rw [hT]; rfl)
  rw [e] at h1
  obtain ⟨fp2, h2, _⟩ := h1.unname hH hsz hm hc
  obtain ⟨fp3, h3⟩ := h2.putback
  exact h a w μ fp3 N h3
mutual
theorem bnd_dat {N : Nat} : ∀ {d : D}, bnd N d → bnd N (dat d)
  | .any, h => by simp [dat, bnd]
  | .nil, h => by simp [dat, bnd, bndL]
  | .nilp, h => by simp [dat, bnd]
  | .ubool, h => by simp [dat, bnd]
  | .int _ _, h => by simp [dat, bnd]
  | .bool _, h => by simp [dat, bnd]
  | .str _, h => by simp [dat, bnd]
  | .list n cs, h => by simpa only [dat] using h
  | .fr _ _ cs, h => by simp only [dat, bnd] at h ⊢; exact bndL_dat h
  | .st cs, h => by simp only [dat, bnd] at h ⊢; exact bndL_dat h
  | .tup cs, h => by simp only [dat, bnd] at h ⊢; exact bndL_dat h
  | .sl .., h => by simpa only [dat] using h
  | .ptr .., h => by simpa only [dat] using h
  | .pd cs, h => by simpa only [dat] using h
  | .box cs, h => by simp only [dat, bnd] at h ⊢; exact bndL_dat h
  | .fn _ cs, h => by simp only [dat, bnd] at h ⊢; exact bndL_dat h
theorem bndL_dat {N : Nat} : ∀ {ds : List D}, bndL N ds → bndL N (datL ds)
  | [], h => by simp [datL, bndL]
  | d :: ds, h => by simp only [datL, bndL] at h ⊢; exact ⟨bnd_dat h.1, bndL_dat h.2⟩
end
/-- A value of its own is from now on shared data. -/
theorem AW_shut (t : Nat) {c : Code} (h : AW P B n c Q ⟨upd S.T t (dat (S.T t)), S.H⟩) : AW P B n c Q S := fun a w μ fp N hR => by
  have hm : Moves fp (fset fp (.slot t) []) := .drop hR.nod hR.dis fun r => by
    by_cases e : r = .slot t
    · subst e; exact .inr (fset_eq ..)
    · exact .inl (fset_ne e)
  refine h a w μ _ N ⟨hR.len, hR.dfs, hR.frm, hR.jk, hR.own' hm, hm.nod, hm.dis, fun t' => ?_, ?_, ?_, ?_, fun t' => ?_, hR.bB, hR.bH, hR.rn⟩
  · by_cases e : t' = t
    · subst e
      dsimp only
      rw [upd_eq, fset_eq]
      refine Rep.dat (I := Im B w fp) (fun b hb => hb.sub hm.sub) (fun b hb => ?_) (hR.tm t')
      have ho := hR.own _ b hb
      refine ⟨ho.2, ?_, fun r hr => ?_⟩
      · rcases ho.1 with q | q
        · exact .inl (.inr q)
        · exact .inr q
      · by_cases e : r = .slot t'
        · subst e; rw [fset_eq] at hr; cases hr
        · rw [fset_ne e] at hr; exact e (hR.dis _ _ b hr hb)
    · dsimp only
      rw [upd_ne e, fset_ne (by simp [e])]
      exact (hR.tm t').sub hm.sub
  · rw [fset_ne (by simp)]; exact hR.bg.sub hm.sub
  · intro b cs hc; exact (hR.hp b cs hc).sub hm.sub (by simp [fset]) (by simp [fset])
  · intro b hb; have := hR.hn b hb; simp [fset, this]
  · dsimp only
    simp only [upd]
    split
    · rename_i e; exact bnd_dat (hR.bT t)
    · exact hR.bT t'
theorem AW_data (hK : ∀ x, ¬ B.K x) (t : Nat) {c : Code} (h : AW P B n c Q ⟨upd S.T t (dat (S.T t)), S.H⟩) : AW P B n c Q S := AW_shut t h

/-! ### Results -/
/-- The bag takes a named block whole. -/
theorem R.takeBlock {ds : List D} {vs : List Value} {a : Act} {w : World} {μ : Nat → Nat} {fp : Root → List Nat} {N b : Nat} {cs : List D} (h : R B n S ds vs a w μ fp N) (hc : S.H b = some cs) (hne : cs ≠ []) :
    ∃ cells fp', Whole w (μ b) cells ∧ cells.size = cs.length ∧ R B n ⟨S.T, upd S.H b none⟩ (ds ++ [.st cs]) (vs ++ [.agg cells]) a w μ fp' N := by
  rcases h.hp b cs hc with ⟨k, _⟩ | ⟨cells, k1, k2, k3, k4, k5⟩
  · exact (hne k).elim
  let l := (List.range cs.length).flatMap fun i => fp (.cell b i)
  have hfl : l.Nodup := flat_nodup b h.nod h.dis cs.length
  have hmem : ∀ x, x ∈ l → ∃ i, x ∈ fp (.cell b i) := by
    intro x hx
    simp only [l, List.mem_flatMap] at hx
    obtain ⟨i, _, hx⟩ := hx
    exact ⟨i, hx⟩
  let fp' : Root → List Nat := fun r => match r with
    | .bag => fp .bag ++ l
    | .blk b' => if b' = b then [] else fp (.blk b')
    | .cell b' i => if b' = b then [] else fp (.cell b' i)
    | .slot t => fp (.slot t)
  have hkey : ∀ r x, x ∈ fp' r → r ≠ .bag → x ∈ fp r ∧ (∀ i, r ≠ .cell b i) := by
    intro r x hx hr
    cases r with
    | slot t => exact ⟨hx, by simp⟩
    | bag => exact (hr rfl).elim
    | blk b' =>
      simp only [fp'] at hx
      split at hx
      · cases hx
      · exact ⟨hx, by simp⟩
    | cell b' i =>
      simp only [fp'] at hx
      split at hx
      · cases hx
      · rename_i e; exact ⟨hx, fun j hj => by simp at hj; exact e hj.1⟩
  have hm : Moves fp fp' := by
    refine ⟨fun r x hx => ?_, fun r => ?_, fun r r' x hx hy => ?_⟩
    · by_cases e : r = .bag
      · subst e
        rcases List.mem_append.1 hx with hx | hx
        · exact ⟨_, hx⟩
        · obtain ⟨i, hx⟩ := hmem x hx; exact ⟨_, hx⟩
      · exact ⟨r, (hkey r x hx e).1⟩
    · cases r with
      | slot t => exact h.nod _
      | bag =>
        refine nodup_app (h.nod _) hfl fun x hx hy => ?_
        obtain ⟨i, hy⟩ := hmem x hy
        have := h.dis _ _ x hx hy; cases this
      | blk b' => simp only [fp']; split; exact .nil; exact h.nod _
      | cell b' i => simp only [fp']; split; exact .nil; exact h.nod _
    · have no : ∀ r, r ≠ .bag → x ∈ fp' r → x ∈ fp' .bag → False := by
        intro r hr hx hb
        obtain ⟨q1, q2⟩ := hkey r x hx hr
        rcases List.mem_append.1 hb with hb | hb
        · exact hr (h.dis _ _ x q1 hb)
        · obtain ⟨i, hb⟩ := hmem x hb
          exact q2 i (h.dis _ _ x q1 hb)
      by_cases e : r = .bag <;> by_cases e' : r' = .bag
      · rw [e, e']
      · subst e; exact (no r' e' hy hx).elim
      · subst e'; exact (no r e hx hy).elim
      · exact h.dis _ _ x (hkey r x hx e).1 (hkey r' x hy e').1
  have bH' : ∀ b' cs', upd S.H b none b' = some cs' → S.H b' = some cs' ∧ b' ≠ b := by
    intro b' cs' hb'
    by_cases e : b' = b
    · subst e; rw [upd_eq] at hb'; cases hb'
    · rw [upd_ne e] at hb'; exact ⟨hb', e⟩
  refine ⟨cells, fp', k1, k2, h.len, h.dfs, h.frm, h.jk, h.own' hm, hm.nod, hm.dis, fun t => (h.tm t).sub hm.sub, ?_, ?_, ?_, h.bT, ?_, fun b' cs' hb' => h.bH b' cs' (bH' b' cs' hb').1, h.rn⟩
  · have hcf := cells_flat (μ := μ) (I := Im B w fp) (w := w) b (us := cells.toList) (by simpa using k2) (fun i d hd => by obtain ⟨u, hu, hr⟩ := k4 i d hd; exact ⟨u, by simpa using hu, hr⟩) cs.length (Nat.le_refl _)
    rw [List.take_of_length_le (Nat.le_refl _), List.take_of_length_le (by simp; omega)] at hcf
    refine RepL.append ?_ (h.bg.sub hm.sub)
    simp only [RepL, Rep]
    exact ⟨_, [], l, [], rfl, by simp, ⟨cells.toList, by simp, hcf.sub hm.sub⟩, rfl, rfl⟩
  · intro b' cs' hb'
    obtain ⟨q1, q2⟩ := bH' b' cs' hb'
    exact (h.hp b' cs' q1).sub hm.sub (by simp [fp', q2]) (by simp [fp', q2])
  · intro b' hb'
    by_cases e : b' = b
    · subst e; simp [fp']
    · dsimp only at hb'; rw [upd_ne e] at hb'; have := h.hn b' hb'; simp [fp', e, this]
  · rw [bndL_iff]
    intro d hd
    rcases List.mem_append.1 hd with hd | hd
    · exact bndL_iff.1 h.bB d hd
    · simp at hd; subst hd; simp only [bnd]; exact (h.bH b cs hc).2
def resOne (tmps : Array Value) : ResultVar → Sem Value
  | .tmp t => pure (tmps.getD t undef)
  | .cell x t => do loadVar t (← asAddr (tmps.getD x undef))
theorem results_eq (fn : Func) (tmps : Array Value) : results fn tmps = (do let vs ← fn.results.mapM (resOne tmps); pure (if h : vs.size = 1 then vs[0] else .tuple vs)) := by
  unfold results
  congr 1
variable (P) in
/-- The results, taken out of a state one by one. -/
def takeRes : St → List ResultVar → Prop × List D × St
  | S, [] => (True, [], S)
  | S, .tmp t :: rs => ((takeRes ⟨grab S.T t, S.H⟩ rs).1, S.T t :: (takeRes ⟨grab S.T t, S.H⟩ rs).2.1, (takeRes ⟨grab S.T t, S.H⟩ rs).2.2)
  | S, .cell t ty :: rs =>
    match S.T t with
    | .ptr b 0 =>
      match S.H b, τ P ty with
      | some cs, some ti => (cs.length = ti.size ∧ cs ≠ [] ∧ (ti.agg = false → ti.size = 1) ∧ (takeRes ⟨S.T, upd S.H b none⟩ rs).1, (if ti.agg then .st cs else cs.getD 0 .any) :: (takeRes ⟨S.T, upd S.H b none⟩ rs).2.1, (takeRes ⟨S.T, upd S.H b none⟩ rs).2.2)
      | _, _ => (False, [], S)
    | .box cs =>
      match τ P ty with
      | some ti => (cs.length = ti.size ∧ cs ≠ [] ∧ (ti.agg = false → ti.size = 1) ∧ (takeRes ⟨grab S.T t, S.H⟩ rs).1, (if ti.agg then .st cs else cs.getD 0 .any) :: (takeRes ⟨grab S.T t, S.H⟩ rs).2.1, (takeRes ⟨grab S.T t, S.H⟩ rs).2.2)
      | _ => (False, [], S)
    | _ => (False, [], S)
theorem takeRes_run : ∀ {rs : List ResultVar} {S : St} {ds : List D} {vs : List Value} {a : Act} {w : World} {μ : Nat → Nat} {fp : Root → List Nat} {N : Nat}, R B n S ds vs a w μ fp N → (takeRes P S rs).1 →
    ∃ us fp', (rs.mapM (m := Sem) (resOne a.tmps)).run P w = .ok us w ∧ R B n (takeRes P S rs).2.2 (ds ++ (takeRes P S rs).2.1) (vs ++ us) a w μ fp' N
  | [], S, ds, vs, a, w, μ, fp, N, h, hp => ⟨[], fp, by simp, by simpa [takeRes] using h⟩
  | .tmp t :: rs, S, ds, vs, a, w, μ, fp, N, h, hp => by
    simp only [takeRes] at hp
    obtain ⟨fp1, h1⟩ := h.grab t
    obtain ⟨us, fp2, h2, h3⟩ := takeRes_run (rs := rs) h1 hp
    refine ⟨a.tmps.getD t undef :: us, fp2, ?_, ?_⟩
    · simp only [List.mapM_cons, resOne, Sem.run_bind, pure_bind, h2]
      rfl
    · simp only [takeRes]
      simpa using h3
  | .cell t ty :: rs, S, ds, vs, a, w, μ, fp, N, h, hp => by
    simp only [takeRes] at hp ⊢
    split at hp
    · rename_i b hT
      split at hp
      · rename_i cs ti hc ht
        obtain ⟨p1, p2, p3, p4⟩ := hp
        have htm := h.tm t
        rw [hT] at htm
        simp only [Rep] at htm
        have hA : (asAddr (a.tmps.getD t undef)).run P w = .ok ⟨μ b, 0, none⟩ w := by rw [htm.2]; rfl
        obtain ⟨cells, fp1, k1, k2, h1⟩ := h.takeBlock hc p2
        have hcell : ∀ (j : Nat) (v : Value), cells[j]? = some v → w.cell? ⟨μ b, j, none⟩ = some v := fun j v hj => k1.cell hj
        by_cases ha : ti.agg = true
        · obtain ⟨us, fp2, h2, h3⟩ := takeRes_run (rs := rs) h1 p4
          have hl := run_load_agg (P := P) ht ha (w := w) (b := μ b) (i := 0) (vs := cells.toList) (by simp; omega) fun j v hj => by rw [Nat.zero_add]; exact hcell j v (by simpa using hj)
          have hlv : (loadVar ty ⟨μ b, 0, none⟩).run P w = .ok (.agg cells) w := by simpa [Instr.loadAt, Instr.sureAddr] using hl
          refine ⟨.agg cells :: us, fp2, ?_, ?_⟩
          · simp only [List.mapM_cons, resOne, Sem.run_bind, hA, pure_bind, hlv, Result.andThen_ok, h2]
            rfl
          · simp only [hc, ht, ha, if_true]
            simpa using h3
        · have ha : ti.agg = false := by simpa using ha
          obtain ⟨d, rfl⟩ : ∃ d, cs = [d] := by
            have := p3 ha
            rw [this] at p1
            exact List.length_eq_one_iff.1 p1
          obtain ⟨v, hv⟩ : ∃ v, cells.toList = [v] := List.length_eq_one_iff.1 (by simpa using k2)
          have h1' : R B n ⟨S.T, upd S.H b none⟩ (ds ++ [d]) (vs ++ [v]) a w μ fp1 N := by
            refine h1.rebag ?_ ?_
            · obtain ⟨v1, v2, f1, f2, e1, e2, r1, r2⟩ := RepL.split h1.bg
              have hl1 := r1.length
              have hl2 := h.bg.length
              obtain ⟨rfl, rfl⟩ := List.append_inj e1.symm (by omega)
              rw [e2]
              refine RepL.append ?_ r1
              have := r2.one
              simp only [Rep] at this
              obtain ⟨us, hu, hr⟩ := this
              simp at hu
              subst hu
              have hv' : us = [v] := by simpa using hv
              rw [hv'] at hr
              exact hr
            · have := h1.bB
              rw [bndL_iff] at *
              intro x hx
              rcases List.mem_append.1 hx with hx | hx
              · exact this x (List.mem_append_left _ hx)
              · simp at hx; subst hx
                have := this (.st [x]) (by simp)
                simp only [bnd, bndL] at this
                exact this.1
          obtain ⟨us, fp2, h2, h3⟩ := takeRes_run (rs := rs) h1' p4
          have hc0 : cells[0]? = some v := by rw [← Array.getElem?_toList, hv]; rfl
          have hl := run_load_one (P := P) ht ha (hcell 0 v hc0)
          have hlv : (loadVar ty ⟨μ b, 0, none⟩).run P w = .ok v w := by simpa [Instr.loadAt, Instr.sureAddr] using hl
          refine ⟨v :: us, fp2, ?_, ?_⟩
          · simp only [List.mapM_cons, resOne, Sem.run_bind, hA, pure_bind, hlv, Result.andThen_ok, h2]
            rfl
          · simp only [hc, ht, ha, Bool.false_eq_true, if_false]
            simpa using h3
      · exact hp.elim
    · rename_i cs hT
      split at hp
      · rename_i ti ht
        obtain ⟨p1, p2, p3, p4⟩ := hp
        obtain ⟨fp1, h1⟩ := h.grab t
        rw [hT] at h1
        obtain ⟨v1, v2, f1, f2, e1, e2, r1, r2⟩ := RepL.split h1.bg
        have hl1 := r1.length
        have hl2 := h.bg.length
        obtain ⟨rfl, rfl⟩ := List.append_inj e1.symm (by omega)
        have hx := r2.one
        simp only [Rep] at hx
        obtain ⟨b, cells, f, hv, hw, hrep, rfl⟩ := hx
        have hA : (asAddr (a.tmps.getD t undef)).run P w = .ok ⟨b, 0, none⟩ w := by rw [hv]; rfl
        have hcell : ∀ (j : Nat) (v : Value), cells[j]? = some v → w.cell? ⟨b, j, none⟩ = some v := fun j v hj => hw.cell hj
        have hul := hrep.length
        have hnd := h1.nod .bag
        rw [e2] at hnd
        have hnd2 : (f1 ++ f).Nodup := by
          have := List.nodup_append.1 hnd
          exact nodup_app this.1 (List.nodup_cons.1 this.2.1).2 fun x hx hy => this.2.2 x hx x (by simp [hy]) rfl
        have hsub : ∀ x, x ∈ f1 ++ f → x ∈ fp1 .bag := fun x hx => by rw [e2]; simp only [List.mem_append, List.mem_cons] at hx ⊢; rcases hx with hx | hx; exact .inl hx; exact .inr (.inr hx)
        have hbB := h1.bB
        rw [bndL_iff] at hbB
        have hbc : bndL N cs := by have := hbB (.box cs) (by simp); simpa only [bnd] using this
        by_cases ha : ti.agg = true
        · obtain ⟨fp3, h2⟩ := h1.rebagF (ds' := ds ++ [.st cs]) (vs' := v1 ++ [.agg cells]) (RepL.append (by simp only [RepL, Rep]; exact ⟨_, [], f, [], rfl, by simp, ⟨cells.toList, by simp, hrep⟩, rfl, rfl⟩) r1) hnd2 hsub (by
            rw [bndL_iff]; intro d hd
            rcases List.mem_append.1 hd with hd | hd
            · exact hbB d (List.mem_append_left _ hd)
            · simp at hd; subst hd; simpa only [bnd] using hbc)
          obtain ⟨us, fp2, h4, h3⟩ := takeRes_run (rs := rs) h2 p4
          have hl := run_load_agg (P := P) ht ha (w := w) (b := b) (i := 0) (vs := cells.toList) (by omega) fun j v hj => by rw [Nat.zero_add]; exact hcell j v (by simpa using hj)
          have hlv : (loadVar ty ⟨b, 0, none⟩).run P w = .ok (.agg cells) w := by simpa [Instr.loadAt, Instr.sureAddr] using hl
          refine ⟨.agg cells :: us, fp2, ?_, ?_⟩
          · simp only [List.mapM_cons, resOne, Sem.run_bind, hA, pure_bind, hlv, Result.andThen_ok, h4]
            rfl
          · simp only [ht, ha, if_true]
            simpa using h3
        · have ha : ti.agg = false := by simpa using ha
          obtain ⟨d, rfl⟩ : ∃ d, cs = [d] := by
            have := p3 ha
            rw [this] at p1
            exact List.length_eq_one_iff.1 p1
          obtain ⟨v, hv1⟩ : ∃ v, cells.toList = [v] := List.length_eq_one_iff.1 (by simpa using hul)
          have hrep1 := hrep
          rw [hv1] at hrep1
          obtain ⟨fp3, h2⟩ := h1.rebagF (ds' := ds ++ [d]) (vs' := v1 ++ [v]) (RepL.append hrep1 r1) hnd2 hsub (by
            rw [bndL_iff]; intro x hx
            rcases List.mem_append.1 hx with hx | hx
            · exact hbB x (List.mem_append_left _ hx)
            · exact bndL_iff.1 hbc x hx)
          obtain ⟨us, fp2, h4, h3⟩ := takeRes_run (rs := rs) h2 p4
          have hc0 : cells[0]? = some v := by rw [← Array.getElem?_toList, hv1]; rfl
          have hl := run_load_one (P := P) ht ha (hcell 0 v hc0)
          have hlv : (loadVar ty ⟨b, 0, none⟩).run P w = .ok v w := by simpa [Instr.loadAt, Instr.sureAddr] using hl
          refine ⟨v :: us, fp2, ?_, ?_⟩
          · simp only [List.mapM_cons, resOne, Sem.run_bind, hA, pure_bind, hlv, Result.andThen_ok, h4]
            rfl
          · simp only [ht, ha, Bool.false_eq_true, if_false]
            simpa using h3
      · exact hp.elim
    · exact hp.elim
/-- All results as one value. -/
def resD : List D → D
  | [d] => d
  | ds => .tup ds
theorem results_run {fn : Func} {a : Act} {w : World} {μ : Nat → Nat} {fp : Root → List Nat} {N : Nat} (h : R B n S [] [] a w μ fp N) (hp : (takeRes P S fn.results.toList).1) :
    ∃ v fp', (results fn a.tmps).run P w = .ok v w ∧ R B n (takeRes P S fn.results.toList).2.2 [resD (takeRes P S fn.results.toList).2.1] [v] a w μ fp' N := by
  obtain ⟨us, fp', h1, h2⟩ := takeRes_run h hp
  rw [List.nil_append, List.nil_append] at h2
  have hl := h2.bg.length
  have hrun : (fn.results.mapM (m := Sem) (resOne a.tmps)).run P w = .ok us.toArray w := by
    rw [Array.mapM_eq_mapM_toList]
    simp only [Sem.run_map, h1, Result.andThen_ok]
  generalize (takeRes P S fn.results.toList).2.1 = rs at h2 hl ⊢
  generalize (takeRes P S fn.results.toList).2.2 = S' at h2 ⊢
  have two : us.length ≠ 1 → (results fn a.tmps).run P w = .ok (.tuple us.toArray) w := by
    intro hne
    rw [results_eq]
    simp only [Sem.run_bind, hrun, Result.andThen_ok]
    rw [dif_neg (by simpa using hne)]
    rfl
  have tp : ∀ ds, ds = rs → resD rs = .tup rs → R B n S' [resD rs] [.tuple us.toArray] a w μ fp' N := by
    intro ds _ e
    rw [e]
    refine h2.rebag ?_ ?_
    · simp only [RepL, Rep]
      exact ⟨_, [], _, [], rfl, by simp, ⟨us, rfl, h2.bg⟩, rfl, rfl⟩
    · simp only [bndL, bnd]; exact ⟨h2.bB, trivial⟩
  match rs, hl with
  | [], hl => exact ⟨_, fp', two (by simp at hl; simp [hl]), tp _ rfl rfl⟩
  | [d], hl =>
    obtain ⟨v, rfl⟩ : ∃ v, us = [v] := List.length_eq_one_iff.1 hl
    refine ⟨v, fp', ?_, h2⟩
    rw [results_eq]
    simp only [Sem.run_bind, hrun, Result.andThen_ok]
    rfl
  | d :: e :: rs, hl => exact ⟨_, fp', two (by simp at hl; omega), tp _ rfl rfl⟩
/-- How a function's walk must end: these results, these blocks. -/
def retQ (P : Program) (fn : Func) (r : D) (H' : Hp) : Exit → St → Prop
  | .normal, S => (takeRes P S fn.results.toList).1 ∧ resD (takeRes P S fn.results.toList).2.1 = r ∧ ∀ b cs, H' b = some cs → (takeRes P S fn.results.toList).2.2.H b = some cs
  | .ret, S => (takeRes P S fn.results.toList).1 ∧ resD (takeRes P S fn.results.toList).2.1 = r ∧ ∀ b cs, H' b = some cs → (takeRes P S fn.results.toList).2.2.H b = some cs
  | _, _ => False
mutual
theorem exists_bnd : ∀ d : D, ∃ N, bnd N d
  | .any => ⟨0, by simp [bnd]⟩
  | .nil => ⟨0, by simp [bnd]⟩
  | .nilp => ⟨0, by simp [bnd]⟩
  | .ubool => ⟨0, by simp [bnd]⟩
  | .int _ _ => ⟨0, by simp [bnd]⟩
  | .bool _ => ⟨0, by simp [bnd]⟩
  | .str _ => ⟨0, by simp [bnd]⟩
  | .list n cs => by obtain ⟨N, h⟩ := exists_bndL cs; exact ⟨N, by simpa only [bnd] using h⟩
  | .fr _ _ cs => by obtain ⟨N, h⟩ := exists_bndL cs; exact ⟨N, by simpa only [bnd] using h⟩
  | .st cs => by obtain ⟨N, h⟩ := exists_bndL cs; exact ⟨N, by simpa only [bnd] using h⟩
  | .tup cs => by obtain ⟨N, h⟩ := exists_bndL cs; exact ⟨N, by simpa only [bnd] using h⟩
  | .sl b _ _ _ _ => ⟨b + 1, by simp [bnd]⟩
  | .ptr b _ => ⟨b + 1, by simp [bnd]⟩
  | .pd cs => by obtain ⟨N, h⟩ := exists_bndL cs; exact ⟨N, by simpa only [bnd] using h⟩
  | .box cs => by obtain ⟨N, h⟩ := exists_bndL cs; exact ⟨N, by simpa only [bnd] using h⟩
  | .fn _ cs => by obtain ⟨N, h⟩ := exists_bndL cs; exact ⟨N, by simpa only [bnd] using h⟩
theorem exists_bndL : ∀ ds : List D, ∃ N, bndL N ds
  | [] => ⟨0, by simp [bndL]⟩
  | d :: ds => by
    obtain ⟨N1, h1⟩ := exists_bnd d
    obtain ⟨N2, h2⟩ := exists_bndL ds
    exact ⟨max N1 N2, by simp only [bndL]; exact ⟨h1.mono (Nat.le_max_left ..), h2.mono (Nat.le_max_right ..)⟩⟩
end
theorem getD_pad (vs : List Value) (k t : Nat) : (vs.toArray ++ Array.replicate k undef).getD t undef = vs.getD t undef := by
  rw [Array.getD_eq_getD_getElem?, List.getD_eq_getElem?_getD, Array.getElem?_append]
  split
  · simp
  · rename_i h
    rw [List.getElem?_eq_none (by simpa using h), Array.getElem?_replicate]
    split <;> rfl
theorem bnd_ofArgs {N : Nat} {ds : List D} (h : bndL N ds) (t : Nat) : bnd N (ofArgs ds t) := by
  unfold ofArgs
  rw [List.getD_eq_getElem?_getD]
  cases hd : ds[t]? with
  | none => simp [bnd]
  | some d => exact bndL_iff.1 h d (List.mem_of_getElem? hd)
/-- The same where many ends will do. -/
def retR (P : Program) (fn : Func) (G : Any → D × Hp) : Exit → St → Prop
  | .normal, S => ∃ c, (takeRes P S fn.results.toList).1 ∧ resD (takeRes P S fn.results.toList).2.1 = (G c).1 ∧ ∀ b cs, (G c).2 b = some cs → (takeRes P S fn.results.toList).2.2.H b = some cs
  | .ret, S => ∃ c, (takeRes P S fn.results.toList).1 ∧ resD (takeRes P S fn.results.toList).2.1 = (G c).1 ∧ ∀ b cs, (G c).2 b = some cs → (takeRes P S fn.results.toList).2.2.H b = some cs
  | _, _ => False
/-- A contract out of a walk. -/
theorem Pure.of_walk {f : FuncId} {fn : Func} {c : Code} {args : List D} {r : D} (hf : P.funcs[f]? = some fn) (hb : fn.body = some c) (hn : args.length ≤ fn.ntmps) (hr : closed r = true)
    (h : ∀ B : Base, (∀ x, ¬ B.K x) → AW P B fn.ntmps c (retQ P fn r fun _ => none) ⟨ofArgs args, fun _ => none⟩) : Pure P f args r := by
  intro μ w vs hrep
  have hl := hrep.length
  obtain ⟨N, hN⟩ := exists_bndL args
  refine calls_of_wp hf hb ?_
  have hR : R ⟨w, fun _ => False, fun x => x < w.heap.size, μ, N⟩ fn.ntmps ⟨ofArgs args, fun _ => none⟩ [] [] ⟨vs.toArray ++ Array.replicate (fn.ntmps - vs.toArray.size) undef, []⟩ w μ (fun _ => []) N := by
    refine ⟨by simp; omega, rfl, Frm.refl _ _, fun x hx => ⟨hx, by simp⟩, by simp, by simp, by simp, fun t => ?_, by simp [RepL], by simp, by simp, fun t => bnd_ofArgs hN t, by simp [bndL], by simp, ⟨Nat.le_refl _, fun _ _ => rfl⟩⟩
    show Rep _ _ _ _ ((vs.toArray ++ Array.replicate _ undef).getD t undef) _
    rw [getD_pad]
    obtain ⟨g, g1, g2, _, _⟩ := hrep.slots .nil
    have := g1 t
    have e : g t = [] := List.eq_nil_iff_forall_not_mem.2 fun x hx => by have := g2 t x hx; cases this
    rw [e] at this
    exact Rep.mono (fun x hx => ⟨⟨hx, .inl (.inl hx), by simp⟩, rfl⟩) (by simp) this
  refine wp_mono (h ⟨w, fun _ => False, fun x => x < w.heap.size, μ, N⟩ (by simp) _ w μ _ N hR) fun e a' w' he => ?_
  have fin : ∀ {S : St} {μ' : Nat → Nat} {fp' : Root → List Nat} {N' : Nat}, R ⟨w, fun _ => False, fun x => x < w.heap.size, μ, N⟩ fn.ntmps S [] [] a' w' μ' fp' N' → (takeRes P S fn.results.toList).1 → resD (takeRes P S fn.results.toList).2.1 = r →
      a'.defers = [] ∧ ∃ v, (results fn a'.tmps).run P w' = .ok v w' ∧ ∃ v' fl, Ending.returned v = .returned v' ∧ Rep μ (fun _ => False) w' r v' fl ∧ fl.Nodup ∧ (∀ x ∈ fl, w.heap.size ≤ x ∧ x < w'.heap.size) ∧ Frm w (fun _ => False) w' := by
    intro S μ' fp' N' h1 h2 h3
    obtain ⟨v, fp2, h4, h5⟩ := results_run h1 h2
    rw [h3] at h5
    refine ⟨h1.dfs, v, h4, v, fp2 .bag, rfl, Rep.closed hr h5.bg.one, h5.nod _, fun x hx => ?_, h5.frm⟩
    have := h5.own _ x hx
    exact ⟨this.1.resolve_left (by simp), this.2⟩
  cases e with
  | normal => obtain ⟨S, μ', fp', N', h1, h2, h3, _⟩ := he; exact fin h1 h2 h3
  | ret => obtain ⟨S, μ', fp', N', h1, h2, h3, _⟩ := he; exact fin h1 h2 h3
  | exit id => obtain ⟨S, μ', fp', N', h1, h2⟩ := he; exact h2.elim
  | goto l => exact he.elim
  | panic c => exact he.elim
  | outgrown => exact he.elim
theorem Spec.of_walk {f : FuncId} {fn : Func} {c : Code} {args : List D} {H : Hp} {r : D} {H' : Hp} (hf : P.funcs[f]? = some fn) (hb : fn.body = some c) (hn : args.length ≤ fn.ntmps)
    (h : ∀ B : Base, AW P B fn.ntmps c (retQ P fn r H') ⟨ofArgs args, H⟩) : Spec P f args H r H' := by
  intro w J vs μ fp N hR
  have hl : vs.length = args.length := by have := hR.len; simpa using this
  refine calls_of_wp hf hb ?_
  have hR' : R ⟨w, fun x => ∃ r, x ∈ fp r, J, μ, N⟩ fn.ntmps ⟨ofArgs args, H⟩ [] [] ⟨vs.toArray ++ Array.replicate (fn.ntmps - vs.toArray.size) undef, []⟩ w μ fp N :=
    { hR with
      len := by simp; omega
      tm := fun t => by
        have := hR.tm t
        show Rep _ _ _ _ ((vs.toArray ++ Array.replicate _ undef).getD t undef) _
        rw [getD_pad]
        simpa [List.getD_eq_getElem?_getD, Array.getD_eq_getD_getElem?] using this }
  refine wp_mono (h _ _ w μ _ N hR') fun e a' w' he => ?_
  have fin : ∀ {S : St} {μ' : Nat → Nat} {fp' : Root → List Nat} {N' : Nat}, R ⟨w, fun x => ∃ r, x ∈ fp r, J, μ, N⟩ fn.ntmps S [] [] a' w' μ' fp' N' → (takeRes P S fn.results.toList).1 → resD (takeRes P S fn.results.toList).2.1 = r → (∀ b cs, H' b = some cs → (takeRes P S fn.results.toList).2.2.H b = some cs) →
      a'.defers = [] ∧ ∃ v, (results fn a'.tmps).run P w' = .ok v w' ∧ ∃ v' μ' fp' N', Ending.returned v = .returned v' ∧ R ⟨w, fun x => ∃ r, x ∈ fp r, J, μ, N⟩ 1 ⟨ofArgs [r], H'⟩ [] [] ⟨#[v'], []⟩ w' μ' fp' N' := by
    intro S μ' fp' N' h1 h2 h3 h4
    obtain ⟨v, fp2, h5, h6⟩ := results_run h1 h2
    rw [h3] at h6
    obtain ⟨fp3, h7⟩ := h6.less (S' := ⟨fun _ => .any, H'⟩) ⟨fun _ => .inl rfl, h4⟩
    -- the result goes to the one slot
    have h8 : R ⟨w, fun x => ∃ r, x ∈ fp r, J, μ, N⟩ 1 ⟨fun _ => .any, H'⟩ [r] [v] ⟨#[undef], []⟩ w' μ' (fun rt => match rt with | .slot _ => [] | rt => fp3 rt) N' := by
      have hm : Moves fp3 (fun rt => match rt with | .slot _ => [] | rt => fp3 rt) := .drop h7.nod h7.dis fun rt => by cases rt <;> simp
      refine ⟨rfl, rfl, h7.frm, h7.jk, h7.own' hm, hm.nod, hm.dis, fun t => by simp [Rep], h7.bg.sub hm.sub, fun b cs hc => (h7.hp b cs hc).sub hm.sub rfl (fun _ => rfl), fun b hb => h7.hn b hb, fun t => by simp [bnd], h7.bB, h7.bH, h7.rn⟩
    obtain ⟨fp4, h9⟩ := h8.put (t := 0) (by omega)
    have e : upd (fun _ : Nat => D.any) 0 r = ofArgs [r] := by
      funext t
      cases t with
      | zero => rfl
      | succ t => simp [upd, ofArgs]
    dsimp only at h9
    rw [e] at h9
    exact ⟨h1.dfs, v, h5, v, μ', fp4, N', rfl, h9⟩
  cases e with
  | normal => obtain ⟨S, μ', fp', N', h1, h2, h3, h4⟩ := he; exact fin h1 h2 h3 h4
  | ret => obtain ⟨S, μ', fp', N', h1, h2, h3, h4⟩ := he; exact fin h1 h2 h3 h4
  | exit id => obtain ⟨S, μ', fp', N', h1, h2⟩ := he; exact h2.elim
  | goto l => exact he.elim
  | panic c => exact he.elim
  | outgrown => exact he.elim
theorem PureR.of_walk {f : FuncId} {fn : Func} {c : Code} {args : List D} {G : Any → D} (hf : P.funcs[f]? = some fn) (hb : fn.body = some c) (hn : args.length ≤ fn.ntmps) (hr : ∀ c, closed (G c) = true)
    (h : ∀ B : Base, (∀ x, ¬ B.K x) → AW P B fn.ntmps c (retR P fn fun c => (G c, fun _ => none)) ⟨ofArgs args, fun _ => none⟩) : PureR P f args G := by
  intro μ w vs hrep
  have hl := hrep.length
  obtain ⟨N, hN⟩ := exists_bndL args
  refine calls_of_wp hf hb ?_
  have hR : R ⟨w, fun _ => False, fun x => x < w.heap.size, μ, N⟩ fn.ntmps ⟨ofArgs args, fun _ => none⟩ [] [] ⟨vs.toArray ++ Array.replicate (fn.ntmps - vs.toArray.size) undef, []⟩ w μ (fun _ => []) N := by
    refine ⟨by simp; omega, rfl, Frm.refl _ _, fun x hx => ⟨hx, by simp⟩, by simp, by simp, by simp, fun t => ?_, by simp [RepL], by simp, by simp, fun t => bnd_ofArgs hN t, by simp [bndL], by simp, ⟨Nat.le_refl _, fun _ _ => rfl⟩⟩
    show Rep _ _ _ _ ((vs.toArray ++ Array.replicate _ undef).getD t undef) _
    rw [getD_pad]
    obtain ⟨g, g1, g2, _, _⟩ := hrep.slots .nil
    have := g1 t
    have e : g t = [] := List.eq_nil_iff_forall_not_mem.2 fun x hx => by have := g2 t x hx; cases this
    rw [e] at this
    exact Rep.mono (fun x hx => ⟨⟨hx, .inl (.inl hx), by simp⟩, rfl⟩) (by simp) this
  refine wp_mono (h ⟨w, fun _ => False, fun x => x < w.heap.size, μ, N⟩ (by simp) _ w μ _ N hR) fun e a' w' he => ?_
  have fin : ∀ {S : St} {μ' : Nat → Nat} {fp' : Root → List Nat} {N' : Nat}, R ⟨w, fun _ => False, fun x => x < w.heap.size, μ, N⟩ fn.ntmps S [] [] a' w' μ' fp' N' → (takeRes P S fn.results.toList).1 → (∃ c, resD (takeRes P S fn.results.toList).2.1 = G c) →
      a'.defers = [] ∧ ∃ v, (results fn a'.tmps).run P w' = .ok v w' ∧ ∃ c v' fl, Ending.returned v = .returned v' ∧ Rep μ (fun _ => False) w' (G c) v' fl ∧ fl.Nodup ∧ (∀ x ∈ fl, w.heap.size ≤ x ∧ x < w'.heap.size) ∧ Frm w (fun _ => False) w' := by
    intro S μ' fp' N' h1 h2 ⟨c, h3⟩
    obtain ⟨v, fp2, h4, h5⟩ := results_run h1 h2
    rw [h3] at h5
    refine ⟨h1.dfs, v, h4, c, v, fp2 .bag, rfl, Rep.closed (hr c) h5.bg.one, h5.nod _, fun x hx => ?_, h5.frm⟩
    have := h5.own _ x hx
    exact ⟨this.1.resolve_left (by simp), this.2⟩
  cases e with
  | normal => obtain ⟨S, μ', fp', N', h1, c, h2, h3, _⟩ := he; exact fin h1 h2 ⟨c, h3⟩
  | ret => obtain ⟨S, μ', fp', N', h1, c, h2, h3, _⟩ := he; exact fin h1 h2 ⟨c, h3⟩
  | exit id => obtain ⟨S, μ', fp', N', h1, h2⟩ := he; exact h2.elim
  | goto l => exact he.elim
  | panic c => exact he.elim
  | outgrown => exact he.elim
theorem SpecR.of_walk {f : FuncId} {fn : Func} {c : Code} {args : List D} {H : Hp} {G : Any → D × Hp} (hf : P.funcs[f]? = some fn) (hb : fn.body = some c) (hn : args.length ≤ fn.ntmps)
    (h : ∀ B : Base, AW P B fn.ntmps c (retR P fn G) ⟨ofArgs args, H⟩) : SpecR P f args H G := by
  intro w J vs μ fp N hR
  have hl : vs.length = args.length := by have := hR.len; simpa using this
  refine calls_of_wp hf hb ?_
  have hR' : R ⟨w, fun x => ∃ r, x ∈ fp r, J, μ, N⟩ fn.ntmps ⟨ofArgs args, H⟩ [] [] ⟨vs.toArray ++ Array.replicate (fn.ntmps - vs.toArray.size) undef, []⟩ w μ fp N :=
    { hR with
      len := by simp; omega
      tm := fun t => by
        have := hR.tm t
        show Rep _ _ _ _ ((vs.toArray ++ Array.replicate _ undef).getD t undef) _
        rw [getD_pad]
        simpa [List.getD_eq_getElem?_getD, Array.getD_eq_getD_getElem?] using this }
  refine wp_mono (h _ _ w μ _ N hR') fun e a' w' he => ?_
  have fin : ∀ {S : St} {μ' : Nat → Nat} {fp' : Root → List Nat} {N' : Nat}, R ⟨w, fun x => ∃ r, x ∈ fp r, J, μ, N⟩ fn.ntmps S [] [] a' w' μ' fp' N' → (takeRes P S fn.results.toList).1 → ∀ c, resD (takeRes P S fn.results.toList).2.1 = (G c).1 → (∀ b cs, (G c).2 b = some cs → (takeRes P S fn.results.toList).2.2.H b = some cs) →
      a'.defers = [] ∧ ∃ v, (results fn a'.tmps).run P w' = .ok v w' ∧ ∃ c v' μ' fp' N', Ending.returned v = .returned v' ∧ R ⟨w, fun x => ∃ r, x ∈ fp r, J, μ, N⟩ 1 ⟨ofArgs [(G c).1], (G c).2⟩ [] [] ⟨#[v'], []⟩ w' μ' fp' N' := by
    intro S μ' fp' N' h1 h2 c h3 h4
    obtain ⟨v, fp2, h5, h6⟩ := results_run h1 h2
    rw [h3] at h6
    obtain ⟨fp3, h7⟩ := h6.less (S' := ⟨fun _ => .any, (G c).2⟩) ⟨fun _ => .inl rfl, h4⟩
    -- the result goes to the one slot
    have h8 : R ⟨w, fun x => ∃ r, x ∈ fp r, J, μ, N⟩ 1 ⟨fun _ => .any, (G c).2⟩ [(G c).1] [v] ⟨#[undef], []⟩ w' μ' (fun rt => match rt with | .slot _ => [] | rt => fp3 rt) N' := by
      have hm : Moves fp3 (fun rt => match rt with | .slot _ => [] | rt => fp3 rt) := .drop h7.nod h7.dis fun rt => by cases rt <;> simp
      refine ⟨rfl, rfl, h7.frm, h7.jk, h7.own' hm, hm.nod, hm.dis, fun t => by simp [Rep], h7.bg.sub hm.sub, fun b cs hc => (h7.hp b cs hc).sub hm.sub rfl (fun _ => rfl), fun b hb => h7.hn b hb, fun t => by simp [bnd], h7.bB, h7.bH, h7.rn⟩
    obtain ⟨fp4, h9⟩ := h8.put (t := 0) (by omega)
    have e : upd (fun _ : Nat => D.any) 0 (G c).1 = ofArgs [(G c).1] := by
      funext t
      cases t with
      | zero => rfl
      | succ t => simp [upd, ofArgs]
    dsimp only at h9
    rw [e] at h9
    exact ⟨h1.dfs, v, h5, c, v, μ', fp4, N', rfl, h9⟩
  cases e with
  | normal => obtain ⟨S, μ', fp', N', h1, c, h2, h3, h4⟩ := he; exact fin h1 h2 c h3 h4
  | ret => obtain ⟨S, μ', fp', N', h1, c, h2, h3, h4⟩ := he; exact fin h1 h2 c h3 h4
  | exit id => obtain ⟨S, μ', fp', N', h1, h2⟩ := he; exact h2.elim
  | goto l => exact he.elim
  | panic c => exact he.elim
  | outgrown => exact he.elim
end
end Go.Proofs.Ytljncoikoffijaa.Vm


/-
  A region whose order is drawn: operations that do not touch each other may change places. No conditions; nothing of the program is named here.
-/
namespace Go.Proofs.Ytljncoikoffijaa.Vm
open Go
set_option linter.unusedVariables false
set_option linter.unusedSimpArgs false
set_option linter.unusedSectionVars false
section
variable {P : Program} {Γ : FuncId → Con} {ch cx cy : Any}

/-! ### What an operation changes -/
/-- The slots that an operation's operands name. -/
def slotsOf (o : Oper) : List Nat := o.op.operands.toList.filterMap fun | .tmp t => some t | _ => none
def guardSlot (ops : Array Oper) (o : Oper) : Option Nat := o.guard.bind fun (j, _) => (ops[j]?).bind (·.dst)
def readsOf (ops : Array Oper) (o : Oper) : List Nat := slotsOf o ++ (guardSlot ops o).toList
theorem mem_slots {o : Oper} {t : Nat} : t ∈ slotsOf o ↔ Operand.tmp t ∈ o.op.operands.toList := by
  unfold slotsOf
  rw [List.mem_filterMap]
  constructor
  · rintro ⟨x, hx, he⟩
    cases x <;> simp at he
    subst he; exact hx
  · intro h; exact ⟨_, h, rfl⟩
theorem grabs_fst {T T' : Nat → D} : ∀ {xs : List Operand}, (∀ t, Operand.tmp t ∈ xs → T t = T' t) → (grabs T xs).1 = (grabs T' xs).1 ∧ ∀ t, Operand.tmp t ∈ xs → (grabs T xs).2 t = (grabs T' xs).2 t
  | [], h => ⟨rfl, by simp⟩
  | .tmp t :: xs, h => by
    have h0 := h t (by simp)
    have hg : ∀ t', Operand.tmp t' ∈ (Operand.tmp t :: xs) → grab T t t' = grab T' t t' := fun t' ht' => by
      simp only [grab, h0]
      split
      · simp only [upd]; split; rfl; exact h t' ht'
      · exact h t' ht'
    have ih := grabs_fst (T := grab T t) (T' := grab T' t) (xs := xs) fun t' ht' => hg t' (by simp [ht'])
    refine ⟨by simp only [grabs]; rw [h0, ih.1], fun t' ht' => ?_⟩
    simp only [grabs]
    rcases List.mem_cons.1 ht' with e | e
    · cases e
      by_cases hm : Operand.tmp t ∈ xs
      · exact ih.2 t hm
      · have out : ∀ {T : Nat → D} {xs : List Operand}, Operand.tmp t ∉ xs → (grabs T xs).2 t = T t := by
          intro T xs
          induction xs generalizing T with
          | nil => intro _; rfl
          | cons x xs ih =>
            intro hm
            simp only [List.mem_cons, not_or] at hm
            cases x <;> simp only [grabs]
            · rw [ih hm.2]
              simp only [grab]
              split
              · rw [upd_ne (fun e => hm.1 (by rw [e]))]
              · rfl
            all_goals exact ih hm.2
        rw [out hm, out hm]
        exact hg t (by simp)
    · exact ih.2 t' e
  | .const v :: xs, h => by
    have ih := grabs_fst (xs := xs) fun t ht => h t (by simp [ht])
    exact ⟨by simp only [grabs]; rw [ih.1], fun t ht => by simp only [grabs]; exact ih.2 t (by simpa using ht)⟩
  | .func f :: xs, h => by
    have ih := grabs_fst (xs := xs) fun t ht => h t (by simp [ht])
    exact ⟨by simp only [grabs]; rw [ih.1], fun t ht => by simp only [grabs]; exact ih.2 t (by simpa using ht)⟩
  | .global g :: xs, h => by
    have ih := grabs_fst (xs := xs) fun t ht => h t (by simp [ht])
    exact ⟨by simp only [grabs]; rw [ih.1], fun t ht => by simp only [grabs]; exact ih.2 t (by simpa using ht)⟩
theorem grabs_snd {T : Nat → D} {t : Nat} : ∀ {xs : List Operand}, Operand.tmp t ∉ xs ∨ owns (T t) = false → (grabs T xs).2 t = T t
  | [], h => rfl
  | x :: xs, h => by
    have h' : Operand.tmp t ∉ xs ∨ owns (T t) = false := h.imp (fun h hm => h (by simp [hm])) id
    cases x with
    | tmp t' =>
      simp only [grabs]
      have e : grab T t' t = T t := by
        simp only [grab]
        split
        · rename_i ho
          by_cases e : t = t'
          · subst e
            rcases h with h | h
            · exact (h (by simp)).elim
            · rw [h] at ho; cases ho
          · rw [upd_ne e]
        · rfl
      rw [grabs_snd (by rw [e]; exact h'), e]
    | const v => simp only [grabs]; exact grabs_snd h'
    | func f => simp only [grabs]; exact grabs_snd h'
    | global g => simp only [grabs]; exact grabs_snd h'
theorem taken_fst {T T' : Nat → D} {o : Oper} (h : ∀ t ∈ slotsOf o, T t = T' t) : (taken T o.op).1 = (taken T' o.op).1 ∧ ∀ t ∈ slotsOf o, (taken T o.op).2 t = (taken T' o.op).2 t := by
  have h' : ∀ t, Operand.tmp t ∈ o.op.operands.toList → T t = T' t := fun t ht => h t (mem_slots.2 ht)
  unfold taken
  split
  · refine ⟨?_, h⟩
    dsimp only
    apply List.map_congr_left
    intro x hx
    cases x with
    | tmp t => simp only [look]; rw [h' t hx]
    | _ => rfl
  · exact ⟨(grabs_fst h').1, fun t ht => (grabs_fst h').2 t (mem_slots.1 ht)⟩
theorem taken_snd {T : Nat → D} {o : Oper} {t : Nat} (h : t ∉ slotsOf o ∨ owns (T t) = false) : (taken T o.op).2 t = T t := by
  unfold taken
  split
  · rfl
  · exact grabs_snd (h.imp (fun h hm => h (mem_slots.2 hm)) id)

/-! ### Memory -/
theorem opF_H {o : Oper} {T : Nat → D} {H : Hp} (hk : kindO Γ o ≤ 1) : (opF P Γ ch true o (taken T o.op).1 H).H = H := by
  generalize hvs : (taken T o.op).1 = vs
  unfold opF
  unfold kindO at hk
  split <;> rename_i ho <;> (try rw [ho] at hk hvs)
  · split <;> rfl
  · split <;> rfl
  · split <;> rfl
  · unfold opAlloc; split <;> rfl
  · unfold opBox; split <;> rfl
  · unfold opBuild; (repeat' split) <;> rfl
  · unfold opBuildSlice; (repeat' split) <;> rfl
  · simp only [opLoadT]; unfold opLoad; (repeat' split) <;> rfl
  · simp at hk
  · unfold opNil; (repeat' split) <;> rfl
  · unfold opBin; (repeat' split) <;> rfl
  · unfold opUn; (repeat' split) <;> rfl
  · unfold opConvert; (repeat' split) <;> rfl
  · unfold opMakeFunc; (repeat' split) <;> rfl
  · unfold opMakeSlice; (repeat' split) <;> rfl
  · unfold opSlice; (repeat' split) <;> rfl
  · unfold opFieldAddr; (repeat' split) <;> rfl
  · unfold opField; (repeat' split) <;> rfl
  · unfold opIndexAddr; (repeat' split) <;> rfl
  · unfold opIndexT opIndex; (repeat' split) <;> rfl
  · unfold opExtract; (repeat' split) <;> rfl
  · rename_i c
    unfold opCallT
    split
    · unfold opLenT opLen; (repeat' split) <;> rfl
    · unfold opAppendT
      split
      · rfl
      · unfold opAppZ; (repeat' split) <;> rfl
      · rename_i hn _
        unfold opAppend
        split
        · split
          · split
            · split
              · rfl
              · rfl
              · exact (hn _ _ _ _ _ _ rfl rfl).elim
              · rfl
            · rfl
          · rfl
        · rfl
    · unfold opCapT opCap; (repeat' split) <;> rfl
    · rename_i h1 _ _
      dsimp only at hk
      rw [h1] at hk; simp at hk
    · rename_i g hg
      dsimp only at hk
      rw [hg] at hk
      cases g with
      | func f =>
        simp only at hk
        unfold opCall
        split
        · rename_i f' caps args
          have e : f' = f := by
            obtain ⟨c1, c2, c3⟩ := c
            simp only at hg
            subst hg
            simp [taken, isLen, Op.operands, Call.operands, grabs] at hvs
            exact hvs.1.1.symm
          subst e
          cases hΓf : Γ f' with
          | none => rfl
          | pure F => rfl
          | ext F => rfl
          | prel F => rfl
          | rel F => rw [hΓf] at hk; simp [isPure] at hk
          | gen F => rw [hΓf] at hk; simp [isPure] at hk
        · rfl
      | _ => simp at hk
    · rfl
  · rfl
theorem opF_indep {o : Oper} {T : Nat → D} {H H' : Hp} (hk : kindO Γ o = 0) : (opF P Γ ch true o (taken T o.op).1 H).pre = (opF P Γ ch true o (taken T o.op).1 H').pre ∧ (opF P Γ ch true o (taken T o.op).1 H).val = (opF P Γ ch true o (taken T o.op).1 H').val ∧ (opF P Γ ch true o (taken T o.op).1 H).back = (opF P Γ ch true o (taken T o.op).1 H').back := by
  generalize hvs : (taken T o.op).1 = vs
  unfold opF
  unfold kindO at hk
  split <;> rename_i ho <;> (try rw [ho] at hk hvs)
  · split <;> exact ⟨rfl, rfl, rfl⟩
  · split <;> exact ⟨rfl, rfl, rfl⟩
  · split <;> exact ⟨rfl, rfl, rfl⟩
  · unfold opAlloc; split <;> exact ⟨rfl, rfl, rfl⟩
  · unfold opBox; split <;> exact ⟨rfl, rfl, rfl⟩
  · unfold opBuild; (repeat' split) <;> exact ⟨rfl, rfl, rfl⟩
  · unfold opBuildSlice; (repeat' split) <;> exact ⟨rfl, rfl, rfl⟩
  · simp at hk
  · simp at hk
  · unfold opNil; (repeat' split) <;> exact ⟨rfl, rfl, rfl⟩
  · unfold opBin; (repeat' split) <;> exact ⟨rfl, rfl, rfl⟩
  · unfold opUn; (repeat' split) <;> exact ⟨rfl, rfl, rfl⟩
  · unfold opConvert; (repeat' split) <;> exact ⟨rfl, rfl, rfl⟩
  · unfold opMakeFunc; (repeat' split) <;> exact ⟨rfl, rfl, rfl⟩
  · unfold opMakeSlice; (repeat' split) <;> exact ⟨rfl, rfl, rfl⟩
  · unfold opSlice; (repeat' split) <;> exact ⟨rfl, rfl, rfl⟩
  · unfold opFieldAddr; (repeat' split) <;> exact ⟨rfl, rfl, rfl⟩
  · unfold opField; (repeat' split) <;> exact ⟨rfl, rfl, rfl⟩
  · unfold opIndexAddr; (repeat' split) <;> exact ⟨rfl, rfl, rfl⟩
  · unfold opIndexT opIndex; (repeat' split) <;> exact ⟨rfl, rfl, rfl⟩
  · unfold opExtract; (repeat' split) <;> exact ⟨rfl, rfl, rfl⟩
  · rename_i c
    unfold opCallT
    split
    · unfold opLenT opLen; (repeat' split) <;> exact ⟨rfl, rfl, rfl⟩
    · rename_i h1 _ _
      dsimp only at hk
      rw [h1] at hk; simp at hk
    · unfold opCapT opCap; (repeat' split) <;> exact ⟨rfl, rfl, rfl⟩
    · rename_i h1 _ _
      dsimp only at hk
      rw [h1] at hk; simp at hk
    · rename_i g hg
      dsimp only at hk
      rw [hg] at hk
      cases g with
      | func f => simp only at hk; split at hk <;> simp at hk
      | _ => simp at hk
    · exact ⟨rfl, rfl, rfl⟩
  · exact ⟨rfl, rfl, rfl⟩

/-! ### One operation, locally -/
theorem back_owned {o : Oper} {T : Nat → D} {H : Hp} {t : Nat} {xs : List Operand} (hx : o.op.operands.toList = .tmp t :: xs) (hb : (opF P Γ ch true o (taken T o.op).1 H).back ≠ none) : owns (T t) = true := by
  revert hb
  generalize hvs : (taken T o.op).1 = vs
  have key : ∀ d ds, isLen o.op = false → vs = d :: ds → d = T t := by
    intro d ds hl e
    rw [e] at hvs
    simp only [taken, hl, Bool.false_eq_true, if_false, hx, grabs] at hvs
    simp at hvs
    exact hvs.1.symm
  unfold opF
  split <;> rename_i ho <;> (try rw [ho] at key)
  · split <;> (intro h; exact (h rfl).elim)
  · split <;> (intro h; exact (h rfl).elim)
  · split <;> (intro h; exact (h rfl).elim)
  · unfold opAlloc; split <;> (intro h; exact (h rfl).elim)
  · unfold opBox; split <;> (intro h; exact (h rfl).elim)
  · unfold opBuild; (repeat' split) <;> (intro h; exact (h rfl).elim)
  · unfold opBuildSlice; (repeat' split) <;> (intro h; exact (h rfl).elim)
  · simp only [opLoadT]; unfold opLoad; (repeat' split) <;> (intro h; exact (h rfl).elim)
  · unfold opStore
    split
    · split <;> (intro h; exact (h rfl).elim)
    · intro _
      rw [← key _ _ rfl rfl]
      rfl
    · intro h; exact (h rfl).elim
  · unfold opNil; (repeat' split) <;> (intro h; exact (h rfl).elim)
  · unfold opBin; (repeat' split) <;> (intro h; exact (h rfl).elim)
  · unfold opUn; (repeat' split) <;> (intro h; exact (h rfl).elim)
  · unfold opConvert; (repeat' split) <;> (intro h; exact (h rfl).elim)
  · unfold opMakeFunc; (repeat' split) <;> (intro h; exact (h rfl).elim)
  · unfold opMakeSlice; (repeat' split) <;> (intro h; exact (h rfl).elim)
  · unfold opSlice; (repeat' split) <;> (intro h; exact (h rfl).elim)
  · unfold opFieldAddr; (repeat' split) <;> (intro h; exact (h rfl).elim)
  · unfold opField; (repeat' split) <;> (intro h; exact (h rfl).elim)
  · unfold opIndexAddr; (repeat' split) <;> (intro h; exact (h rfl).elim)
  · unfold opIndexT opIndex; (repeat' split) <;> (intro h; exact (h rfl).elim)
  · unfold opExtract
    split
    · rename_i ds
      dsimp only
      split
      · rename_i hds
        intro _
        rw [← key _ _ rfl rfl]
        exact hds
      · intro h; exact (h rfl).elim
    · intro h; exact (h rfl).elim
  · unfold opCallT
    split
    · unfold opLenT opLen; (repeat' split) <;> (intro h; exact (h rfl).elim)
    · unfold opAppendT opAppend opAppZ; (repeat' split) <;> (intro h; exact (h rfl).elim)
    · unfold opCapT opCap; (repeat' split) <;> (intro h; exact (h rfl).elim)
    · unfold opCopy; (repeat' split) <;> (intro h; exact (h rfl).elim)
    · unfold opCall; (repeat' split) <;> (intro h; exact (h rfl).elim)
    · intro h; exact (h rfl).elim
  · intro h; exact (h rfl).elim
theorem putD_ne {dst : Option Nat} {d : D} {T : Nat → D} {t : Nat} (h : dst ≠ some t) : putD dst d T t = T t := by
  cases dst with
  | none => rfl
  | some t' => exact upd_ne fun e => h (by rw [e])
theorem putD_eq {dst : Option Nat} {d : D} {T : Nat → D} {t : Nat} (h : dst = some t) : putD dst d T t = d := by subst h; exact upd_eq ..
theorem backT_cases (op : Op) (b : Option D) (T : Nat → D) : backT op b T = T ∨ ∃ d t xs, b = some d ∧ op.operands.toList = .tmp t :: xs ∧ backT op b T = upd T t d := by
  unfold backT
  cases b with
  | none => exact .inl rfl
  | some d =>
    cases hx : op.operands.toList with
    | nil => exact .inl rfl
    | cons x xs =>
      cases x with
      | tmp t => exact .inr ⟨d, t, xs, rfl, rfl, rfl⟩
      | _ => exact .inl rfl
theorem backT_congr (op : Op) (b : Option D) {T T' : Nat → D} {t : Nat} (h : T t = T' t) : backT op b T t = backT op b T' t := by
  unfold backT
  cases b with
  | none => exact h
  | some d =>
    cases op.operands.toList with
    | nil => exact h
    | cons x xs =>
      cases x with
      | tmp t' => simp only [upd]; split; rfl; exact h
      | _ => exact h
theorem backT_ne {o : Oper} {b : Option D} {T : Nat → D} {t : Nat} (h : b ≠ none → ∀ xs, o.op.operands.toList ≠ .tmp t :: xs) : backT o.op b T t = T t := by
  rcases backT_cases o.op b T with e | ⟨d, t', xs, h1, h2, e⟩
  · rw [e]
  · rw [e]
    exact upd_ne fun e' => h (by rw [h1]; simp) xs (by rw [e']; exact h2)
theorem stepG_frame {ops : Array Oper} {o : Oper} {S : St} {t : Nat} (h1 : o.dst ≠ some t) (h2 : t ∉ slotsOf o ∨ owns (S.T t) = false) : (stepG P Γ ch true ops o S).2.T t = S.T t := by
  unfold stepG
  split
  · rfl
  · exact putD_ne h1
  · simp only [step]
    rw [putD_ne h1, backT_ne, taken_snd h2]
    intro hb xs hx
    have ho := back_owned hx hb
    rcases h2 with h2 | h2
    · exact h2 (mem_slots.2 (by rw [hx]; simp))
    · rw [h2] at ho; cases ho
theorem stepG_H {ops : Array Oper} {o : Oper} {S : St} (hk : kindO Γ o ≤ 1) : (stepG P Γ ch true ops o S).2.H = S.H := by
  unfold stepG
  split
  · rfl
  · rfl
  · simp only [step]; exact opF_H hk
theorem guardD_local {ops : Array Oper} {o : Oper} {T T' : Nat → D} (hT : ∀ t ∈ readsOf ops o, T t = T' t) : guardD ops o T = guardD ops o T' := by
  unfold guardD
  cases hg : o.guard with
  | none => rfl
  | some jw =>
    obtain ⟨j, want⟩ := jw
    dsimp only
    cases hj : ops[j]? with
    | none => rfl
    | some oj =>
      dsimp only
      cases hd : oj.dst with
      | none => rfl
      | some d =>
        dsimp only
        rw [hT d (by simp [readsOf, guardSlot, hg, hj, hd])]
theorem stepG_local {ops : Array Oper} {o : Oper} {S S' : St} (hT : ∀ t ∈ readsOf ops o, S.T t = S'.T t) (hH : S.H = S'.H ∨ kindO Γ o = 0) :
    (stepG P Γ ch true ops o S).1 = (stepG P Γ ch true ops o S').1 ∧ ((stepG P Γ ch true ops o S).1 → (∀ t, t ∈ slotsOf o ∨ o.dst = some t → (stepG P Γ ch true ops o S).2.T t = (stepG P Γ ch true ops o S').2.T t) ∧ (S.H = S'.H → (stepG P Γ ch true ops o S).2.H = (stepG P Γ ch true ops o S').2.H)) := by
  have hT' : ∀ t ∈ slotsOf o, S.T t = S'.T t := fun t ht => hT t (by simp [readsOf, ht])
  have hg := guardD_local hT
  unfold stepG
  rw [← hg]
  cases guardD ops o S.T with
  | none => exact ⟨rfl, fun h => h.elim⟩
  | some b =>
    cases b with
    | false =>
      refine ⟨rfl, fun _ => ⟨fun t ht => ?_, fun h => h⟩⟩
      dsimp only
      by_cases hd : o.dst = some t
      · rw [putD_eq hd, putD_eq hd]
      · rw [putD_ne hd, putD_ne hd]
        exact hT' t (ht.resolve_right hd)
    | true =>
      dsimp only
      obtain ⟨e1, e2⟩ := taken_fst (o := o) hT'
      have er : (opF P Γ ch true o (taken S.T o.op).1 S.H).pre = (opF P Γ ch true o (taken S'.T o.op).1 S'.H).pre ∧ (opF P Γ ch true o (taken S.T o.op).1 S.H).val = (opF P Γ ch true o (taken S'.T o.op).1 S'.H).val ∧ (opF P Γ ch true o (taken S.T o.op).1 S.H).back = (opF P Γ ch true o (taken S'.T o.op).1 S'.H).back := by
        rcases hH with h | h
        · rw [e1, h]; exact ⟨rfl, rfl, rfl⟩
        · have := opF_indep (P := P) (ch := ch) (T := S.T) (H := S.H) (H' := S'.H) h
          rw [e1] at this ⊢
          exact this
      obtain ⟨r1, r2, r3⟩ := er
      simp only [step]
      rw [r1, r2, r3]
      refine ⟨rfl, fun _ => ⟨fun t ht => ?_, fun h => by rw [e1, h]⟩⟩
      by_cases hd : o.dst = some t
      · rw [putD_eq hd, putD_eq hd]
      · rw [putD_ne hd, putD_ne hd]
        have ht := ht.resolve_right hd
        exact backT_congr _ _ (e2 t ht)

/-! ### Two operations change places -/
/-- Slots that two operations read own nothing. -/
def NS (sh : List Nat) (S : St) : Prop := ∀ t ∈ sh, owns (S.T t) = false
def disjoint2 (Γ : FuncId → Con) (ops : Array Oper) (sh : List Nat) (x y : Oper) : Bool :=
  (match x.dst with
   | some d => !(readsOf ops y).contains d && !decide (y.dst = some d)
   | none => true) &&
  (match y.dst with
   | some d => !(readsOf ops x).contains d
   | none => true) &&
  (slotsOf x).all (fun t => !(slotsOf y).contains t || sh.contains t) &&
  !(kindO Γ x == 2 && kindO Γ y != 0) && !(kindO Γ y == 2 && kindO Γ x != 0) &&
  (guardSlot ops y).toList.all (fun t => !(slotsOf x).contains t || sh.contains t) && (guardSlot ops x).toList.all (fun t => !(slotsOf y).contains t || sh.contains t)
structure Apart (Γ : FuncId → Con) (ops : Array Oper) (sh : List Nat) (x y : Oper) : Prop where
  xy : ∀ t, x.dst = some t → t ∉ readsOf ops y ∧ y.dst ≠ some t
  yx : ∀ t, y.dst = some t → t ∉ readsOf ops x
  shr : ∀ t, t ∈ slotsOf x → t ∈ slotsOf y → t ∈ sh
  k1 : kindO Γ x = 2 → kindO Γ y = 0
  k2 : kindO Γ y = 2 → kindO Γ x = 0
  gy : ∀ t, guardSlot ops y = some t → t ∈ slotsOf x → t ∈ sh
  gx : ∀ t, guardSlot ops x = some t → t ∈ slotsOf y → t ∈ sh
theorem apart_of {ops : Array Oper} {sh : List Nat} {x y : Oper} (h : disjoint2 Γ ops sh x y = true) : Apart Γ ops sh x y := by
  unfold disjoint2 at h
  simp only [Bool.and_eq_true] at h
  obtain ⟨⟨⟨⟨⟨⟨h1, h2⟩, h3⟩, h4⟩, h5⟩, h8⟩, h9⟩ := h
  refine ⟨fun t ht => ?_, fun t ht => ?_, fun t h6 h7 => ?_, fun h6 => ?_, fun h6 => ?_, fun t h6 h7 => ?_, fun t h6 h7 => ?_⟩
  · rw [ht] at h1; simpa using h1
  · rw [ht] at h2; simpa using h2
  · rw [List.all_eq_true] at h3
    have := h3 t h6
    simpa [h7] using this
  · simpa [h6] using h4
  · simpa [h6] using h5
  · rw [h6] at h8; simpa [h7] using h8
  · rw [h6] at h9; simpa [h7] using h9
theorem kind_le (o : Oper) : kindO Γ o ≤ 2 := by
  unfold kindO
  split
  · omega
  · omega
  · split
    · omega
    · omega
    · split <;> omega
    · omega
  · omega
/-- What one reads, the other leaves. -/
theorem Apart.reads {ops : Array Oper} {sh : List Nat} {x y : Oper} (h : Apart Γ ops sh x y) {S : St} (hs : NS sh S) : ∀ t ∈ readsOf ops y, (stepG P Γ cx true ops x S).2.T t = S.T t := by
  intro t ht
  refine stepG_frame (fun e => (h.xy t e).1 ht) ?_
  by_cases hx : t ∈ slotsOf x
  · right
    unfold readsOf at ht
    rcases List.mem_append.1 ht with ht | ht
    · exact hs t (h.shr t hx ht)
    · exact hs t (h.gy t (by simpa using ht) hx)
  · exact .inl hx
theorem Apart.symm {ops : Array Oper} {sh : List Nat} {x y : Oper} (h : Apart Γ ops sh x y) : Apart Γ ops sh y x :=
  ⟨fun t ht => ⟨h.yx t ht, fun e => (h.xy t e).2 ht⟩, fun t ht => (h.xy t ht).1, fun t h1 h2 => h.shr t h2 h1, h.k2, h.k1, h.gx, h.gy⟩
theorem Apart.swap {ops : Array Oper} {sh : List Nat} {x y : Oper} (h : Apart Γ ops sh x y) {S : St} (hs : NS sh S)
    (px : (stepG P Γ cx true ops x S).1) (py : (stepG P Γ cy true ops y (stepG P Γ cx true ops x S).2).1) :
    (stepG P Γ cy true ops y S).1 ∧ (stepG P Γ cx true ops x (stepG P Γ cy true ops y S).2).1 ∧ (stepG P Γ cx true ops x (stepG P Γ cy true ops y S).2).2 = (stepG P Γ cy true ops y (stepG P Γ cx true ops x S).2).2 ∧
      (stepG P Γ cy true ops y S).2.T = (fun t => if t ∈ slotsOf y ∨ y.dst = some t then (stepG P Γ cy true ops y (stepG P Γ cx true ops x S).2).2.T t else S.T t) := by
  have hry := h.reads (P := P) (cx := cx) hs
  have hrx := h.symm.reads (P := P) (cx := cy) hs
  have kx := kind_le (Γ := Γ) x
  have ky := kind_le (Γ := Γ) y
  -- y, before and behind x
  have hHy : (stepG P Γ cx true ops x S).2.H = S.H ∨ kindO Γ y = 0 := by
    by_cases e : kindO Γ x = 2
    · exact .inr (h.k1 e)
    · exact .inl (stepG_H (by omega))
  obtain ⟨ly1, ly2⟩ := stepG_local (P := P) (ch := cy) (S := (stepG P Γ cx true ops x S).2) (S' := S) hry hHy
  have py' : (stepG P Γ cy true ops y S).1 := by rw [← ly1]; exact py
  obtain ⟨ly3, ly4⟩ := ly2 py
  have hHx : (stepG P Γ cy true ops y S).2.H = S.H ∨ kindO Γ x = 0 := by
    by_cases e : kindO Γ y = 2
    · exact .inr (h.k2 e)
    · exact .inl (stepG_H (by omega))
  obtain ⟨lx1, lx2⟩ := stepG_local (P := P) (ch := cx) (S := (stepG P Γ cy true ops y S).2) (S' := S) hrx hHx
  have px' : (stepG P Γ cx true ops x (stepG P Γ cy true ops y S).2).1 := by rw [lx1]; exact px
  obtain ⟨lx3, lx4⟩ := lx2 px'
  -- slots
  have fx : ∀ (S : St) t, ¬ (t ∈ slotsOf x ∨ x.dst = some t) → (stepG P Γ cx true ops x S).2.T t = S.T t := fun S t ht => stepG_frame (fun e => ht (.inr e)) (.inl fun e => ht (.inl e))
  have fy : ∀ (S : St) t, ¬ (t ∈ slotsOf y ∨ y.dst = some t) → (stepG P Γ cy true ops y S).2.T t = S.T t := fun S t ht => stepG_frame (fun e => ht (.inr e)) (.inl fun e => ht (.inl e))
  have both : ∀ t, (t ∈ slotsOf x ∨ x.dst = some t) → (t ∈ slotsOf y ∨ y.dst = some t) → t ∈ slotsOf x ∧ t ∈ slotsOf y ∧ x.dst ≠ some t ∧ y.dst ≠ some t ∧ owns (S.T t) = false := by
    intro t h1 h2
    have n1 : x.dst ≠ some t := fun e => by
      have := h.xy t e
      rcases h2 with h2 | h2
      · exact this.1 (by simp [readsOf, h2])
      · exact this.2 h2
    have h1 := h1.resolve_right n1
    have n2 : y.dst ≠ some t := fun e => h.yx t e (by simp [readsOf, h1])
    have h2 := h2.resolve_right n2
    exact ⟨h1, h2, n1, n2, hs t (h.shr t h1 h2)⟩
  have eqT : ∀ t, (stepG P Γ cx true ops x (stepG P Γ cy true ops y S).2).2.T t = (stepG P Γ cy true ops y (stepG P Γ cx true ops x S).2).2.T t := by
    intro t
    by_cases h1 : t ∈ slotsOf x ∨ x.dst = some t <;> by_cases h2 : t ∈ slotsOf y ∨ y.dst = some t
    · obtain ⟨a1, a2, a3, a4, a5⟩ := both t h1 h2
      have e1 : (stepG P Γ cx true ops x S).2.T t = S.T t := stepG_frame a3 (.inr a5)
      have e2 : (stepG P Γ cy true ops y S).2.T t = S.T t := stepG_frame a4 (.inr a5)
      have e3 := stepG_frame (P := P) (Γ := Γ) (ch := cx) (ops := ops) (S := (stepG P Γ cy true ops y S).2) a3 (.inr (by rw [e2]; exact a5))
      have e4 := stepG_frame (P := P) (Γ := Γ) (ch := cy) (ops := ops) (S := (stepG P Γ cx true ops x S).2) a4 (.inr (by rw [e1]; exact a5))
      rw [e3, e4, e1, e2]
    · rw [lx3 t h1, fy _ t h2]
    · rw [fx _ t h1, ly3 t h2]
    · rw [fx _ t h1, fy _ t h2, fy _ t h2, fx _ t h1]
  have eqH : (stepG P Γ cx true ops x (stepG P Γ cy true ops y S).2).2.H = (stepG P Γ cy true ops y (stepG P Γ cx true ops x S).2).2.H := by
    by_cases e1 : kindO Γ x = 2
    · have k0 := h.k1 e1
      rw [stepG_H (P := P) (ch := cy) (o := y) (S := (stepG P Γ cx true ops x S).2) (by omega)]
      exact lx4 (stepG_H (by omega))
    · rw [stepG_H (P := P) (ch := cx) (o := x) (S := (stepG P Γ cy true ops y S).2) (by omega)]
      exact (ly4 (stepG_H (by omega))).symm
  refine ⟨py', px', ?_, ?_⟩
  · cases hA : (stepG P Γ cx true ops x (stepG P Γ cy true ops y S).2).2 with
    | mk T1 H1 =>
      cases hB : (stepG P Γ cy true ops y (stepG P Γ cx true ops x S).2).2 with
      | mk T2 H2 =>
        rw [hA, hB] at eqH eqT
        dsimp only at eqH eqT
        rw [eqH, funext eqT]
  · funext t
    split
    · rename_i ht; exact (ly3 t ht).symm
    · rename_i ht; exact fy _ t ht

/-! ### Two parts of one tuple taken -/
def twoX (sh : List Nat) (x y : Oper) : Bool :=
  match x.op, y.op, x.dst, y.dst with
  | .extract (.tmp t) i, .extract (.tmp t') j, some d, some e => decide (t = t') && !decide (i = j) && x.guard.isNone && y.guard.isNone && !decide (d = t) && !decide (e = t) && !decide (d = e) && !sh.contains d && !sh.contains e
  | _, _, _, _ => false
def hole (ds : List D) (i : Nat) : List D := if owns (ds.getD i .any) then ds.set i .any else ds
theorem hole_length (ds : List D) (i : Nat) : (hole ds i).length = ds.length := by unfold hole; split <;> simp
theorem hole_get (ds : List D) {i j : Nat} (h : i ≠ j) : (hole ds i).getD j .any = ds.getD j .any := by
  unfold hole; split
  · rw [List.getD_eq_getElem?_getD, List.getD_eq_getElem?_getD, List.getElem?_set_ne h]
  · rfl
theorem hole_comm (ds : List D) {i j : Nat} (h : i ≠ j) : hole (hole ds i) j = hole (hole ds j) i := by
  have e1 := hole_get ds h
  have e2 := hole_get ds h.symm
  have u1 : ∀ l, hole l i = if owns (l.getD i .any) then l.set i .any else l := fun _ => rfl
  have u2 : ∀ l, hole l j = if owns (l.getD j .any) then l.set j .any else l := fun _ => rfl
  rw [u2 (hole ds i), u1 (hole ds j), e1, e2, u1 ds, u2 ds]
  split <;> split <;> first | rfl | exact List.set_comm _ _ h
theorem hole_owns {ds : List D} (h : ownsL ds = false) (i : Nat) : hole ds i = ds := by
  unfold hole
  rw [if_neg]
  by_cases hi : i < ds.length
  · have := ownsL_iff.1 h (ds.getD i .any) (by rw [List.getD_eq_getElem?_getD, List.getElem?_eq_getElem hi]; exact List.getElem_mem hi)
    rw [this]; simp
  · rw [List.getD_eq_getElem?_getD, List.getElem?_eq_none (by omega)]; simp [owns]
theorem stepG_extract {ops : Array Oper} {x : Oper} {t i d : Nat} (ho : x.op = .extract (.tmp t) i) (hg : x.guard = none) (hd : x.dst = some d) (hdt : d ≠ t) {S : St} :
    (∀ ds, S.T t = .tup ds → ((stepG P Γ cx true ops x S).1 ↔ i < ds.length) ∧ (stepG P Γ cx true ops x S).2 = ⟨upd (upd S.T t (.tup (hole ds i))) d (ds.getD i .any), S.H⟩) ∧ ((stepG P Γ cx true ops x S).1 → ∃ ds, S.T t = .tup ds) := by
  have hxs : x.op.operands.toList = [.tmp t] := by rw [ho]; rfl
  have e0 : taken S.T x.op = ([S.T t], grab S.T t) := by
    unfold taken
    rw [if_neg (by rw [ho]; simp [isLen]), hxs]; rfl
  have e1 : stepG P Γ cx true ops x S = step P Γ cx true x S := by
    unfold stepG guardD; rw [hg]
  have e2 : ∀ vs H, opF P Γ cx true x vs H = opExtract i vs H := fun vs H => by unfold opF; rw [ho]
  refine ⟨fun ds hT => ?_, fun h => ?_⟩
  · rw [e1]
    simp only [step, e0, e2, hT, opExtract]
    by_cases hw : ownsL ds = true
    · simp only [hw, if_true]
      refine ⟨?_, ?_⟩
      · unfold backOk; rw [hxs]; simp [hd, hdt]
      · rw [hd]
        have : owns (S.T t) = true := by rw [hT]; simpa [owns] using hw
        simp only [putD, backT, hxs, grab, this, if_true]
        congr 2
        funext z
        by_cases e : z = t
        · subst e; rw [upd_eq, upd_eq]; rfl
        · rw [upd_ne e, upd_ne e, upd_ne e]
    · have hw : ownsL ds = false := by simpa using hw
      simp only [hw, Bool.false_eq_true, if_false]
      refine ⟨?_, ?_⟩
      · unfold backOk; simp
      · rw [hd]
        have : owns (S.T t) = false := by rw [hT]; simpa [owns] using hw
        simp only [putD, backT, grab, this, Bool.false_eq_true, if_false]
        congr 2
        rw [hole_owns hw, upd_self hT]
  · rw [e1] at h
    simp only [step, e0, e2] at h
    have h := h.1
    unfold opExtract at h
    split at h
    · rename_i ds he
      simp only [List.cons.injEq, and_true] at he
      exact ⟨ds, he⟩
    · exact h.elim
theorem twoX_swap {ops : Array Oper} {sh : List Nat} {x y : Oper} (h : twoX sh x y = true) {S : St}
    (px : (stepG P Γ cx true ops x S).1) (py : (stepG P Γ cy true ops y (stepG P Γ cx true ops x S).2).1) :
    (stepG P Γ cy true ops y S).1 ∧ (stepG P Γ cx true ops x (stepG P Γ cy true ops y S).2).1 ∧ (stepG P Γ cx true ops x (stepG P Γ cy true ops y S).2).2 = (stepG P Γ cy true ops y (stepG P Γ cx true ops x S).2).2 ∧ (∀ t, x.dst = some t → t ∉ sh) ∧ (∀ t, y.dst = some t → t ∉ sh) := by
  unfold twoX at h
  split at h
  · rename_i t i t' j d e hx hy hdx hdy
    simp only [Bool.and_eq_true, Bool.not_eq_true', decide_eq_true_eq, decide_eq_false_iff_not] at h
    obtain ⟨⟨⟨⟨⟨⟨⟨⟨rfl, hij⟩, gx⟩, gy⟩, n1⟩, n2⟩, n3⟩, m1⟩, m2⟩ := h
    have gx : x.guard = none := by simpa using gx
    have gy : y.guard = none := by simpa using gy
    obtain ⟨a1, a2⟩ := stepG_extract (P := P) (Γ := Γ) (cx := cx) (ops := ops) hx gx hdx n1 (S := S)
    obtain ⟨ds, hT⟩ := a2 px
    obtain ⟨a3, a4⟩ := a1 ds hT
    obtain ⟨b1, b2⟩ := stepG_extract (P := P) (Γ := Γ) (cx := cy) (ops := ops) hy gy hdy n2 (S := S)
    obtain ⟨b3, b4⟩ := b1 ds hT
    have T1 : (stepG P Γ cx true ops x S).2.T t = .tup (hole ds i) := by rw [a4]; dsimp only; rw [upd_ne (Ne.symm n1), upd_eq]
    have T2 : (stepG P Γ cy true ops y S).2.T t = .tup (hole ds j) := by rw [b4]; dsimp only; rw [upd_ne (Ne.symm n2), upd_eq]
    obtain ⟨c1, c2⟩ := (stepG_extract (P := P) (Γ := Γ) (cx := cy) (ops := ops) hy gy hdy n2 (S := (stepG P Γ cx true ops x S).2)).1 _ T1
    obtain ⟨d1, d2⟩ := (stepG_extract (P := P) (Γ := Γ) (cx := cx) (ops := ops) hx gx hdx n1 (S := (stepG P Γ cy true ops y S).2)).1 _ T2
    rw [hole_length] at c1 d1
    refine ⟨b3.2 (c1.1 py), d1.2 (a3.1 px), ?_, fun z hz => ?_, fun z hz => ?_⟩
    · rw [c2, d2, a4, b4, hole_comm ds (Ne.symm hij), hole_get ds hij, hole_get ds (Ne.symm hij)]
      dsimp only
      congr 1
      funext z
      by_cases e1 : z = d
      · subst e1; rw [upd_eq, upd_ne n3, upd_ne n1, upd_eq]
      · by_cases e2 : z = e
        · subst e2; rw [upd_ne e1, upd_ne n2, upd_eq, upd_eq]
        · rw [upd_ne e1, upd_ne e2]
          by_cases e3 : z = t
          · subst e3; rw [upd_eq, upd_eq]
          · rw [upd_ne e3, upd_ne e2, upd_ne e3, upd_ne e3, upd_ne e1, upd_ne e3]
    · rw [hdx] at hz; cases hz; simpa using m1
    · rw [hdy] at hz; cases hz; simpa using m2
  · cases h

/-! ### A whole region -/
variable (P Γ) in
def WD (sh : List Nat) (ops : Array Oper) : List Nat → St → (St → Prop) → Prop
  | [], S, K => K S
  | i :: L, S, K => match ops[i]? with
    | none => WD sh ops L S K
    | some o => ∀ ch, (stepG P Γ ch true ops o S).1 ∧ (∀ t, o.dst = some t → t ∈ sh → i + 1 ≠ ops.size → owns ((stepG P Γ ch true ops o S).2.T t) = false) ∧ WD sh ops L (stepG P Γ ch true ops o S).2 K
variable (P Γ) in
/-- A region whose order is drawn, in the text's order, parted in two at the Bools of the slots 'srcs'; 'sh': the slots that more than one operation reads. -/
def VD (srcs sh : List Nat) (ops : Array Oper) : List Oper → St → (St → Prop) → Prop
  | [], S, K => K S
  | o :: L, S, K => ∀ ch, (stepG P Γ ch true ops o S).1 ∧
    match o.dst with
    | some t => (t ∈ sh → L ≠ [] → owns ((stepG P Γ ch true ops o S).2.T t) = false) ∧ if t ∈ srcs then (match (stepG P Γ ch true ops o S).2.T t with
        | .bool b => splitB b (VD srcs sh ops L ⟨upd (stepG P Γ ch true ops o S).2.T t (.bool true), (stepG P Γ ch true ops o S).2.H⟩ K) (VD srcs sh ops L ⟨upd (stepG P Γ ch true ops o S).2.T t (.bool false), (stepG P Γ ch true ops o S).2.H⟩ K)
        | _ => VD srcs sh ops L (stepG P Γ ch true ops o S).2 K) else VD srcs sh ops L (stepG P Γ ch true ops o S).2 K
    | none => VD srcs sh ops L (stepG P Γ ch true ops o S).2 K
theorem VD_WD {srcs sh : List Nat} {ops : Array Oper} {K : St → Prop} : ∀ {k : Nat} {L : List Oper} {S : St}, (∀ j, L[j]? = ops[k + j]?) → VD P Γ srcs sh ops L S K → WD P Γ sh ops (List.range' k L.length) S K
  | k, [], S, hL, h => h
  | k, o :: L, S, hL, h => by
    have h0 : ops[k]? = some o := by have := hL 0; simpa using this.symm
    have hL' : ∀ j, L[j]? = ops[k + 1 + j]? := fun j => by
      have := hL (j + 1)
      rw [List.getElem?_cons_succ] at this
      rw [this]; congr 1; omega
    have hne : k + 1 ≠ ops.size → L ≠ [] := fun hk e => by
      subst e
      have h2 := hL' 0
      have h3 := (Array.getElem?_eq_some_iff.1 h0).1
      rw [Nat.add_zero] at h2
      have : ops.size ≤ k + 1 := by
        rcases Nat.lt_or_ge (k + 1) ops.size with h4 | h4
        · rw [Array.getElem?_eq_getElem h4] at h2; cases h2
        · exact h4
      omega
    simp only [List.length_cons, List.range'_succ, WD, h0]
    simp only [VD] at h
    intro ch
    obtain ⟨h1, h⟩ := h ch
    refine ⟨h1, ?_⟩
    generalize (stepG P Γ ch true ops o S).2 = S' at h ⊢
    split at h
    · rename_i t hd
      obtain ⟨h2, h⟩ := h
      refine ⟨fun t' ht' hm hk => by rw [hd] at ht'; cases ht'; exact h2 hm (hne hk), ?_⟩
      split at h
      · split at h
        · rename_i b hb
          obtain ⟨h3, h4⟩ := h
          cases b
          · have := h4 rfl
            rw [upd_self hb] at this
            exact VD_WD hL' this
          · have := h3 rfl
            rw [upd_self hb] at this
            exact VD_WD hL' this
        · exact VD_WD hL' h
      · exact VD_WD hL' h
    · rename_i hd
      exact ⟨fun t' ht' => by rw [hd] at ht'; (try cases ht'), VD_WD hL' h⟩
theorem NS.step {sh : List Nat} {ops : Array Oper} {o : Oper} {S : St} (hs : NS sh S) (he : ∀ t, o.dst = some t → t ∈ sh → owns ((stepG P Γ ch true ops o S).2.T t) = false) : NS sh (stepG P Γ ch true ops o S).2 := fun t ht => by
  by_cases hd : o.dst = some t
  · exact he t hd ht
  · rw [stepG_frame hd (.inr (hs t ht))]; exact hs t ht
theorem WD_first {sh : List Nat} {ops : Array Oper} {K : St → Prop} {i : Nat} {y : Oper} (hi : ops[i]? = some y) {M2 : List Nat} : ∀ {M1 : List Nat} {S : St}, (∀ j ∈ M1, (∃ x, ops[j]? = some x ∧ (Apart Γ ops sh x y ∨ twoX sh x y = true)) ∧ j + 1 ≠ ops.size) → (M1 ≠ [] → NS sh S) → WD P Γ sh ops (M1 ++ i :: M2) S K → WD P Γ sh ops (i :: (M1 ++ M2)) S K
  | [], S, hM, hs, h => h
  | j :: M1, S, hM, hs, h => by
    obtain ⟨⟨x, hj, hap⟩, hjl⟩ := hM j (by simp)
    have hs := hs (by simp)
    rw [List.cons_append, WD, hj] at h
    dsimp only at h
    have both : ∀ cx cy, (stepG P Γ cx true ops x S).1 ∧ (∀ t, x.dst = some t → t ∈ sh → j + 1 ≠ ops.size → owns ((stepG P Γ cx true ops x S).2.T t) = false) ∧
        (stepG P Γ cy true ops y (stepG P Γ cx true ops x S).2).1 ∧ (∀ t, y.dst = some t → t ∈ sh → i + 1 ≠ ops.size → owns ((stepG P Γ cy true ops y (stepG P Γ cx true ops x S).2).2.T t) = false) ∧ WD P Γ sh ops (M1 ++ M2) (stepG P Γ cy true ops y (stepG P Γ cx true ops x S).2).2 K := by
      intro cx cy
      obtain ⟨p1, e1, h⟩ := h cx
      have ih := WD_first hi (fun k hk => hM k (by simp [hk])) (fun _ => hs.step fun t ht hm => e1 t ht hm hjl) h
      rw [WD, hi] at ih
      dsimp only at ih
      obtain ⟨p2, e2, ih⟩ := ih cy
      exact ⟨p1, e1, p2, e2, ih⟩
    clear h
    rcases hap with hap | hap
    case inr =>
      rw [WD, hi]
      dsimp only
      intro cy
      refine ⟨?_, ?_, ?_⟩
      · obtain ⟨p1, e1, p2, e2, ih⟩ := both ⟨Unit, ()⟩ cy
        exact (twoX_swap hap p1 p2).1
      · obtain ⟨p1, e1, p2, e2, ih⟩ := both ⟨Unit, ()⟩ cy
        exact fun t ht hm hl => ((twoX_swap hap p1 p2).2.2.2.2 t ht hm).elim
      · rw [List.cons_append, WD, hj]
        dsimp only
        intro cx
        obtain ⟨p1, e1, p2, e2, ih⟩ := both cx cy
        obtain ⟨q1, q2, q3, q4, q5⟩ := twoX_swap hap p1 p2
        rw [q3]
        exact ⟨q2, fun t ht hm hl => (q4 t ht hm).elim, ih⟩
    rw [WD, hi]
    dsimp only
    intro cy
    refine ⟨?_, fun t ht hm hl => ?_, ?_⟩
    · obtain ⟨p1, e1, p2, e2, ih⟩ := both ⟨Unit, ()⟩ cy
      exact (hap.swap hs p1 p2).1
    · obtain ⟨p1, e1, p2, e2, ih⟩ := both ⟨Unit, ()⟩ cy
      rw [(hap.swap hs p1 p2).2.2.2]
      simp only [ht, or_true, if_true]
      exact e2 t ht hm hl
    · rw [List.cons_append, WD, hj]
      dsimp only
      intro cx
      obtain ⟨p1, e1, p2, e2, ih⟩ := both cx cy
      obtain ⟨q1, q2, q3, q4⟩ := hap.swap hs p1 p2
      rw [q3]
      refine ⟨q2, fun t ht hm hl => ?_, ih⟩
      have := hap.xy t ht
      rw [stepG_frame this.2 (.inl fun hx => this.1 (by simp [readsOf, hx]))]
      exact e1 t ht hm hl

/-- Which operations stand ahead of each: bits. -/
def maskOf (o : Oper) (acc : List Nat) : Nat := (o.after.toList.filter (Region.binds .any)).foldl (fun s e => s ||| 2 ^ e.on ||| acc.getD e.on 0) 0
def befGo : List Oper → List Nat → List Nat
  | [], acc => acc
  | o :: os, acc => befGo os (acc ++ [maskOf o acc])
def drawnOk (Γ : FuncId → Con) (ops : Array Oper) (sh : List Nat) : Bool :=
  let b := befGo ops.toList []
  (ops.toList.zipIdx.all fun (o, i) => (o.after.toList.filter (Region.binds .any)).all fun e => decide (e.on < i)) &&
  (ops.toList.zipIdx.all fun (y, i) => ops.toList.zipIdx.all fun (x, j) => !decide (j < i) || (b.getD i 0).testBit j || disjoint2 Γ ops sh x y || twoX sh x y) &&
  (ops.toList.zipIdx.all fun (y, i) => !decide (i + 1 = ops.size) || !(y.dst.any fun t => sh.contains t) || (List.range i).all fun j => (b.getD i 0).testBit j)
theorem maskOf_bit {o : Oper} {acc : List Nat} {j : Nat} (h : (maskOf o acc).testBit j = true) : ∃ e ∈ o.after.toList, Region.binds .any e = true ∧ (j = e.on ∨ (acc.getD e.on 0).testBit j = true) := by
  unfold maskOf at h
  have key : ∀ (l : List Edge) (s : Nat), (l.foldl (fun s e => s ||| 2 ^ e.on ||| acc.getD e.on 0) s).testBit j = true → s.testBit j = true ∨ ∃ e ∈ l, j = e.on ∨ (acc.getD e.on 0).testBit j = true := by
    intro l
    induction l with
    | nil => intro s h; exact .inl h
    | cons e l ih =>
      intro s h
      rcases ih _ h with h | ⟨e', he', h⟩
      · rw [Nat.testBit_or, Nat.testBit_or, Bool.or_eq_true, Bool.or_eq_true] at h
        rcases h with (h | h) | h
        · exact .inl h
        · rw [Nat.testBit_two_pow] at h
          exact .inr ⟨e, by simp, .inl (by simpa using (of_decide_eq_true h).symm)⟩
        · exact .inr ⟨e, by simp, .inr h⟩
      · exact .inr ⟨e', by simp [he'], h⟩
  rcases key _ _ h with h | ⟨e, he, h⟩
  · simp at h
  · rw [List.mem_filter] at he
    exact ⟨e, he.1, he.2, h⟩
theorem befGo_bit {ops : Array Oper} (Ls : Nat → Prop) (hcl : ∀ k o, ops[k]? = some o → Ls k → ∀ e ∈ o.after.toList, Region.binds .any e = true → Ls e.on) :
    ∀ (os : List Oper) (acc : List Nat), (∀ k, os[k]? = ops[acc.length + k]?) → (∀ k o, k < acc.length → ops[k]? = some o → (∀ e ∈ o.after.toList, Region.binds .any e = true → Ls e.on) → ∀ j, (acc.getD k 0).testBit j = true → Ls j) →
      ∀ k o, ops[k]? = some o → (∀ e ∈ o.after.toList, Region.binds .any e = true → Ls e.on) → ∀ j, ((befGo os acc).getD k 0).testBit j = true → Ls j
  | [], acc, hos, hacc, k, o, ho, hr, j, hj => by
    simp only [befGo] at hj
    by_cases hk : k < acc.length
    · exact hacc k o hk ho hr j hj
    · rw [List.getD_eq_getElem?_getD, List.getElem?_eq_none (by omega)] at hj
      simp at hj
  | o' :: os, acc, hos, hacc, k, o, ho, hr, j, hj => by
    simp only [befGo] at hj
    refine befGo_bit Ls hcl os (acc ++ [maskOf o' acc]) (fun k => ?_) (fun k o hk ho hr j hj => ?_) k o ho hr j hj
    · have := hos (k + 1)
      rw [List.getElem?_cons_succ] at this
      rw [this, List.length_append]
      congr 1
      simp; omega
    · rw [List.length_append] at hk
      by_cases hk' : k < acc.length
      · rw [List.getD_eq_getElem?_getD, List.getElem?_append_left hk', ← List.getD_eq_getElem?_getD] at hj
        exact hacc k o hk' ho hr j hj
      · have hk2 : k = acc.length := by simp at hk; omega
        subst hk2
        have h0 : o' = o := by have := hos 0; rw [Nat.add_zero, ho] at this; simpa using this
        subst h0
        have e1 : (acc ++ [maskOf o' acc]).getD acc.length 0 = maskOf o' acc := by simp [List.getD_eq_getElem?_getD]
        rw [e1] at hj
        obtain ⟨e, he, hb, h⟩ := maskOf_bit hj
        rcases h with rfl | h
        · exact hr e he hb
        · have hlt : e.on < acc.length := by
            rcases Nat.lt_or_ge e.on acc.length with h' | h'
            · exact h'
            · rw [List.getD_eq_getElem?_getD, List.getElem?_eq_none h'] at h; simp at h
          cases hoe : ops[e.on]? with
          | none =>
            have : e.on < ops.size := by
              have := (Array.getElem?_eq_some_iff.1 ho).1
              omega
            rw [Array.getElem?_eq_getElem this] at hoe
            cases hoe
          | some oe => exact hacc e.on oe hlt hoe (hcl e.on oe hoe (hr e he hb)) j h
section
variable {B : Base} {n : Nat}
theorem WD_any (hΓ : ∀ f, ConOk P f (Γ f)) {ops : Array Oper} {sh : List Nat} (hd : dstsOk n ops = true) (hok : drawnOk Γ ops sh = true) {Q : Exit → St → Prop} : ∀ (fuel : Nat) (listed : Array Bool) (S : St) (a : Act) (w : World) (μ : Nat → Nat) (fp : Root → List Nat) (N : Nat),
    ((List.range ops.size).filter fun k => !listed.getD k true).length ≤ fuel → listed.size = ops.size → (∀ k o, ops[k]? = some o → listed.getD k true = true → ∀ e ∈ o.after.toList, Region.binds .any e = true → listed.getD e.on false = true) → (((List.range ops.size).filter fun k => !listed.getD k true) ≠ [] → NS sh S) → R B n S [] [] a w μ fp N →
    WD P Γ sh ops ((List.range ops.size).filter fun k => !listed.getD k true) S (Q .normal) → wpAny P .any ops (lift B n Q) fuel listed a w
  | fuel, listed, S, a, w, μ, fp, N, hf, hsz, hcl, hs, hR, hw => by
    have hback : ∀ i y, ops[i]? = some y → ∀ e ∈ y.after.toList, Region.binds .any e = true → e.on < i := by
      intro i y hi e he hb
      unfold drawnOk at hok
      simp only [Bool.and_eq_true] at hok
      have h1 := hok.1.1
      rw [List.all_eq_true] at h1
      have h2 := h1 (y, i) (by rw [List.mem_zipIdx_iff_getElem?]; simpa using hi)
      rw [List.all_eq_true] at h2
      have := h2 e (by rw [List.mem_filter]; exact ⟨he, hb⟩)
      simpa using this
    -- where all that are left wait, none are left
    have hnone : Region.ready .any ops listed = [] → ((List.range ops.size).filter fun k => !listed.getD k true) = [] := by
      intro hr
      cases hM : (List.range ops.size).filter fun k => !listed.getD k true with
      | nil => rfl
      | cons i M =>
        exfalso
        have hmem : i ∈ (List.range ops.size).filter fun k => !listed.getD k true := by rw [hM]; simp
        rw [List.mem_filter, List.mem_range] at hmem
        have hsorted : ((List.range ops.size).filter fun k => !listed.getD k true).Pairwise (· < ·) := List.Pairwise.filter _ List.pairwise_lt_range
        have : i ∈ Region.ready .any ops listed := by
          rw [mem_ready]
          refine ⟨by simpa using hmem.2, ops[i], Array.getElem?_eq_getElem hmem.1, fun e he hb => ?_⟩
          have hlt := hback i _ (Array.getElem?_eq_getElem hmem.1) e (by simpa using he) hb
          have hlt' : e.on < listed.size := by omega
          cases hle : listed.getD e.on true with
          | true => rwa [Array.getD_eq_getD_getElem?, Array.getElem?_eq_getElem hlt', Option.getD_some] at hle ⊢
          | false =>
            have hin : e.on ∈ (List.range ops.size).filter fun k => !listed.getD k true := by
              rw [List.mem_filter, List.mem_range]; exact ⟨by omega, by simp [hle]⟩
            rw [hM] at hin hsorted
            rcases List.mem_cons.1 hin with h | h
            · omega
            · have := (List.pairwise_cons.1 hsorted).1 _ h; omega
        rw [hr] at this
        cases this
    have hfin : Region.ready .any ops listed = [] → lift B n Q .normal a w := fun hr => by
      rw [hnone hr] at hw
      exact ⟨S, μ, fp, N, hR, hw⟩
    cases fuel with
    | zero =>
      have h0 : ((List.range ops.size).filter fun k => !listed.getD k true) = [] := List.eq_nil_of_length_eq_zero (by omega)
      have hr : Region.ready .any ops listed = [] := by
        refine List.eq_nil_iff_forall_not_mem.2 fun i hi => ?_
        obtain ⟨h1, o, h2, _⟩ := mem_ready.1 hi
        have : i ∈ (List.range ops.size).filter fun k => !listed.getD k true := by
          rw [List.mem_filter, List.mem_range]; exact ⟨(Array.getElem?_eq_some_iff.1 h2).1, by simp [h1]⟩
        rw [h0] at this; cases this
      exact ⟨hr, hfin hr⟩
    | succ fuel =>
      refine ⟨hfin, fun i hi => ?_⟩
      obtain ⟨h1, y, h2, h3⟩ := mem_ready.1 hi
      have hlt := (Array.getElem?_eq_some_iff.1 h2).1
      have hmem : i ∈ (List.range ops.size).filter fun k => !listed.getD k true := by
        rw [List.mem_filter, List.mem_range]; exact ⟨hlt, by simp [h1]⟩
      have hnodup : ((List.range ops.size).filter fun k => !listed.getD k true).Nodup := List.Pairwise.filter _ List.nodup_range
      have hsorted : ((List.range ops.size).filter fun k => !listed.getD k true).Pairwise (· < ·) := List.Pairwise.filter _ List.pairwise_lt_range
      obtain ⟨M1, M2, hM⟩ := List.append_of_mem hmem
      have hbit : ∀ j, j < ops.size → (!listed.getD j true) = true → ((befGo ops.toList []).getD i 0).testBit j = true → False := by
        intro j hjs hjl q3
        have := befGo_bit (ops := ops) (fun k => listed.getD k false = true) (fun k o ho hk => hcl k o ho (by
            have hk' : k < listed.size := by rw [hsz]; exact (Array.getElem?_eq_some_iff.1 ho).1
            rw [Array.getD_eq_getD_getElem?, Array.getElem?_eq_getElem hk', Option.getD_some] at hk ⊢
            exact hk)) ops.toList [] (by simp) (by simp) i y h2 (fun e he hb => h3 e (by simpa using he) hb) j q3
        have hj' : j < listed.size := by omega
        rw [Array.getD_eq_getD_getElem?, Array.getElem?_eq_getElem hj', Option.getD_some] at this
        rw [Array.getD_eq_getD_getElem?, Array.getElem?_eq_getElem hj', Option.getD_some, this] at hjl
        simp at hjl
      have hfirst : WD P Γ sh ops (i :: (M1 ++ M2)) S (Q .normal) := by
        refine WD_first h2 (fun j hj => ?_) (fun _ => hs (by rw [hM]; simp)) (hM ▸ hw)
        have hjm : j ∈ (List.range ops.size).filter fun k => !listed.getD k true := by rw [hM]; simp [hj]
        rw [List.mem_filter, List.mem_range] at hjm
        have hji : j < i := by
          rw [hM] at hsorted
          exact (List.pairwise_append.1 hsorted).2.2 j hj i (by simp)
        refine ⟨⟨ops[j], Array.getElem?_eq_getElem hjm.1, ?_⟩, by omega⟩
        have hok' := hok
        unfold drawnOk at hok'
        simp only [Bool.and_eq_true] at hok'
        have q1 := hok'.1.2
        rw [List.all_eq_true] at q1
        have q2 := q1 (y, i) (by rw [List.mem_zipIdx_iff_getElem?]; simpa using h2)
        rw [List.all_eq_true] at q2
        have q3 := q2 (ops[j], j) (by rw [List.mem_zipIdx_iff_getElem?]; simp [hjm.1])
        simp only [hji, decide_true, Bool.not_true, Bool.false_or, Bool.or_eq_true] at q3
        rcases q3 with (q3 | q3) | q3
        · exact (hbit j hjm.1 hjm.2 q3).elim
        · exact .inl (apart_of q3)
        · exact .inr q3
      rw [WD, h2] at hfirst
      dsimp only at hfirst
      have hM' : ((List.range ops.size).filter fun k => !(listed.setIfInBounds i true).getD k true) = M1 ++ M2 := by
        have e2 : ((List.range ops.size).filter fun k => !(listed.setIfInBounds i true).getD k true) = ((List.range ops.size).filter fun k => !listed.getD k true).filter fun k => decide (k ≠ i) := by
          rw [List.filter_filter]
          apply List.filter_congr
          intro k _
          by_cases e : k = i
          · subst e
            have : (listed.setIfInBounds k true).getD k true = true := by
              rw [Array.getD_eq_getD_getElem?, Array.getElem?_setIfInBounds]
              simp only [if_true]
              split <;> rfl
            simp [this]
          · rw [getD_set_ne true (fun h => e h.symm)]
            simp [e]
        rw [e2, hM]
        have hn := hM ▸ hnodup
        rw [List.nodup_append] at hn
        have hn2 := List.nodup_cons.1 hn.2.1
        rw [List.filter_append, List.filter_cons]
        simp only [ne_eq, not_true_eq_false, decide_false, Bool.false_eq_true, if_false]
        rw [List.filter_eq_self.2, List.filter_eq_self.2]
        · intro k hk; simp; rintro rfl; exact hn2.1 hk
        · intro k hk; simp; rintro rfl; exact hn.2.2 k hk k (by simp) rfl
      have hns : ((List.range ops.size).filter fun k => !(listed.setIfInBounds i true).getD k true) ≠ [] → ∀ cy, NS sh (stepG P Γ cy true ops y S).2 := by
        intro hrest cy
        have e1 := (hfirst cy).2.1
        rw [hM'] at hrest
        have hs := hs (by rw [hM]; simp)
        by_cases hl : i + 1 = ops.size
        · have hM2 : M2 = [] := by
            cases M2 with
            | nil => rfl
            | cons k M2 =>
              exfalso
              have hk : k ∈ (List.range ops.size).filter fun k => !listed.getD k true := by rw [hM]; simp
              rw [List.mem_filter, List.mem_range] at hk
              rw [hM] at hsorted
              have := (List.pairwise_cons.1 (List.pairwise_append.1 hsorted).2.1).1 k (by simp)
              omega
          subst hM2
          have hok' := hok
          unfold drawnOk at hok'
          simp only [Bool.and_eq_true] at hok'
          have q1 := hok'.2
          rw [List.all_eq_true] at q1
          have q2 := q1 (y, i) (by rw [List.mem_zipIdx_iff_getElem?]; simpa using h2)
          simp only [hl, decide_true, Bool.not_true, Bool.false_or, Bool.or_eq_true] at q2
          rcases q2 with q2 | q2
          · refine hs.step fun t ht hm => ?_
            rw [ht] at q2
            simp at q2
            exact (q2 hm).elim
          · exfalso
            cases M1 with
            | nil => exact hrest rfl
            | cons j M1 =>
              have hjm : j ∈ (List.range ops.size).filter fun k => !listed.getD k true := by rw [hM]; simp
              rw [List.mem_filter, List.mem_range] at hjm
              rw [List.all_eq_true] at q2
              have hji : j < i := by
                rw [hM] at hsorted
                exact (List.pairwise_append.1 hsorted).2.2 j (by simp) i (by simp)
              exact hbit j hjm.1 hjm.2 (q2 j (by rw [List.mem_range]; exact hji))
        · exact hs.step fun t ht hm => e1 t ht hm hl
      refine wpOp_stepG hΓ h2 hR (hfirst ⟨Unit, ()⟩).1 (dstsOk_spec hd) fun ch a' w' μ' fp' N' hR' => ?_
      refine WD_any hΓ hd hok fuel _ _ a' w' μ' fp' N' ?_ (by simp [hsz]) (fun k o ho hk e he hb => ?_) (fun hrest => hns hrest ch) hR' (by rw [hM']; exact (hfirst ch).2.2)
      · rw [hM']
        have : ((List.range ops.size).filter fun k => !listed.getD k true).length = (M1 ++ M2).length + 1 := by rw [hM]; simp; omega
        omega
      · by_cases e' : k = i
        · subst e'
          rw [h2] at ho
          cases ho
          exact getD_set_true (h3 e (by simpa using he) hb)
        · rw [getD_set_ne true (fun h => e' h.symm)] at hk
          exact getD_set_true (hcl k o ho hk e he hb)
theorem AW_region_draw (hΓ : ∀ f, ConOk P f (Γ f)) (hm : P.follows .mixedOrders = true) {id : Nat} {ops : Array Oper} {Q : Exit → St → Prop} {S : St} (srcs sh : List Nat) (hd : dstsOk n ops = true) (hok : drawnOk Γ ops sh = true) (hs : NS sh S)
    (h : VD P Γ srcs sh ops ops.toList S (Q .normal)) : AW P B n (.region id ops true) Q S := fun a w μ fp N hR => by
  refine wp_region_any hm ?_
  have hall : ((List.range ops.size).filter fun k => !(Array.replicate ops.size false).getD k true) = List.range ops.size := by
    rw [List.filter_eq_self]
    intro k hk
    rw [List.mem_range] at hk
    rw [Array.getD_eq_getD_getElem?, Array.getElem?_replicate, if_pos hk]
    rfl
  have hw : WD P Γ sh ops (List.range ops.size) S (Q .normal) := by
    have := VD_WD (k := 0) (by simp) h
    rw [List.range_eq_range']
    simpa using this
  refine WD_any hΓ hd hok _ _ S a _ μ fp N (by rw [hall]; simp) (by simp) (fun k o ho hk => ?_) (fun _ => hs) (hR.drewN _) (by rw [hall]; exact hw)
  have := (Array.getElem?_eq_some_iff.1 ho).1
  rw [Array.getD_eq_getD_getElem?, Array.getElem?_replicate, if_pos this] at hk
  cases hk
end
end
end Go.Proofs.Ytljncoikoffijaa.Vm


/-
  Parts of a value, and a block's cells, get names and lose them. No conditions; nothing of the program is named here.
-/
namespace Go.Proofs.Ytljncoikoffijaa.Vm
open Go
set_option linter.unusedVariables false
set_option linter.unusedSimpArgs false
set_option linter.unusedSectionVars false
section
variable {P : Program} {Γ : FuncId → Con} {B : Base} {n : Nat} {S : St} {ds : List D} {vs : List Value} {a : Act} {w : World} {μ : Nat → Nat} {fp : Root → List Nat} {N : Nat}

/-- The two ways of a condition. -/
def CondA : D → Prop → Prop → Prop
  | .bool b, p, q => (b = true → p) ∧ (b = false → q)
  | .ubool, p, q => p ∧ q
  | _, _, _ => False
theorem AW_condA {c : Operand} {x y : Code} {Q : Exit → St → Prop} (h : CondA (look S.T c) (AW P B n x Q S) (AW P B n y Q S)) : AW P B n (.cond c x y) Q S := by
  unfold CondA at h
  split at h
  · rename_i b hb; exact AW_cond hb h.1 h.2
  · rename_i hb; exact AW_cond2 hb h.1 h.2
  · exact h.elim
/-- The bag turned round. -/
theorem R.swapL {l r : List D} {vl vr : List Value} (h : R B n S (l ++ r) (vl ++ vr) a w μ fp N) (hl : vl.length = l.length) : ∃ fp', R B n S (r ++ l) (vr ++ vl) a w μ fp' N := by
  obtain ⟨v1, v2, f1, f2, e1, e2, r1, r2⟩ := RepL.split h.bg
  have hl1 := r1.length
  obtain ⟨rfl, rfl⟩ := List.append_inj e1.symm (by omega)
  have hm : Moves fp (fset fp .bag (f2 ++ f1)) := by
    have key : ∀ r x, x ∈ fset fp .bag (f2 ++ f1) r → x ∈ fp r := by
      intro r x hx
      by_cases e : r = .bag
      · subst e; rw [fset_eq] at hx; rw [e2]; simp only [List.mem_append] at hx ⊢; exact hx.symm
      · rwa [fset_ne e] at hx
    refine ⟨fun r x hx => ⟨r, key r x hx⟩, fun r => ?_, fun r r' x hx hy => h.dis r r' x (key r x hx) (key r' x hy)⟩
    by_cases e : r = .bag
    · subst e; rw [fset_eq]
      have := e2 ▸ h.nod .bag
      have k := List.nodup_append.1 this
      exact nodup_app k.2.1 k.1 fun x hx hy => k.2.2 x hy x hx rfl
    · rw [fset_ne e]; exact h.nod r
  refine ⟨fset fp .bag (f2 ++ f1), h.len, h.dfs, h.frm, h.jk, h.own' hm, hm.nod, hm.dis, fun t => ?_, ?_, ?_, ?_, h.bT, ?_, h.bH, h.rn⟩
  · rw [fset_ne (by simp)]; exact (h.tm t).sub hm.sub
  · rw [fset_eq]; exact RepL.append (r1.sub hm.sub) (r2.sub hm.sub)
  · intro b cs hc; exact (h.hp b cs hc).sub hm.sub (by simp [fset]) (by simp [fset])
  · intro b hb; have := h.hn b hb; simp [fset, this]
  · have := h.bB; rw [bndL_iff] at this ⊢; intro d hd; exact this d (by simp only [List.mem_append] at hd ⊢; exact hd.symm)

/-- A part of a slot's struct that is a slice of its own gets a name. -/
theorem AW_matPart (t : Nat) (l r : List D) {c : Code} {Q : Exit → St → Prop} {sz m : Nat} {cs : List D} (hT : S.T t = .st (l ++ .fr sz m cs :: r))
    (h : ∀ b cp k, S.H b = none → m ≤ cp → cp * sz ≤ m * sz + k → AW P B n c Q ⟨upd S.T t (.st (l ++ .sl b sz 0 m cp :: r)), upd S.H b (some (cs ++ List.replicate k .any))⟩) : AW P B n c Q S := fun a w μ fp N hR => by
  obtain ⟨fp1, h1⟩ := hR.grab t
  rw [hT, List.nil_append, List.nil_append] at h1
  have hb1 := h1.bg
  have q := hb1.one
  simp only [Rep] at q
  obtain ⟨us, hu, hus⟩ := q
  have hlen := hus.length
  have h2 : R B n ⟨grab S.T t, S.H⟩ (l ++ (.fr sz m cs :: r)) us a w μ fp1 N := h1.rebag hus (by have := h1.bB; simp only [bndL, bnd] at this; exact this.1)
  obtain ⟨ul, ur, hlr, hll⟩ : ∃ ul ur, us = ul ++ ur ∧ ul.length = l.length := ⟨us.take l.length, us.drop l.length, (List.take_append_drop ..).symm, by rw [List.length_take, hlen]; simp⟩
  subst hlr
  obtain ⟨fp2, h3⟩ := h2.swapL hll
  obtain ⟨u, ur', rfl⟩ : ∃ u ur', ur = u :: ur' := by
    cases ur with
    | nil => simp at hlen; omega
    | cons u ur' => exact ⟨u, ur', rfl⟩
  rw [List.cons_append, List.cons_append] at h3
  obtain ⟨cp, k, μ', fp3, q1, q2, q3, h4⟩ := h3.mat
  rw [← List.cons_append, ← List.cons_append] at h4
  obtain ⟨fp4, h5⟩ := h4.swapL (by simp at hlen ⊢; omega)
  have h6 : R B n ⟨grab S.T t, upd S.H N (some (cs ++ List.replicate k .any))⟩ [.st (l ++ .sl N sz 0 m cp :: r)] [a.tmps.getD t undef] a w μ' fp4 (N + 1) := by
    refine h5.rebag ?_ ?_
    · simp only [RepL, Rep]
      exact ⟨_, [], _, [], rfl, by simp, ⟨_, hu, h5.bg⟩, rfl, rfl⟩
    · simp only [bndL, bnd]; exact ⟨h5.bB, trivial⟩
  obtain ⟨fp5, h7⟩ := h6.putback
  have e : upd (grab S.T t) t (.st (l ++ .sl N sz 0 m cp :: r)) = upd S.T t (.st (l ++ .sl N sz 0 m cp :: r)) := by
    funext y
    by_cases ey : y = t
    · subst ey; rw [upd_eq, upd_eq]
    · rw [upd_ne ey, upd_ne ey]
      simp only [grab]
      split
      · rw [upd_ne ey]
      · rfl
  rw [e] at h7
  exact h N cp k h1.hN q1 q2 a w μ' fp5 (N + 1) h7

theorem setCell_noop {w : World} {b i : Nat} {v : Value} (h : w.cell? ⟨b, i, none⟩ = some v) : w.setCell ⟨b, i, none⟩ v = w := by
  have : (w.setCell ⟨b, i, none⟩ v).heap = w.heap := by
    apply Array.ext_getElem?
    intro k
    simp only [World.setCell, Array.getElem?_modify]
    split
    · rename_i e
      subst e
      cases hk : w.heap[b]? with
      | none => rfl
      | some o =>
        simp only [World.cell?, hk] at h
        cases o with
        | cells c t f =>
          simp only [Option.map_some, Option.some.injEq, Obj.cells.injEq, and_true]
          simp at h
          apply Array.ext_getElem?
          intro j
          simp only [Option.isSome_none, Bool.false_eq_true, if_false]
          rw [Array.getElem?_setIfInBounds]
          split
          · rename_i e; subst e
            split
            · exact h.symm
            · rename_i q; rw [Array.getElem?_eq_none (by omega)]
          · rfl
        | _ => rfl
    · rfl
  cases w
  simp only [World.setCell] at this ⊢
  simp only [this]
theorem R.cellIn {b i : Nat} {cs : List D} {d : D} {v : Value} (h : R B n S (d :: ds) (v :: vs) a w μ fp N) (hc : S.H b = some cs) (hi : i < cs.length) (hv : v.oneCell' = true) (hw : w.cell? ⟨μ b, i, none⟩ = some v) :
    ∃ fp', R B n ⟨S.T, upd S.H b (some (cs.set i d))⟩ ds vs a w μ fp' N := by
  obtain ⟨fp', h', _⟩ := h.store1 (P := Inhabited.default) hc hi hv
  rw [setCell_noop hw] at h'
  exact ⟨fp', h'⟩
/-- A named block's cell, a slice of its own, gets a name. -/
theorem AW_matCell (b i : Nat) {c : Code} {Q : Exit → St → Prop} {sz m : Nat} {all cs : List D} (hH : S.H b = some all) (hi : all[i]? = some (.fr sz m cs))
    (h : ∀ b' cp k, S.H b' = none → m ≤ cp → cp * sz ≤ m * sz + k → AW P B n c Q ⟨S.T, upd (upd S.H b (some (all.set i (.sl b' sz 0 m cp)))) b' (some (cs ++ List.replicate k .any))⟩) : AW P B n c Q S := fun a w μ fp N hR => by
  have hil : i < all.length := by rcases Nat.lt_or_ge i all.length with q | q; exact q; rw [List.getElem?_eq_none q] at hi; cases hi
  obtain ⟨v, fp1, hw, hone, h1⟩ := hR.cellOut hH hi
  obtain ⟨cp, k, μ', fp2, q1, q2, q3, h2⟩ := h1.mat
  have hbN := (hR.bH b all hH).1
  have hne : N ≠ b := Nat.ne_of_gt hbN
  rw [← q3 b hbN] at hw
  obtain ⟨fp3, h3⟩ := h2.cellIn (b := b) (i := i) (cs := all.set i .any) (by dsimp only; rw [upd_ne (Ne.symm hne), upd_eq]) (by simpa using hil) hone hw
  refine h N cp k hR.hN q1 q2 a w μ' fp3 (N + 1) ?_
  have e : upd (upd (upd S.H b (some (all.set i .any))) N (some (cs ++ List.replicate k .any))) b (some ((all.set i .any).set i (.sl N sz 0 m cp))) = upd (upd S.H b (some (all.set i (.sl N sz 0 m cp)))) N (some (cs ++ List.replicate k .any)) := by
    funext x
    by_cases e1 : x = N
    · subst e1; rw [upd_ne hne, upd_eq, upd_eq]
    · by_cases e2 : x = b
      · subst e2; rw [upd_eq, upd_ne e1, upd_eq, List.set_set]
      · rw [upd_ne e2, upd_ne e1, upd_ne e2, upd_ne e1, upd_ne e2]
  dsimp only at h3
  rw [e] at h3
  exact h3
/-- And loses it. -/
theorem AW_unmatCell (b i : Nat) {c : Code} {Q : Exit → St → Prop} {b' sz m cp : Nat} {all cs : List D} (hH : S.H b = some all) (hi : all[i]? = some (.sl b' sz 0 m cp)) (hb : b ≠ b') (hH' : S.H b' = some cs) (hsz : 0 < sz) (hm : m * sz ≤ cs.length) (hc : cp * sz ≤ cs.length)
    (h : AW P B n c Q ⟨S.T, upd (upd S.H b' none) b (some (all.set i (.fr sz m (cs.take (m * sz)))))⟩) : AW P B n c Q S := fun a w μ fp N hR => by
  have hil : i < all.length := by rcases Nat.lt_or_ge i all.length with q | q; exact q; rw [List.getElem?_eq_none q] at hi; cases hi
  obtain ⟨v, fp1, hw, hone, h1⟩ := hR.cellOut hH hi
  obtain ⟨fp2, h2, _⟩ := h1.unname (by dsimp only; rw [upd_ne (Ne.symm hb)]; exact hH') hsz hm hc
  obtain ⟨fp3, h3⟩ := h2.cellIn (b := b) (i := i) (cs := all.set i .any) (by dsimp only; rw [upd_ne hb, upd_eq]) (by simpa using hil) hone hw
  refine h a w μ fp3 N ?_
  have e : upd (upd (upd S.H b (some (all.set i .any))) b' none) b (some ((all.set i .any).set i (.fr sz m (cs.take (m * sz))))) = upd (upd S.H b' none) b (some (all.set i (.fr sz m (cs.take (m * sz))))) := by
    funext x
    by_cases e2 : x = b
    · subst e2; rw [upd_eq, upd_eq, List.set_set]
    · rw [upd_ne e2, upd_ne e2]
      by_cases e1 : x = b'
      · subst e1; rw [upd_eq, upd_eq]
      · rw [upd_ne e1, upd_ne e1, upd_ne e2]
  dsimp only at h3
  rw [e] at h3
  exact h3
end
end Go.Proofs.Ytljncoikoffijaa.Vm

