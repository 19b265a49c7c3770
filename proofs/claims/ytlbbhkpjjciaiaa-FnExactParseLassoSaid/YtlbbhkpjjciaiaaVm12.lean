/-
  A region whose order is drawn: operations that do not touch each other may change places. No conditions; nothing of the program is named here.
-/
import Derived.Test.YtlbbhkpjjciaiaaVm11
namespace Go.Proofs.Ytlbbhkpjjciaiaa.Vm
open Go
set_option linter.unusedVariables false
set_option linter.unusedSimpArgs false
set_option linter.unusedSectionVars false
section
variable {P : Program} {Γ : FuncId → Con}

/-! ### What an operation changes -/
/-- The slots that an operation's operands name. -/
def slotsOf (o : Oper) : List Nat := o.op.operands.toList.filterMap fun | .tmp t => some t | _ => none
def guardSlot (ops : Array Oper) (o : Oper) : Option Nat := o.guard.bind fun (j, _) => (ops[j]?).bind (·.dst)
def readsOf (ops : Array Oper) (o : Oper) : List Nat := slotsOf o ++ (guardSlot ops o).toList
theorem mem_slots {o : Oper} {t : Nat} : t ∈ slotsOf o ↔ Operand.tmp t ∈ o.op.operands.toList := by
  unfold slotsOf
  rw [List.mem_filterMap]
  constructor
  · rintro ⟨x, hx, he⟩
    cases x <;> simp at he
    subst he; exact hx
  · intro h; exact ⟨_, h, rfl⟩
theorem grabs_fst {T T' : Nat → D} : ∀ {xs : List Operand}, (∀ t, Operand.tmp t ∈ xs → T t = T' t) → (grabs T xs).1 = (grabs T' xs).1 ∧ ∀ t, Operand.tmp t ∈ xs → (grabs T xs).2 t = (grabs T' xs).2 t
  | [], h => ⟨rfl, by simp⟩
  | .tmp t :: xs, h => by
    have h0 := h t (by simp)
    have hg : ∀ t', Operand.tmp t' ∈ (Operand.tmp t :: xs) → grab T t t' = grab T' t t' := fun t' ht' => by
      simp only [grab, h0]
      split
      · simp only [upd]; split; rfl; exact h t' ht'
      · exact h t' ht'
    have ih := grabs_fst (T := grab T t) (T' := grab T' t) (xs := xs) fun t' ht' => hg t' (by simp [ht'])
    refine ⟨by simp only [grabs]; rw [h0, ih.1], fun t' ht' => ?_⟩
    simp only [grabs]
    rcases List.mem_cons.1 ht' with e | e
    · cases e
      by_cases hm : Operand.tmp t ∈ xs
      · exact ih.2 t hm
      · have out : ∀ {T : Nat → D} {xs : List Operand}, Operand.tmp t ∉ xs → (grabs T xs).2 t = T t := by
          intro T xs
          induction xs generalizing T with
          | nil => intro _; rfl
          | cons x xs ih =>
            intro hm
            simp only [List.mem_cons, not_or] at hm
            cases x <;> simp only [grabs]
            · rw [ih hm.2]
              simp only [grab]
              split
              · rw [upd_ne (fun e => hm.1 (by rw [e]))]
              · rfl
            all_goals exact ih hm.2
        rw [out hm, out hm]
        exact hg t (by simp)
    · exact ih.2 t' e
  | .const v :: xs, h => by
    have ih := grabs_fst (xs := xs) fun t ht => h t (by simp [ht])
    exact ⟨by simp only [grabs]; rw [ih.1], fun t ht => by simp only [grabs]; exact ih.2 t (by simpa using ht)⟩
  | .func f :: xs, h => by
    have ih := grabs_fst (xs := xs) fun t ht => h t (by simp [ht])
    exact ⟨by simp only [grabs]; rw [ih.1], fun t ht => by simp only [grabs]; exact ih.2 t (by simpa using ht)⟩
  | .global g :: xs, h => by
    have ih := grabs_fst (xs := xs) fun t ht => h t (by simp [ht])
    exact ⟨by simp only [grabs]; rw [ih.1], fun t ht => by simp only [grabs]; exact ih.2 t (by simpa using ht)⟩
theorem grabs_snd {T : Nat → D} {t : Nat} : ∀ {xs : List Operand}, Operand.tmp t ∉ xs ∨ owns (T t) = false → (grabs T xs).2 t = T t
  | [], h => rfl
  | x :: xs, h => by
    have h' : Operand.tmp t ∉ xs ∨ owns (T t) = false := h.imp (fun h hm => h (by simp [hm])) id
    cases x with
    | tmp t' =>
      simp only [grabs]
      have e : grab T t' t = T t := by
        simp only [grab]
        split
        · rename_i ho
          by_cases e : t = t'
          · subst e
            rcases h with h | h
            · exact (h (by simp)).elim
            · rw [h] at ho; cases ho
          · rw [upd_ne e]
        · rfl
      rw [grabs_snd (by rw [e]; exact h'), e]
    | const v => simp only [grabs]; exact grabs_snd h'
    | func f => simp only [grabs]; exact grabs_snd h'
    | global g => simp only [grabs]; exact grabs_snd h'
theorem taken_fst {T T' : Nat → D} {o : Oper} (h : ∀ t ∈ slotsOf o, T t = T' t) : (taken T o.op).1 = (taken T' o.op).1 ∧ ∀ t ∈ slotsOf o, (taken T o.op).2 t = (taken T' o.op).2 t := by
  have h' : ∀ t, Operand.tmp t ∈ o.op.operands.toList → T t = T' t := fun t ht => h t (mem_slots.2 ht)
  unfold taken
  split
  · refine ⟨?_, h⟩
    dsimp only
    apply List.map_congr_left
    intro x hx
    cases x with
    | tmp t => simp only [look]; rw [h' t hx]
    | _ => rfl
  · exact ⟨(grabs_fst h').1, fun t ht => (grabs_fst h').2 t (mem_slots.1 ht)⟩
theorem taken_snd {T : Nat → D} {o : Oper} {t : Nat} (h : t ∉ slotsOf o ∨ owns (T t) = false) : (taken T o.op).2 t = T t := by
  unfold taken
  split
  · rfl
  · exact grabs_snd (h.imp (fun h hm => h (mem_slots.2 hm)) id)

/-! ### Memory -/
theorem opF_H {o : Oper} {T : Nat → D} {H : Hp} (hk : kindO Γ o ≤ 1) : (opF P Γ true o (taken T o.op).1 H).H = H := by
  generalize hvs : (taken T o.op).1 = vs
  unfold opF
  unfold kindO at hk
  split <;> rename_i ho <;> (try rw [ho] at hk hvs)
  · split <;> rfl
  · split <;> rfl
  · split <;> rfl
  · unfold opAlloc; split <;> rfl
  · unfold opBox; split <;> rfl
  · unfold opBuild; (repeat' split) <;> rfl
  · unfold opBuildSlice; (repeat' split) <;> rfl
  · simp only [opLoadT]; unfold opLoad; (repeat' split) <;> rfl
  · simp at hk
  · unfold opNil; (repeat' split) <;> rfl
  · unfold opBin; (repeat' split) <;> rfl
  · unfold opUn; (repeat' split) <;> rfl
  · unfold opConvert; (repeat' split) <;> rfl
  · unfold opMakeFunc; (repeat' split) <;> rfl
  · unfold opMakeSlice; (repeat' split) <;> rfl
  · unfold opSlice; (repeat' split) <;> rfl
  · unfold opFieldAddr; (repeat' split) <;> rfl
  · unfold opField; (repeat' split) <;> rfl
  · unfold opIndexAddr; (repeat' split) <;> rfl
  · unfold opIndexT opIndex; (repeat' split) <;> rfl
  · unfold opExtract; (repeat' split) <;> rfl
  · rename_i c
    unfold opCallT
    split
    · unfold opLenT opLen; (repeat' split) <;> rfl
    · unfold opAppendT
      split
      · rfl
      · unfold opAppZ; (repeat' split) <;> rfl
      · rename_i hn _
        unfold opAppend
        split
        · split
          · split
            · split
              · rfl
              · rfl
              · exact (hn _ _ _ _ _ _ rfl rfl).elim
              · rfl
            · rfl
          · rfl
        · rfl
    · unfold opCapT opCap; (repeat' split) <;> rfl
    · rename_i h1 _ _
      dsimp only at hk
      rw [h1] at hk; simp at hk
    · rename_i g hg
      dsimp only at hk
      rw [hg] at hk
      cases g with
      | func f =>
        simp only at hk
        unfold opCall
        split
        · rename_i f' caps args
          have e : f' = f := by
            obtain ⟨c1, c2, c3⟩ := c
            simp only at hg
            subst hg
            simp [taken, isLen, Op.operands, Call.operands, grabs] at hvs
            exact hvs.1.1.symm
          subst e
          cases hΓf : Γ f' with
          | none => rfl
          | pure F => rfl
          | ext F => rfl
          | gen F => rw [hΓf] at hk; simp [isPure] at hk
        · rfl
      | _ => simp at hk
    · rfl
  · rfl
theorem opF_indep {o : Oper} {T : Nat → D} {H H' : Hp} (hk : kindO Γ o = 0) : (opF P Γ true o (taken T o.op).1 H).pre = (opF P Γ true o (taken T o.op).1 H').pre ∧ (opF P Γ true o (taken T o.op).1 H).val = (opF P Γ true o (taken T o.op).1 H').val ∧ (opF P Γ true o (taken T o.op).1 H).back = (opF P Γ true o (taken T o.op).1 H').back := by
  generalize hvs : (taken T o.op).1 = vs
  unfold opF
  unfold kindO at hk
  split <;> rename_i ho <;> (try rw [ho] at hk hvs)
  · split <;> exact ⟨rfl, rfl, rfl⟩
  · split <;> exact ⟨rfl, rfl, rfl⟩
  · split <;> exact ⟨rfl, rfl, rfl⟩
  · unfold opAlloc; split <;> exact ⟨rfl, rfl, rfl⟩
  · unfold opBox; split <;> exact ⟨rfl, rfl, rfl⟩
  · unfold opBuild; (repeat' split) <;> exact ⟨rfl, rfl, rfl⟩
  · unfold opBuildSlice; (repeat' split) <;> exact ⟨rfl, rfl, rfl⟩
  · simp at hk
  · simp at hk
  · unfold opNil; (repeat' split) <;> exact ⟨rfl, rfl, rfl⟩
  · unfold opBin; (repeat' split) <;> exact ⟨rfl, rfl, rfl⟩
  · unfold opUn; (repeat' split) <;> exact ⟨rfl, rfl, rfl⟩
  · unfold opConvert; (repeat' split) <;> exact ⟨rfl, rfl, rfl⟩
  · unfold opMakeFunc; (repeat' split) <;> exact ⟨rfl, rfl, rfl⟩
  · unfold opMakeSlice; (repeat' split) <;> exact ⟨rfl, rfl, rfl⟩
  · unfold opSlice; (repeat' split) <;> exact ⟨rfl, rfl, rfl⟩
  · unfold opFieldAddr; (repeat' split) <;> exact ⟨rfl, rfl, rfl⟩
  · unfold opField; (repeat' split) <;> exact ⟨rfl, rfl, rfl⟩
  · unfold opIndexAddr; (repeat' split) <;> exact ⟨rfl, rfl, rfl⟩
  · unfold opIndexT opIndex; (repeat' split) <;> exact ⟨rfl, rfl, rfl⟩
  · unfold opExtract; (repeat' split) <;> exact ⟨rfl, rfl, rfl⟩
  · rename_i c
    unfold opCallT
    split
    · unfold opLenT opLen; (repeat' split) <;> exact ⟨rfl, rfl, rfl⟩
    · rename_i h1 _ _
      dsimp only at hk
      rw [h1] at hk; simp at hk
    · unfold opCapT opCap; (repeat' split) <;> exact ⟨rfl, rfl, rfl⟩
    · rename_i h1 _ _
      dsimp only at hk
      rw [h1] at hk; simp at hk
    · rename_i g hg
      dsimp only at hk
      rw [hg] at hk
      cases g with
      | func f => simp only at hk; split at hk <;> simp at hk
      | _ => simp at hk
    · exact ⟨rfl, rfl, rfl⟩
  · exact ⟨rfl, rfl, rfl⟩

/-! ### One operation, locally -/
theorem back_owned {o : Oper} {T : Nat → D} {H : Hp} {t : Nat} {xs : List Operand} (hx : o.op.operands.toList = .tmp t :: xs) (hb : (opF P Γ true o (taken T o.op).1 H).back ≠ none) : owns (T t) = true := by
  revert hb
  generalize hvs : (taken T o.op).1 = vs
  have key : ∀ d ds, isLen o.op = false → vs = d :: ds → d = T t := by
    intro d ds hl e
    rw [e] at hvs
    simp only [taken, hl, Bool.false_eq_true, if_false, hx, grabs] at hvs
    simp at hvs
    exact hvs.1.symm
  unfold opF
  split <;> rename_i ho <;> (try rw [ho] at key)
  · split <;> (intro h; exact (h rfl).elim)
  · split <;> (intro h; exact (h rfl).elim)
  · split <;> (intro h; exact (h rfl).elim)
  · unfold opAlloc; split <;> (intro h; exact (h rfl).elim)
  · unfold opBox; split <;> (intro h; exact (h rfl).elim)
  · unfold opBuild; (repeat' split) <;> (intro h; exact (h rfl).elim)
  · unfold opBuildSlice; (repeat' split) <;> (intro h; exact (h rfl).elim)
  · simp only [opLoadT]; unfold opLoad; (repeat' split) <;> (intro h; exact (h rfl).elim)
  · unfold opStore
    split
    · split <;> (intro h; exact (h rfl).elim)
    · intro _
      rw [← key _ _ rfl rfl]
      rfl
    · intro h; exact (h rfl).elim
  · unfold opNil; (repeat' split) <;> (intro h; exact (h rfl).elim)
  · unfold opBin; (repeat' split) <;> (intro h; exact (h rfl).elim)
  · unfold opUn; (repeat' split) <;> (intro h; exact (h rfl).elim)
  · unfold opConvert; (repeat' split) <;> (intro h; exact (h rfl).elim)
  · unfold opMakeFunc; (repeat' split) <;> (intro h; exact (h rfl).elim)
  · unfold opMakeSlice; (repeat' split) <;> (intro h; exact (h rfl).elim)
  · unfold opSlice; (repeat' split) <;> (intro h; exact (h rfl).elim)
  · unfold opFieldAddr; (repeat' split) <;> (intro h; exact (h rfl).elim)
  · unfold opField; (repeat' split) <;> (intro h; exact (h rfl).elim)
  · unfold opIndexAddr; (repeat' split) <;> (intro h; exact (h rfl).elim)
  · unfold opIndexT opIndex; (repeat' split) <;> (intro h; exact (h rfl).elim)
  · unfold opExtract
    split
    · rename_i ds
      dsimp only
      split
      · rename_i hds
        intro _
        rw [← key _ _ rfl rfl]
        exact hds
      · intro h; exact (h rfl).elim
    · intro h; exact (h rfl).elim
  · unfold opCallT
    split
    · unfold opLenT opLen; (repeat' split) <;> (intro h; exact (h rfl).elim)
    · unfold opAppendT opAppend opAppZ; (repeat' split) <;> (intro h; exact (h rfl).elim)
    · unfold opCapT opCap; (repeat' split) <;> (intro h; exact (h rfl).elim)
    · unfold opCopy; (repeat' split) <;> (intro h; exact (h rfl).elim)
    · unfold opCall; (repeat' split) <;> (intro h; exact (h rfl).elim)
    · intro h; exact (h rfl).elim
  · intro h; exact (h rfl).elim
theorem putD_ne {dst : Option Nat} {d : D} {T : Nat → D} {t : Nat} (h : dst ≠ some t) : putD dst d T t = T t := by
  cases dst with
  | none => rfl
  | some t' => exact upd_ne fun e => h (by rw [e])
theorem putD_eq {dst : Option Nat} {d : D} {T : Nat → D} {t : Nat} (h : dst = some t) : putD dst d T t = d := by subst h; exact upd_eq ..
theorem backT_cases (op : Op) (b : Option D) (T : Nat → D) : backT op b T = T ∨ ∃ d t xs, b = some d ∧ op.operands.toList = .tmp t :: xs ∧ backT op b T = upd T t d := by
  unfold backT
  cases b with
  | none => exact .inl rfl
  | some d =>
    cases hx : op.operands.toList with
    | nil => exact .inl rfl
    | cons x xs =>
      cases x with
      | tmp t => exact .inr ⟨d, t, xs, rfl, rfl, rfl⟩
      | _ => exact .inl rfl
theorem backT_congr (op : Op) (b : Option D) {T T' : Nat → D} {t : Nat} (h : T t = T' t) : backT op b T t = backT op b T' t := by
  unfold backT
  cases b with
  | none => exact h
  | some d =>
    cases op.operands.toList with
    | nil => exact h
    | cons x xs =>
      cases x with
      | tmp t' => simp only [upd]; split; rfl; exact h
      | _ => exact h
theorem backT_ne {o : Oper} {b : Option D} {T : Nat → D} {t : Nat} (h : b ≠ none → ∀ xs, o.op.operands.toList ≠ .tmp t :: xs) : backT o.op b T t = T t := by
  rcases backT_cases o.op b T with e | ⟨d, t', xs, h1, h2, e⟩
  · rw [e]
  · rw [e]
    exact upd_ne fun e' => h (by rw [h1]; simp) xs (by rw [e']; exact h2)
theorem stepG_frame {ops : Array Oper} {o : Oper} {S : St} {t : Nat} (h1 : o.dst ≠ some t) (h2 : t ∉ slotsOf o ∨ owns (S.T t) = false) : (stepG P Γ true ops o S).2.T t = S.T t := by
  unfold stepG
  split
  · rfl
  · exact putD_ne h1
  · simp only [step]
    rw [putD_ne h1, backT_ne, taken_snd h2]
    intro hb xs hx
    have ho := back_owned hx hb
    rcases h2 with h2 | h2
    · exact h2 (mem_slots.2 (by rw [hx]; simp))
    · rw [h2] at ho; cases ho
theorem stepG_H {ops : Array Oper} {o : Oper} {S : St} (hk : kindO Γ o ≤ 1) : (stepG P Γ true ops o S).2.H = S.H := by
  unfold stepG
  split
  · rfl
  · rfl
  · simp only [step]; exact opF_H hk
theorem guardD_local {ops : Array Oper} {o : Oper} {T T' : Nat → D} (hT : ∀ t ∈ readsOf ops o, T t = T' t) : guardD ops o T = guardD ops o T' := by
  unfold guardD
  cases hg : o.guard with
  | none => rfl
  | some jw =>
    obtain ⟨j, want⟩ := jw
    dsimp only
    cases hj : ops[j]? with
    | none => rfl
    | some oj =>
      dsimp only
      cases hd : oj.dst with
      | none => rfl
      | some d =>
        dsimp only
        rw [hT d (by simp [readsOf, guardSlot, hg, hj, hd])]
theorem stepG_local {ops : Array Oper} {o : Oper} {S S' : St} (hT : ∀ t ∈ readsOf ops o, S.T t = S'.T t) (hH : S.H = S'.H ∨ kindO Γ o = 0) :
    (stepG P Γ true ops o S).1 = (stepG P Γ true ops o S').1 ∧ ((stepG P Γ true ops o S).1 → (∀ t, t ∈ slotsOf o ∨ o.dst = some t → (stepG P Γ true ops o S).2.T t = (stepG P Γ true ops o S').2.T t) ∧ (S.H = S'.H → (stepG P Γ true ops o S).2.H = (stepG P Γ true ops o S').2.H)) := by
  have hT' : ∀ t ∈ slotsOf o, S.T t = S'.T t := fun t ht => hT t (by simp [readsOf, ht])
  have hg := guardD_local hT
  unfold stepG
  rw [← hg]
  cases guardD ops o S.T with
  | none => exact ⟨rfl, fun h => h.elim⟩
  | some b =>
    cases b with
    | false =>
      refine ⟨rfl, fun _ => ⟨fun t ht => ?_, fun h => h⟩⟩
      dsimp only
      by_cases hd : o.dst = some t
      · rw [putD_eq hd, putD_eq hd]
      · rw [putD_ne hd, putD_ne hd]
        exact hT' t (ht.resolve_right hd)
    | true =>
      dsimp only
      obtain ⟨e1, e2⟩ := taken_fst (o := o) hT'
      have er : (opF P Γ true o (taken S.T o.op).1 S.H).pre = (opF P Γ true o (taken S'.T o.op).1 S'.H).pre ∧ (opF P Γ true o (taken S.T o.op).1 S.H).val = (opF P Γ true o (taken S'.T o.op).1 S'.H).val ∧ (opF P Γ true o (taken S.T o.op).1 S.H).back = (opF P Γ true o (taken S'.T o.op).1 S'.H).back := by
        rcases hH with h | h
        · rw [e1, h]; exact ⟨rfl, rfl, rfl⟩
        · have := opF_indep (P := P) (T := S.T) (H := S.H) (H' := S'.H) h
          rw [e1] at this ⊢
          exact this
      obtain ⟨r1, r2, r3⟩ := er
      simp only [step]
      rw [r1, r2, r3]
      refine ⟨rfl, fun _ => ⟨fun t ht => ?_, fun h => by rw [e1, h]⟩⟩
      by_cases hd : o.dst = some t
      · rw [putD_eq hd, putD_eq hd]
      · rw [putD_ne hd, putD_ne hd]
        have ht := ht.resolve_right hd
        exact backT_congr _ _ (e2 t ht)

/-! ### Two operations change places -/
/-- Slots that two operations read own nothing. -/
def NS (sh : List Nat) (S : St) : Prop := ∀ t ∈ sh, owns (S.T t) = false
def disjoint2 (Γ : FuncId → Con) (ops : Array Oper) (sh : List Nat) (x y : Oper) : Bool :=
  (match x.dst with
   | some d => !(readsOf ops y).contains d && !decide (y.dst = some d)
   | none => true) &&
  (match y.dst with
   | some d => !(readsOf ops x).contains d
   | none => true) &&
  (slotsOf x).all (fun t => !(slotsOf y).contains t || sh.contains t) &&
  !(kindO Γ x == 2 && kindO Γ y != 0) && !(kindO Γ y == 2 && kindO Γ x != 0) &&
  (guardSlot ops y).toList.all (fun t => !(slotsOf x).contains t || sh.contains t) && (guardSlot ops x).toList.all (fun t => !(slotsOf y).contains t || sh.contains t)
structure Apart (Γ : FuncId → Con) (ops : Array Oper) (sh : List Nat) (x y : Oper) : Prop where
  xy : ∀ t, x.dst = some t → t ∉ readsOf ops y ∧ y.dst ≠ some t
  yx : ∀ t, y.dst = some t → t ∉ readsOf ops x
  shr : ∀ t, t ∈ slotsOf x → t ∈ slotsOf y → t ∈ sh
  k1 : kindO Γ x = 2 → kindO Γ y = 0
  k2 : kindO Γ y = 2 → kindO Γ x = 0
  gy : ∀ t, guardSlot ops y = some t → t ∈ slotsOf x → t ∈ sh
  gx : ∀ t, guardSlot ops x = some t → t ∈ slotsOf y → t ∈ sh
theorem apart_of {ops : Array Oper} {sh : List Nat} {x y : Oper} (h : disjoint2 Γ ops sh x y = true) : Apart Γ ops sh x y := by
  unfold disjoint2 at h
  simp only [Bool.and_eq_true] at h
  obtain ⟨⟨⟨⟨⟨⟨h1, h2⟩, h3⟩, h4⟩, h5⟩, h8⟩, h9⟩ := h
  refine ⟨fun t ht => ?_, fun t ht => ?_, fun t h6 h7 => ?_, fun h6 => ?_, fun h6 => ?_, fun t h6 h7 => ?_, fun t h6 h7 => ?_⟩
  · rw [ht] at h1; simpa using h1
  · rw [ht] at h2; simpa using h2
  · rw [List.all_eq_true] at h3
    have := h3 t h6
    simpa [h7] using this
  · simpa [h6] using h4
  · simpa [h6] using h5
  · rw [h6] at h8; simpa [h7] using h8
  · rw [h6] at h9; simpa [h7] using h9
theorem kind_le (o : Oper) : kindO Γ o ≤ 2 := by
  unfold kindO
  split
  · omega
  · omega
  · split
    · omega
    · omega
    · split <;> omega
    · omega
  · omega
/-- What one reads, the other leaves. -/
theorem Apart.reads {ops : Array Oper} {sh : List Nat} {x y : Oper} (h : Apart Γ ops sh x y) {S : St} (hs : NS sh S) : ∀ t ∈ readsOf ops y, (stepG P Γ true ops x S).2.T t = S.T t := by
  intro t ht
  refine stepG_frame (fun e => (h.xy t e).1 ht) ?_
  by_cases hx : t ∈ slotsOf x
  · right
    unfold readsOf at ht
    rcases List.mem_append.1 ht with ht | ht
    · exact hs t (h.shr t hx ht)
    · exact hs t (h.gy t (by simpa using ht) hx)
  · exact .inl hx
theorem Apart.symm {ops : Array Oper} {sh : List Nat} {x y : Oper} (h : Apart Γ ops sh x y) : Apart Γ ops sh y x :=
  ⟨fun t ht => ⟨h.yx t ht, fun e => (h.xy t e).2 ht⟩, fun t ht => (h.xy t ht).1, fun t h1 h2 => h.shr t h2 h1, h.k2, h.k1, h.gx, h.gy⟩
theorem Apart.swap {ops : Array Oper} {sh : List Nat} {x y : Oper} (h : Apart Γ ops sh x y) {S : St} (hs : NS sh S)
    (px : (stepG P Γ true ops x S).1) (py : (stepG P Γ true ops y (stepG P Γ true ops x S).2).1) :
    (stepG P Γ true ops y S).1 ∧ (stepG P Γ true ops x (stepG P Γ true ops y S).2).1 ∧ (stepG P Γ true ops x (stepG P Γ true ops y S).2).2 = (stepG P Γ true ops y (stepG P Γ true ops x S).2).2 ∧
      (stepG P Γ true ops y S).2.T = (fun t => if t ∈ slotsOf y ∨ y.dst = some t then (stepG P Γ true ops y (stepG P Γ true ops x S).2).2.T t else S.T t) := by
  have hry := h.reads (P := P) hs
  have hrx := h.symm.reads (P := P) hs
  have kx := kind_le (Γ := Γ) x
  have ky := kind_le (Γ := Γ) y
  -- y, before and behind x
  have hHy : (stepG P Γ true ops x S).2.H = S.H ∨ kindO Γ y = 0 := by
    by_cases e : kindO Γ x = 2
    · exact .inr (h.k1 e)
    · exact .inl (stepG_H (by omega))
  obtain ⟨ly1, ly2⟩ := stepG_local (P := P) (S := (stepG P Γ true ops x S).2) (S' := S) hry hHy
  have py' : (stepG P Γ true ops y S).1 := by rw [← ly1]; exact py
  obtain ⟨ly3, ly4⟩ := ly2 py
  have hHx : (stepG P Γ true ops y S).2.H = S.H ∨ kindO Γ x = 0 := by
    by_cases e : kindO Γ y = 2
    · exact .inr (h.k2 e)
    · exact .inl (stepG_H (by omega))
  obtain ⟨lx1, lx2⟩ := stepG_local (P := P) (S := (stepG P Γ true ops y S).2) (S' := S) hrx hHx
  have px' : (stepG P Γ true ops x (stepG P Γ true ops y S).2).1 := by rw [lx1]; exact px
  obtain ⟨lx3, lx4⟩ := lx2 px'
  -- slots
  have fx : ∀ (S : St) t, ¬ (t ∈ slotsOf x ∨ x.dst = some t) → (stepG P Γ true ops x S).2.T t = S.T t := fun S t ht => stepG_frame (fun e => ht (.inr e)) (.inl fun e => ht (.inl e))
  have fy : ∀ (S : St) t, ¬ (t ∈ slotsOf y ∨ y.dst = some t) → (stepG P Γ true ops y S).2.T t = S.T t := fun S t ht => stepG_frame (fun e => ht (.inr e)) (.inl fun e => ht (.inl e))
  have both : ∀ t, (t ∈ slotsOf x ∨ x.dst = some t) → (t ∈ slotsOf y ∨ y.dst = some t) → t ∈ slotsOf x ∧ t ∈ slotsOf y ∧ x.dst ≠ some t ∧ y.dst ≠ some t ∧ owns (S.T t) = false := by
    intro t h1 h2
    have n1 : x.dst ≠ some t := fun e => by
      have := h.xy t e
      rcases h2 with h2 | h2
      · exact this.1 (by simp [readsOf, h2])
      · exact this.2 h2
    have h1 := h1.resolve_right n1
    have n2 : y.dst ≠ some t := fun e => h.yx t e (by simp [readsOf, h1])
    have h2 := h2.resolve_right n2
    exact ⟨h1, h2, n1, n2, hs t (h.shr t h1 h2)⟩
  have eqT : ∀ t, (stepG P Γ true ops x (stepG P Γ true ops y S).2).2.T t = (stepG P Γ true ops y (stepG P Γ true ops x S).2).2.T t := by
    intro t
    by_cases h1 : t ∈ slotsOf x ∨ x.dst = some t <;> by_cases h2 : t ∈ slotsOf y ∨ y.dst = some t
    · obtain ⟨a1, a2, a3, a4, a5⟩ := both t h1 h2
      have e1 : (stepG P Γ true ops x S).2.T t = S.T t := stepG_frame a3 (.inr a5)
      have e2 : (stepG P Γ true ops y S).2.T t = S.T t := stepG_frame a4 (.inr a5)
      have e3 := stepG_frame (P := P) (Γ := Γ) (ops := ops) (S := (stepG P Γ true ops y S).2) a3 (.inr (by rw [e2]; exact a5))
      have e4 := stepG_frame (P := P) (Γ := Γ) (ops := ops) (S := (stepG P Γ true ops x S).2) a4 (.inr (by rw [e1]; exact a5))
      rw [e3, e4, e1, e2]
    · rw [lx3 t h1, fy _ t h2]
    · rw [fx _ t h1, ly3 t h2]
    · rw [fx _ t h1, fy _ t h2, fy _ t h2, fx _ t h1]
  have eqH : (stepG P Γ true ops x (stepG P Γ true ops y S).2).2.H = (stepG P Γ true ops y (stepG P Γ true ops x S).2).2.H := by
    by_cases e1 : kindO Γ x = 2
    · have k0 := h.k1 e1
      rw [stepG_H (P := P) (o := y) (S := (stepG P Γ true ops x S).2) (by omega)]
      exact lx4 (stepG_H (by omega))
    · rw [stepG_H (P := P) (o := x) (S := (stepG P Γ true ops y S).2) (by omega)]
      exact (ly4 (stepG_H (by omega))).symm
  refine ⟨py', px', ?_, ?_⟩
  · cases hA : (stepG P Γ true ops x (stepG P Γ true ops y S).2).2 with
    | mk T1 H1 =>
      cases hB : (stepG P Γ true ops y (stepG P Γ true ops x S).2).2 with
      | mk T2 H2 =>
        rw [hA, hB] at eqH eqT
        dsimp only at eqH eqT
        rw [eqH, funext eqT]
  · funext t
    split
    · rename_i ht; exact (ly3 t ht).symm
    · rename_i ht; exact fy _ t ht

/-! ### A whole region -/
variable (P Γ) in
def WD (sh : List Nat) (ops : Array Oper) : List Nat → St → (St → Prop) → Prop
  | [], S, K => K S
  | i :: L, S, K => match ops[i]? with
    | none => WD sh ops L S K
    | some o => (stepG P Γ true ops o S).1 ∧ (∀ t, o.dst = some t → t ∈ sh → i + 1 ≠ ops.size → owns ((stepG P Γ true ops o S).2.T t) = false) ∧ WD sh ops L (stepG P Γ true ops o S).2 K
variable (P Γ) in
/-- A region whose order is drawn, in the text's order, parted in two at the Bools of the slots 'srcs'; 'sh': the slots that more than one operation reads. -/
def VD (srcs sh : List Nat) (ops : Array Oper) : List Oper → St → (St → Prop) → Prop
  | [], S, K => K S
  | o :: L, S, K => (stepG P Γ true ops o S).1 ∧
    match o.dst with
    | some t => (t ∈ sh → L ≠ [] → owns ((stepG P Γ true ops o S).2.T t) = false) ∧ if t ∈ srcs then (match (stepG P Γ true ops o S).2.T t with
        | .bool b => splitB b (VD srcs sh ops L ⟨upd (stepG P Γ true ops o S).2.T t (.bool true), (stepG P Γ true ops o S).2.H⟩ K) (VD srcs sh ops L ⟨upd (stepG P Γ true ops o S).2.T t (.bool false), (stepG P Γ true ops o S).2.H⟩ K)
        | _ => VD srcs sh ops L (stepG P Γ true ops o S).2 K) else VD srcs sh ops L (stepG P Γ true ops o S).2 K
    | none => VD srcs sh ops L (stepG P Γ true ops o S).2 K
theorem VD_WD {srcs sh : List Nat} {ops : Array Oper} {K : St → Prop} : ∀ {k : Nat} {L : List Oper} {S : St}, (∀ j, L[j]? = ops[k + j]?) → VD P Γ srcs sh ops L S K → WD P Γ sh ops (List.range' k L.length) S K
  | k, [], S, hL, h => h
  | k, o :: L, S, hL, h => by
    have h0 : ops[k]? = some o := by have := hL 0; simpa using this.symm
    have hL' : ∀ j, L[j]? = ops[k + 1 + j]? := fun j => by
      have := hL (j + 1)
      rw [List.getElem?_cons_succ] at this
      rw [this]; congr 1; omega
    have hne : k + 1 ≠ ops.size → L ≠ [] := fun hk e => by
      subst e
      have h2 := hL' 0
      have h3 := (Array.getElem?_eq_some_iff.1 h0).1
      rw [Nat.add_zero] at h2
      have : ops.size ≤ k + 1 := by
        rcases Nat.lt_or_ge (k + 1) ops.size with h4 | h4
        · rw [Array.getElem?_eq_getElem h4] at h2; cases h2
        · exact h4
      omega
    simp only [List.length_cons, List.range'_succ, WD, h0]
    simp only [VD] at h
    obtain ⟨h1, h⟩ := h
    refine ⟨h1, ?_⟩
    generalize (stepG P Γ true ops o S).2 = S' at h ⊢
    split at h
    · rename_i t hd
      obtain ⟨h2, h⟩ := h
      refine ⟨fun t' ht' hm hk => by rw [hd] at ht'; cases ht'; exact h2 hm (hne hk), ?_⟩
      split at h
      · split at h
        · rename_i b hb
          obtain ⟨h3, h4⟩ := h
          cases b
          · have := h4 rfl
            rw [upd_self hb] at this
            exact VD_WD hL' this
          · have := h3 rfl
            rw [upd_self hb] at this
            exact VD_WD hL' this
        · exact VD_WD hL' h
      · exact VD_WD hL' h
    · rename_i hd
      exact ⟨fun t' ht' => by rw [hd] at ht'; (try cases ht'), VD_WD hL' h⟩
theorem NS.step {sh : List Nat} {ops : Array Oper} {o : Oper} {S : St} (hs : NS sh S) (he : ∀ t, o.dst = some t → t ∈ sh → owns ((stepG P Γ true ops o S).2.T t) = false) : NS sh (stepG P Γ true ops o S).2 := fun t ht => by
  by_cases hd : o.dst = some t
  · exact he t hd ht
  · rw [stepG_frame hd (.inr (hs t ht))]; exact hs t ht
theorem WD_first {sh : List Nat} {ops : Array Oper} {K : St → Prop} {i : Nat} {y : Oper} (hi : ops[i]? = some y) {M2 : List Nat} : ∀ {M1 : List Nat} {S : St}, (∀ j ∈ M1, (∃ x, ops[j]? = some x ∧ Apart Γ ops sh x y) ∧ j + 1 ≠ ops.size) → (M1 ≠ [] → NS sh S) → WD P Γ sh ops (M1 ++ i :: M2) S K → WD P Γ sh ops (i :: (M1 ++ M2)) S K
  | [], S, hM, hs, h => h
  | j :: M1, S, hM, hs, h => by
    obtain ⟨⟨x, hj, hap⟩, hjl⟩ := hM j (by simp)
    have hs := hs (by simp)
    rw [List.cons_append, WD, hj] at h
    dsimp only at h
    obtain ⟨p1, e1, h⟩ := h
    have ih := WD_first hi (fun k hk => hM k (by simp [hk])) (fun _ => hs.step fun t ht hm => e1 t ht hm hjl) h
    rw [WD, hi] at ih
    dsimp only at ih
    obtain ⟨p2, e2, ih⟩ := ih
    obtain ⟨q1, q2, q3, q4⟩ := hap.swap hs p1 p2
    rw [WD, hi]
    dsimp only
    refine ⟨q1, fun t ht hm hl => ?_, ?_⟩
    · rw [q4]
      simp only [ht, or_true, if_true]
      exact e2 t ht hm hl
    · rw [List.cons_append, WD, hj]
      dsimp only
      rw [q3]
      refine ⟨q2, fun t ht hm hl => ?_, ih⟩
      have := hap.xy t ht
      rw [stepG_frame this.2 (.inl fun hx => this.1 (by simp [readsOf, hx]))]
      exact e1 t ht hm hl

/-- Which operations stand ahead of each: bits. -/
def maskOf (o : Oper) (acc : List Nat) : Nat := (o.after.toList.filter (Region.binds .any)).foldl (fun s e => s ||| 2 ^ e.on ||| acc.getD e.on 0) 0
def befGo : List Oper → List Nat → List Nat
  | [], acc => acc
  | o :: os, acc => befGo os (acc ++ [maskOf o acc])
def drawnOk (Γ : FuncId → Con) (ops : Array Oper) (sh : List Nat) : Bool :=
  let b := befGo ops.toList []
  (ops.toList.zipIdx.all fun (o, i) => (o.after.toList.filter (Region.binds .any)).all fun e => decide (e.on < i)) &&
  (ops.toList.zipIdx.all fun (y, i) => ops.toList.zipIdx.all fun (x, j) => !decide (j < i) || (b.getD i 0).testBit j || disjoint2 Γ ops sh x y) &&
  (ops.toList.zipIdx.all fun (y, i) => !decide (i + 1 = ops.size) || !(y.dst.any fun t => sh.contains t) || (List.range i).all fun j => (b.getD i 0).testBit j)
theorem maskOf_bit {o : Oper} {acc : List Nat} {j : Nat} (h : (maskOf o acc).testBit j = true) : ∃ e ∈ o.after.toList, Region.binds .any e = true ∧ (j = e.on ∨ (acc.getD e.on 0).testBit j = true) := by
  unfold maskOf at h
  have key : ∀ (l : List Edge) (s : Nat), (l.foldl (fun s e => s ||| 2 ^ e.on ||| acc.getD e.on 0) s).testBit j = true → s.testBit j = true ∨ ∃ e ∈ l, j = e.on ∨ (acc.getD e.on 0).testBit j = true := by
    intro l
    induction l with
    | nil => intro s h; exact .inl h
    | cons e l ih =>
      intro s h
      rcases ih _ h with h | ⟨e', he', h⟩
      · rw [Nat.testBit_or, Nat.testBit_or, Bool.or_eq_true, Bool.or_eq_true] at h
        rcases h with (h | h) | h
        · exact .inl h
        · rw [Nat.testBit_two_pow] at h
          exact .inr ⟨e, by simp, .inl (by simpa using (of_decide_eq_true h).symm)⟩
        · exact .inr ⟨e, by simp, .inr h⟩
      · exact .inr ⟨e', by simp [he'], h⟩
  rcases key _ _ h with h | ⟨e, he, h⟩
  · simp at h
  · rw [List.mem_filter] at he
    exact ⟨e, he.1, he.2, h⟩
theorem befGo_bit {ops : Array Oper} (Ls : Nat → Prop) (hcl : ∀ k o, ops[k]? = some o → Ls k → ∀ e ∈ o.after.toList, Region.binds .any e = true → Ls e.on) :
    ∀ (os : List Oper) (acc : List Nat), (∀ k, os[k]? = ops[acc.length + k]?) → (∀ k o, k < acc.length → ops[k]? = some o → (∀ e ∈ o.after.toList, Region.binds .any e = true → Ls e.on) → ∀ j, (acc.getD k 0).testBit j = true → Ls j) →
      ∀ k o, ops[k]? = some o → (∀ e ∈ o.after.toList, Region.binds .any e = true → Ls e.on) → ∀ j, ((befGo os acc).getD k 0).testBit j = true → Ls j
  | [], acc, hos, hacc, k, o, ho, hr, j, hj => by
    simp only [befGo] at hj
    by_cases hk : k < acc.length
    · exact hacc k o hk ho hr j hj
    · rw [List.getD_eq_getElem?_getD, List.getElem?_eq_none (by omega)] at hj
      simp at hj
  | o' :: os, acc, hos, hacc, k, o, ho, hr, j, hj => by
    simp only [befGo] at hj
    refine befGo_bit Ls hcl os (acc ++ [maskOf o' acc]) (fun k => ?_) (fun k o hk ho hr j hj => ?_) k o ho hr j hj
    · have := hos (k + 1)
      rw [List.getElem?_cons_succ] at this
      rw [this, List.length_append]
      congr 1
      simp; omega
    · rw [List.length_append] at hk
      by_cases hk' : k < acc.length
      · rw [List.getD_eq_getElem?_getD, List.getElem?_append_left hk', ← List.getD_eq_getElem?_getD] at hj
        exact hacc k o hk' ho hr j hj
      · have hk2 : k = acc.length := by simp at hk; omega
        subst hk2
        have h0 : o' = o := by have := hos 0; rw [Nat.add_zero, ho] at this; simpa using this
        subst h0
        have e1 : (acc ++ [maskOf o' acc]).getD acc.length 0 = maskOf o' acc := by simp [List.getD_eq_getElem?_getD]
        rw [e1] at hj
        obtain ⟨e, he, hb, h⟩ := maskOf_bit hj
        rcases h with rfl | h
        · exact hr e he hb
        · have hlt : e.on < acc.length := by
            rcases Nat.lt_or_ge e.on acc.length with h' | h'
            · exact h'
            · rw [List.getD_eq_getElem?_getD, List.getElem?_eq_none h'] at h; simp at h
          cases hoe : ops[e.on]? with
          | none =>
            have : e.on < ops.size := by
              have := (Array.getElem?_eq_some_iff.1 ho).1
              omega
            rw [Array.getElem?_eq_getElem this] at hoe
            cases hoe
          | some oe => exact hacc e.on oe hlt hoe (hcl e.on oe hoe (hr e he hb)) j h
section
variable {B : Base} {n : Nat}
theorem WD_any (hΓ : ∀ f, ConOk P f (Γ f)) {ops : Array Oper} {sh : List Nat} (hd : dstsOk n ops = true) (hok : drawnOk Γ ops sh = true) {Q : Exit → St → Prop} : ∀ (fuel : Nat) (listed : Array Bool) (S : St) (a : Act) (w : World) (μ : Nat → Nat) (fp : Root → List Nat) (N : Nat),
    ((List.range ops.size).filter fun k => !listed.getD k true).length ≤ fuel → listed.size = ops.size → (∀ k o, ops[k]? = some o → listed.getD k true = true → ∀ e ∈ o.after.toList, Region.binds .any e = true → listed.getD e.on false = true) → (((List.range ops.size).filter fun k => !listed.getD k true) ≠ [] → NS sh S) → R B n S [] [] a w μ fp N →
    WD P Γ sh ops ((List.range ops.size).filter fun k => !listed.getD k true) S (Q .normal) → wpAny P .any ops (lift B n Q) fuel listed a w
  | fuel, listed, S, a, w, μ, fp, N, hf, hsz, hcl, hs, hR, hw => by
    have hback : ∀ i y, ops[i]? = some y → ∀ e ∈ y.after.toList, Region.binds .any e = true → e.on < i := by
      intro i y hi e he hb
      unfold drawnOk at hok
      simp only [Bool.and_eq_true] at hok
      have h1 := hok.1.1
      rw [List.all_eq_true] at h1
      have h2 := h1 (y, i) (by rw [List.mem_zipIdx_iff_getElem?]; simpa using hi)
      rw [List.all_eq_true] at h2
      have := h2 e (by rw [List.mem_filter]; exact ⟨he, hb⟩)
      simpa using this
    -- where all that are left wait, none are left
    have hnone : Region.ready .any ops listed = [] → ((List.range ops.size).filter fun k => !listed.getD k true) = [] := by
      intro hr
      cases hM : (List.range ops.size).filter fun k => !listed.getD k true with
      | nil => rfl
      | cons i M =>
        exfalso
        have hmem : i ∈ (List.range ops.size).filter fun k => !listed.getD k true := by rw [hM]; simp
        rw [List.mem_filter, List.mem_range] at hmem
        have hsorted : ((List.range ops.size).filter fun k => !listed.getD k true).Pairwise (· < ·) := List.Pairwise.filter _ List.pairwise_lt_range
        have : i ∈ Region.ready .any ops listed := by
          rw [mem_ready]
          refine ⟨by simpa using hmem.2, ops[i], Array.getElem?_eq_getElem hmem.1, fun e he hb => ?_⟩
          have hlt := hback i _ (Array.getElem?_eq_getElem hmem.1) e (by simpa using he) hb
          have hlt' : e.on < listed.size := by omega
          cases hle : listed.getD e.on true with
          | true => rwa [Array.getD_eq_getD_getElem?, Array.getElem?_eq_getElem hlt', Option.getD_some] at hle ⊢
          | false =>
            have hin : e.on ∈ (List.range ops.size).filter fun k => !listed.getD k true := by
              rw [List.mem_filter, List.mem_range]; exact ⟨by omega, by simp [hle]⟩
            rw [hM] at hin hsorted
            rcases List.mem_cons.1 hin with h | h
            · omega
            · have := (List.pairwise_cons.1 hsorted).1 _ h; omega
        rw [hr] at this
        cases this
    have hfin : Region.ready .any ops listed = [] → lift B n Q .normal a w := fun hr => by
      rw [hnone hr] at hw
      exact ⟨S, μ, fp, N, hR, hw⟩
    cases fuel with
    | zero =>
      have h0 : ((List.range ops.size).filter fun k => !listed.getD k true) = [] := List.eq_nil_of_length_eq_zero (by omega)
      have hr : Region.ready .any ops listed = [] := by
        refine List.eq_nil_iff_forall_not_mem.2 fun i hi => ?_
        obtain ⟨h1, o, h2, _⟩ := mem_ready.1 hi
        have : i ∈ (List.range ops.size).filter fun k => !listed.getD k true := by
          rw [List.mem_filter, List.mem_range]; exact ⟨(Array.getElem?_eq_some_iff.1 h2).1, by simp [h1]⟩
        rw [h0] at this; cases this
      exact ⟨hr, hfin hr⟩
    | succ fuel =>
      refine ⟨hfin, fun i hi => ?_⟩
      obtain ⟨h1, y, h2, h3⟩ := mem_ready.1 hi
      have hlt := (Array.getElem?_eq_some_iff.1 h2).1
      have hmem : i ∈ (List.range ops.size).filter fun k => !listed.getD k true := by
        rw [List.mem_filter, List.mem_range]; exact ⟨hlt, by simp [h1]⟩
      have hnodup : ((List.range ops.size).filter fun k => !listed.getD k true).Nodup := List.Pairwise.filter _ List.nodup_range
      have hsorted : ((List.range ops.size).filter fun k => !listed.getD k true).Pairwise (· < ·) := List.Pairwise.filter _ List.pairwise_lt_range
      obtain ⟨M1, M2, hM⟩ := List.append_of_mem hmem
      have hbit : ∀ j, j < ops.size → (!listed.getD j true) = true → ((befGo ops.toList []).getD i 0).testBit j = true → False := by
        intro j hjs hjl q3
        have := befGo_bit (ops := ops) (fun k => listed.getD k false = true) (fun k o ho hk => hcl k o ho (by
            have hk' : k < listed.size := by rw [hsz]; exact (Array.getElem?_eq_some_iff.1 ho).1
            rw [Array.getD_eq_getD_getElem?, Array.getElem?_eq_getElem hk', Option.getD_some] at hk ⊢
            exact hk)) ops.toList [] (by simp) (by simp) i y h2 (fun e he hb => h3 e (by simpa using he) hb) j q3
        have hj' : j < listed.size := by omega
        rw [Array.getD_eq_getD_getElem?, Array.getElem?_eq_getElem hj', Option.getD_some] at this
        rw [Array.getD_eq_getD_getElem?, Array.getElem?_eq_getElem hj', Option.getD_some, this] at hjl
        simp at hjl
      have hfirst : WD P Γ sh ops (i :: (M1 ++ M2)) S (Q .normal) := by
        refine WD_first h2 (fun j hj => ?_) (fun _ => hs (by rw [hM]; simp)) (hM ▸ hw)
        have hjm : j ∈ (List.range ops.size).filter fun k => !listed.getD k true := by rw [hM]; simp [hj]
        rw [List.mem_filter, List.mem_range] at hjm
        have hji : j < i := by
          rw [hM] at hsorted
          exact (List.pairwise_append.1 hsorted).2.2 j hj i (by simp)
        refine ⟨⟨ops[j], Array.getElem?_eq_getElem hjm.1, ?_⟩, by omega⟩
        have hok' := hok
        unfold drawnOk at hok'
        simp only [Bool.and_eq_true] at hok'
        have q1 := hok'.1.2
        rw [List.all_eq_true] at q1
        have q2 := q1 (y, i) (by rw [List.mem_zipIdx_iff_getElem?]; simpa using h2)
        rw [List.all_eq_true] at q2
        have q3 := q2 (ops[j], j) (by rw [List.mem_zipIdx_iff_getElem?]; simp [hjm.1])
        simp only [hji, decide_true, Bool.not_true, Bool.false_or, Bool.or_eq_true] at q3
        rcases q3 with q3 | q3
        · exact (hbit j hjm.1 hjm.2 q3).elim
        · exact apart_of q3
      rw [WD, h2] at hfirst
      dsimp only at hfirst
      obtain ⟨p1, e1, hrest⟩ := hfirst
      have hM' : ((List.range ops.size).filter fun k => !(listed.setIfInBounds i true).getD k true) = M1 ++ M2 := by
        have e2 : ((List.range ops.size).filter fun k => !(listed.setIfInBounds i true).getD k true) = ((List.range ops.size).filter fun k => !listed.getD k true).filter fun k => decide (k ≠ i) := by
          rw [List.filter_filter]
          apply List.filter_congr
          intro k _
          by_cases e : k = i
          · subst e
            have : (listed.setIfInBounds k true).getD k true = true := by
              rw [Array.getD_eq_getD_getElem?, Array.getElem?_setIfInBounds]
              simp only [if_true]
              split <;> rfl
            simp [this]
          · rw [getD_set_ne true (fun h => e h.symm)]
            simp [e]
        rw [e2, hM]
        have hn := hM ▸ hnodup
        rw [List.nodup_append] at hn
        have hn2 := List.nodup_cons.1 hn.2.1
        rw [List.filter_append, List.filter_cons]
        simp only [ne_eq, not_true_eq_false, decide_false, Bool.false_eq_true, if_false]
        rw [List.filter_eq_self.2, List.filter_eq_self.2]
        · intro k hk; simp; rintro rfl; exact hn2.1 hk
        · intro k hk; simp; rintro rfl; exact hn.2.2 k hk k (by simp) rfl
      have hns : ((List.range ops.size).filter fun k => !(listed.setIfInBounds i true).getD k true) ≠ [] → NS sh (stepG P Γ true ops y S).2 := by
        intro hrest
        rw [hM'] at hrest
        have hs := hs (by rw [hM]; simp)
        by_cases hl : i + 1 = ops.size
        · have hM2 : M2 = [] := by
            cases M2 with
            | nil => rfl
            | cons k M2 =>
              exfalso
              have hk : k ∈ (List.range ops.size).filter fun k => !listed.getD k true := by rw [hM]; simp
              rw [List.mem_filter, List.mem_range] at hk
              rw [hM] at hsorted
              have := (List.pairwise_cons.1 (List.pairwise_append.1 hsorted).2.1).1 k (by simp)
              omega
          subst hM2
          have hok' := hok
          unfold drawnOk at hok'
          simp only [Bool.and_eq_true] at hok'
          have q1 := hok'.2
          rw [List.all_eq_true] at q1
          have q2 := q1 (y, i) (by rw [List.mem_zipIdx_iff_getElem?]; simpa using h2)
          simp only [hl, decide_true, Bool.not_true, Bool.false_or, Bool.or_eq_true] at q2
          rcases q2 with q2 | q2
          · refine hs.step fun t ht hm => ?_
            rw [ht] at q2
            simp at q2
            exact (q2 hm).elim
          · exfalso
            cases M1 with
            | nil => exact hrest rfl
            | cons j M1 =>
              have hjm : j ∈ (List.range ops.size).filter fun k => !listed.getD k true := by rw [hM]; simp
              rw [List.mem_filter, List.mem_range] at hjm
              rw [List.all_eq_true] at q2
              have hji : j < i := by
                rw [hM] at hsorted
                exact (List.pairwise_append.1 hsorted).2.2 j (by simp) i (by simp)
              exact hbit j hjm.1 hjm.2 (q2 j (by rw [List.mem_range]; exact hji))
        · exact hs.step fun t ht hm => e1 t ht hm hl
      refine wpOp_stepG hΓ h2 hR p1 (dstsOk_spec hd) fun a' w' μ' fp' N' hR' => ?_
      refine WD_any hΓ hd hok fuel _ _ a' w' μ' fp' N' ?_ (by simp [hsz]) (fun k o ho hk e he hb => ?_) hns hR' (by rw [hM']; exact hrest)
      · rw [hM']
        have : ((List.range ops.size).filter fun k => !listed.getD k true).length = (M1 ++ M2).length + 1 := by rw [hM]; simp; omega
        omega
      · by_cases e' : k = i
        · subst e'
          rw [h2] at ho
          cases ho
          exact getD_set_true (h3 e (by simpa using he) hb)
        · rw [getD_set_ne true (fun h => e' h.symm)] at hk
          exact getD_set_true (hcl k o ho hk e he hb)
theorem AW_region_draw (hΓ : ∀ f, ConOk P f (Γ f)) (hm : P.follows .mixedOrders = true) {id : Nat} {ops : Array Oper} {Q : Exit → St → Prop} {S : St} (srcs sh : List Nat) (hd : dstsOk n ops = true) (hok : drawnOk Γ ops sh = true) (hs : NS sh S)
    (h : VD P Γ srcs sh ops ops.toList S (Q .normal)) : AW P B n (.region id ops true) Q S := fun a w μ fp N hR => by
  refine wp_region_any hm ?_
  have hall : ((List.range ops.size).filter fun k => !(Array.replicate ops.size false).getD k true) = List.range ops.size := by
    rw [List.filter_eq_self]
    intro k hk
    rw [List.mem_range] at hk
    rw [Array.getD_eq_getD_getElem?, Array.getElem?_replicate, if_pos hk]
    rfl
  have hw : WD P Γ sh ops (List.range ops.size) S (Q .normal) := by
    have := VD_WD (k := 0) (by simp) h
    rw [List.range_eq_range']
    simpa using this
  refine WD_any hΓ hd hok _ _ S a _ μ fp N (by rw [hall]; simp) (by simp) (fun k o ho hk => ?_) (fun _ => hs) (hR.drewN _) (by rw [hall]; exact hw)
  have := (Array.getElem?_eq_some_iff.1 ho).1
  rw [Array.getD_eq_getD_getElem?, Array.getElem?_replicate, if_pos this] at hk
  cases hk
end
end
end Go.Proofs.Ytlbbhkpjjciaiaa.Vm

