/-
  A region whose order is drawn, where loads read blocks that stand still: memory as it was at the start. No conditions; nothing of the program is named here.
-/
import Derived.Test.YtljncoikoffijaaVm13
namespace Go.Proofs.Ytljncoikoffijaa.Vm
open Go
set_option linter.unusedVariables false
set_option linter.unusedSimpArgs false
set_option linter.unusedSectionVars false
section
variable {P : Program} {Γ : FuncId → Con} {ch cx cy : Any}
/-- Blocks, and what they hold all the while. -/
def snH : List (Nat × List D) → Hp
  | [] => fun _ => none
  | (b, cs) :: l => upd (snH l) b (some cs)
def AGL : List (Nat × List D) → Hp → Prop
  | [], _ => True
  | (b, cs) :: l, H => H b = some cs ∧ AGL l H
theorem AGL_spec : ∀ {sn : List (Nat × List D)} {H : Hp}, AGL sn H → ∀ b cs, snH sn b = some cs → H b = some cs
  | [], H, h, b, cs, hb => by cases hb
  | (b', cs') :: l, H, h, b, cs, hb => by
    simp only [snH] at hb
    by_cases e : b = b'
    · subst e; rw [upd_eq] at hb; cases hb; exact h.1
    · rw [upd_ne e] at hb; exact AGL_spec h.2 b cs hb
def isLoad : Op → Bool
  | .load .. => true
  | _ => false
def isApp : Op → Bool
  | .call { callee := .builtin .append, .. } => true
  | _ => false
def kindS (Γ : FuncId → Con) (o : Oper) : Nat := if isLoad o.op then 0 else if isApp o.op then 2 else kindO Γ o
variable (P Γ) in
/-- An operation; a load reads the blocks that stand still. -/
def stepS (ch : Any) (sn : List (Nat × List D)) (ops : Array Oper) (o : Oper) (S : St) : Prop × St :=
  if isLoad o.op then ((stepG P Γ ch true ops o ⟨S.T, snH sn⟩).1, ⟨(stepG P Γ ch true ops o ⟨S.T, snH sn⟩).2.T, S.H⟩) else if isApp o.op then stepG P Γ ch false ops o S else stepG P Γ ch true ops o S
theorem kindS_le (o : Oper) : kindS Γ o ≤ 2 := by
  unfold kindS; split; omega; split; omega; exact kind_le o
theorem opApp_back {o : Oper} (h : isApp o.op = true) (vs : List D) (H : Hp) : (opF P Γ ch false o vs H).back = none := by
  cases ho : o.op with
  | call c =>
    obtain ⟨c1, c2, c3⟩ := c
    rw [ho] at h
    cases c1 with
    | builtin q =>
      cases q <;> simp only [isApp] at h <;> (try cases h)
      unfold opF
      rw [ho]
      dsimp only
      unfold opCallT
      split <;> (try rfl)
      · unfold opLenT opLen; (repeat' split) <;> rfl
      · unfold opAppendT
        split
        · rfl
        · unfold opAppZ; (repeat' split) <;> rfl
        · unfold opAppend; (repeat' split) <;> rfl
      · unfold opCapT opCap; (repeat' split) <;> rfl
      · unfold opCopy; (repeat' split) <;> rfl
      · unfold opCall; (repeat' split) <;> rfl
    | _ => simp [isApp] at h
  | _ => rw [ho] at h; simp [isApp] at h
theorem backT_none (op : Op) (T : Nat → D) : backT op none T = T := by unfold backT; rfl
theorem stepF_frame {ops : Array Oper} {o : Oper} {S : St} {t : Nat} (ha : isApp o.op = true) (h1 : o.dst ≠ some t) (h2 : t ∉ slotsOf o ∨ owns (S.T t) = false) : (stepG P Γ ch false ops o S).2.T t = S.T t := by
  unfold stepG
  split
  · rfl
  · exact putD_ne h1
  · simp only [step]
    rw [putD_ne h1, opApp_back ha, backT_none, taken_snd h2]
theorem stepF_local {ops : Array Oper} {o : Oper} {S S' : St} (ha : isApp o.op = true) (hT : ∀ t ∈ readsOf ops o, S.T t = S'.T t) (hH : S.H = S'.H) :
    (stepG P Γ ch false ops o S).1 = (stepG P Γ ch false ops o S').1 ∧ ((stepG P Γ ch false ops o S).1 → (∀ t, t ∈ slotsOf o ∨ o.dst = some t → (stepG P Γ ch false ops o S).2.T t = (stepG P Γ ch false ops o S').2.T t) ∧ (S.H = S'.H → (stepG P Γ ch false ops o S).2.H = (stepG P Γ ch false ops o S').2.H)) := by
  have hT' : ∀ t ∈ slotsOf o, S.T t = S'.T t := fun t ht => hT t (by simp [readsOf, ht])
  have hg := guardD_local hT
  unfold stepG
  rw [← hg]
  cases guardD ops o S.T with
  | none => exact ⟨rfl, fun h => h.elim⟩
  | some b =>
    cases b with
    | false =>
      refine ⟨rfl, fun _ => ⟨fun t ht => ?_, fun h => h⟩⟩
      dsimp only
      by_cases hd : o.dst = some t
      · rw [putD_eq hd, putD_eq hd]
      · rw [putD_ne hd, putD_ne hd]
        exact hT' t (ht.resolve_right hd)
    | true =>
      dsimp only
      obtain ⟨e1, e2⟩ := taken_fst (o := o) hT'
      simp only [step]
      rw [opApp_back ha, opApp_back ha, backT_none, backT_none, e1, hH]
      refine ⟨rfl, fun _ => ⟨fun t ht => ?_, fun _ => rfl⟩⟩
      by_cases hd : o.dst = some t
      · rw [putD_eq hd, putD_eq hd]
      · rw [putD_ne hd, putD_ne hd]
        exact e2 t (ht.resolve_right hd)
variable {sn : List (Nat × List D)}
theorem stepS_frame {ops : Array Oper} {o : Oper} {S : St} {t : Nat} (h1 : o.dst ≠ some t) (h2 : t ∉ slotsOf o ∨ owns (S.T t) = false) : (stepS P Γ ch sn ops o S).2.T t = S.T t := by
  unfold stepS
  split
  · exact stepG_frame (S := ⟨S.T, snH sn⟩) h1 h2
  · split
    · exact stepF_frame (by assumption) h1 h2
    · exact stepG_frame h1 h2
theorem stepS_H {ops : Array Oper} {o : Oper} {S : St} (hk : kindS Γ o ≤ 1) : (stepS P Γ ch sn ops o S).2.H = S.H := by
  unfold stepS
  unfold kindS at hk
  split
  · rfl
  · rename_i h
    rw [if_neg h] at hk
    split
    · rename_i h2; rw [if_pos h2] at hk; omega
    · rename_i h2; rw [if_neg h2] at hk; exact stepG_H hk
theorem stepS_local {ops : Array Oper} {o : Oper} {S S' : St} (hT : ∀ t ∈ readsOf ops o, S.T t = S'.T t) (hH : S.H = S'.H ∨ kindS Γ o = 0) :
    (stepS P Γ ch sn ops o S).1 = (stepS P Γ ch sn ops o S').1 ∧ ((stepS P Γ ch sn ops o S).1 → (∀ t, t ∈ slotsOf o ∨ o.dst = some t → (stepS P Γ ch sn ops o S).2.T t = (stepS P Γ ch sn ops o S').2.T t) ∧ (S.H = S'.H → (stepS P Γ ch sn ops o S).2.H = (stepS P Γ ch sn ops o S').2.H)) := by
  unfold kindS at hH
  unfold stepS
  split
  · obtain ⟨h1, h2⟩ := stepG_local (P := P) (Γ := Γ) (ops := ops) (o := o) (S := ⟨S.T, snH sn⟩) (S' := ⟨S'.T, snH sn⟩) hT (.inl rfl)
    exact ⟨h1, fun h => ⟨(h2 h).1, fun e => e⟩⟩
  · rename_i h
    rw [if_neg h] at hH
    split
    · rename_i h2; rw [if_pos h2] at hH; exact stepF_local h2 hT (hH.resolve_right (by omega))
    · rename_i h2; rw [if_neg h2] at hH; exact stepG_local hT hH
theorem stepS_real {ops : Array Oper} {o : Oper} {S : St} (ha : AGL sn S.H) (hp : ∀ ch, (stepS P Γ ch sn ops o S).1) : ∃ dr, ∀ ch, (stepG P Γ ch dr ops o S).1 ∧ (stepG P Γ ch dr ops o S).2 = (stepS P Γ ch sn ops o S).2 := by
  unfold stepS at hp ⊢
  by_cases hl : isLoad o.op = true
  · refine ⟨true, fun ch => ?_⟩
    replace hp := hp ch
    rw [if_pos hl]
    rw [if_pos hl] at hp
    have hag := AGL_spec ha
    revert hp
    unfold stepG
    cases guardD ops o S.T with
    | none => intro hp; exact hp.elim
    | some b =>
      cases b with
      | false => intro _; exact ⟨trivial, rfl⟩
      | true =>
        dsimp only
        simp only [step]
        generalize hvs : (taken S.T o.op) = tv
        obtain ⟨vs, T'⟩ := tv
        dsimp only
        have key : ∀ t, (opLoad P t vs (snH sn)).pre → (opLoad P t vs S.H) = ⟨(opLoad P t vs S.H).pre, (opLoad P t vs (snH sn)).val, S.H, (opLoad P t vs (snH sn)).back⟩ ∧ (opLoad P t vs S.H).pre := by
          intro t
          unfold opLoad
          split
          · split
            · rename_i b i
              cases hc : snH sn b with
              | none => intro h; exact h.elim
              | some cs =>
                rw [hag b cs hc]
                dsimp only
                split <;> exact fun h => ⟨rfl, h⟩
            · split <;> exact fun h => ⟨rfl, h⟩
            · intro h; exact h.elim
          · intro h; exact h.elim
        cases ho : o.op with
        | load t x =>
          have e : ∀ H, opF P Γ ch true o vs H = opLoad P t vs H := fun H => by unfold opF; simp only [ho, opLoadT]
          rw [e, e]
          rintro ⟨h1, h2⟩
          obtain ⟨k1, k2⟩ := key t h1
          rw [k1]
          exact ⟨⟨k2, h2⟩, rfl⟩
        | _ => rw [ho] at hl; simp [isLoad] at hl
  · simp only [if_neg hl] at hp ⊢
    by_cases h2 : isApp o.op = true
    · simp only [if_pos h2] at hp ⊢; exact ⟨false, fun ch => ⟨hp ch, rfl⟩⟩
    · simp only [if_neg h2] at hp ⊢; exact ⟨true, fun ch => ⟨hp ch, rfl⟩⟩

/-! ### Two operations change places -/
def disjS (Γ : FuncId → Con) (ops : Array Oper) (sh : List Nat) (x y : Oper) : Bool :=
  (match x.dst with
   | some d => !(readsOf ops y).contains d && !decide (y.dst = some d)
   | none => true) &&
  (match y.dst with
   | some d => !(readsOf ops x).contains d
   | none => true) &&
  (slotsOf x).all (fun t => !(slotsOf y).contains t || sh.contains t) &&
  !(kindS Γ x == 2 && kindS Γ y != 0) && !(kindS Γ y == 2 && kindS Γ x != 0) &&
  (guardSlot ops y).toList.all (fun t => !(slotsOf x).contains t || sh.contains t) && (guardSlot ops x).toList.all (fun t => !(slotsOf y).contains t || sh.contains t)
structure ApartS (Γ : FuncId → Con) (ops : Array Oper) (sh : List Nat) (x y : Oper) : Prop where
  xy : ∀ t, x.dst = some t → t ∉ readsOf ops y ∧ y.dst ≠ some t
  yx : ∀ t, y.dst = some t → t ∉ readsOf ops x
  shr : ∀ t, t ∈ slotsOf x → t ∈ slotsOf y → t ∈ sh
  k1 : kindS Γ x = 2 → kindS Γ y = 0
  k2 : kindS Γ y = 2 → kindS Γ x = 0
  gy : ∀ t, guardSlot ops y = some t → t ∈ slotsOf x → t ∈ sh
  gx : ∀ t, guardSlot ops x = some t → t ∈ slotsOf y → t ∈ sh
theorem apartS_of {ops : Array Oper} {sh : List Nat} {x y : Oper} (h : disjS Γ ops sh x y = true) : ApartS Γ ops sh x y := by
  unfold disjS at h
  simp only [Bool.and_eq_true] at h
  obtain ⟨⟨⟨⟨⟨⟨h1, h2⟩, h3⟩, h4⟩, h5⟩, h8⟩, h9⟩ := h
  refine ⟨fun t ht => ?_, fun t ht => ?_, fun t h6 h7 => ?_, fun h6 => ?_, fun h6 => ?_, fun t h6 h7 => ?_, fun t h6 h7 => ?_⟩
  · rw [ht] at h1; simpa using h1
  · rw [ht] at h2; simpa using h2
  · rw [List.all_eq_true] at h3
    have := h3 t h6
    simpa [h7] using this
  · simpa [h6] using h4
  · simpa [h6] using h5
  · rw [h6] at h8; simpa [h7] using h8
  · rw [h6] at h9; simpa [h7] using h9
/-- What one reads, the other leaves. -/
theorem ApartS.reads {ops : Array Oper} {sh : List Nat} {x y : Oper} (h : ApartS Γ ops sh x y) {S : St} (hs : NS sh S) : ∀ t ∈ readsOf ops y, (stepS P Γ cx sn ops x S).2.T t = S.T t := by
  intro t ht
  refine stepS_frame (fun e => (h.xy t e).1 ht) ?_
  by_cases hx : t ∈ slotsOf x
  · right
    unfold readsOf at ht
    rcases List.mem_append.1 ht with ht | ht
    · exact hs t (h.shr t hx ht)
    · exact hs t (h.gy t (by simpa using ht) hx)
  · exact .inl hx
theorem ApartS.symm {ops : Array Oper} {sh : List Nat} {x y : Oper} (h : ApartS Γ ops sh x y) : ApartS Γ ops sh y x :=
  ⟨fun t ht => ⟨h.yx t ht, fun e => (h.xy t e).2 ht⟩, fun t ht => (h.xy t ht).1, fun t h1 h2 => h.shr t h2 h1, h.k2, h.k1, h.gx, h.gy⟩
theorem ApartS.swap {ops : Array Oper} {sh : List Nat} {x y : Oper} (h : ApartS Γ ops sh x y) {S : St} (hs : NS sh S)
    (px : (stepS P Γ cx sn ops x S).1) (py : (stepS P Γ cy sn ops y (stepS P Γ cx sn ops x S).2).1) :
    (stepS P Γ cy sn ops y S).1 ∧ (stepS P Γ cx sn ops x (stepS P Γ cy sn ops y S).2).1 ∧ (stepS P Γ cx sn ops x (stepS P Γ cy sn ops y S).2).2 = (stepS P Γ cy sn ops y (stepS P Γ cx sn ops x S).2).2 ∧
      (stepS P Γ cy sn ops y S).2.T = (fun t => if t ∈ slotsOf y ∨ y.dst = some t then (stepS P Γ cy sn ops y (stepS P Γ cx sn ops x S).2).2.T t else S.T t) ∧ (kindS Γ y = 2 → (stepS P Γ cy sn ops y (stepS P Γ cx sn ops x S).2).2.H = (stepS P Γ cy sn ops y S).2.H) := by
  have hry := h.reads (P := P) (cx := cx) (sn := sn) hs
  have hrx := h.symm.reads (P := P) (cx := cy) (sn := sn) hs
  have kx := kindS_le (Γ := Γ) x
  have ky := kindS_le (Γ := Γ) y
  -- y, before and behind x
  have hHy : (stepS P Γ cx sn ops x S).2.H = S.H ∨ kindS Γ y = 0 := by
    by_cases e : kindS Γ x = 2
    · exact .inr (h.k1 e)
    · exact .inl (stepS_H (by omega))
  obtain ⟨ly1, ly2⟩ := stepS_local (P := P) (ch := cy) (sn := sn) (S := (stepS P Γ cx sn ops x S).2) (S' := S) hry hHy
  have py' : (stepS P Γ cy sn ops y S).1 := by rw [← ly1]; exact py
  obtain ⟨ly3, ly4⟩ := ly2 py
  have hHx : (stepS P Γ cy sn ops y S).2.H = S.H ∨ kindS Γ x = 0 := by
    by_cases e : kindS Γ y = 2
    · exact .inr (h.k2 e)
    · exact .inl (stepS_H (by omega))
  obtain ⟨lx1, lx2⟩ := stepS_local (P := P) (ch := cx) (sn := sn) (S := (stepS P Γ cy sn ops y S).2) (S' := S) hrx hHx
  have px' : (stepS P Γ cx sn ops x (stepS P Γ cy sn ops y S).2).1 := by rw [lx1]; exact px
  obtain ⟨lx3, lx4⟩ := lx2 px'
  -- slots
  have fx : ∀ (S : St) t, ¬ (t ∈ slotsOf x ∨ x.dst = some t) → (stepS P Γ cx sn ops x S).2.T t = S.T t := fun S t ht => stepS_frame (fun e => ht (.inr e)) (.inl fun e => ht (.inl e))
  have fy : ∀ (S : St) t, ¬ (t ∈ slotsOf y ∨ y.dst = some t) → (stepS P Γ cy sn ops y S).2.T t = S.T t := fun S t ht => stepS_frame (fun e => ht (.inr e)) (.inl fun e => ht (.inl e))
  have both : ∀ t, (t ∈ slotsOf x ∨ x.dst = some t) → (t ∈ slotsOf y ∨ y.dst = some t) → t ∈ slotsOf x ∧ t ∈ slotsOf y ∧ x.dst ≠ some t ∧ y.dst ≠ some t ∧ owns (S.T t) = false := by
    intro t h1 h2
    have n1 : x.dst ≠ some t := fun e => by
      have := h.xy t e
      rcases h2 with h2 | h2
      · exact this.1 (by simp [readsOf, h2])
      · exact this.2 h2
    have h1 := h1.resolve_right n1
    have n2 : y.dst ≠ some t := fun e => h.yx t e (by simp [readsOf, h1])
    have h2 := h2.resolve_right n2
    exact ⟨h1, h2, n1, n2, hs t (h.shr t h1 h2)⟩
  have eqT : ∀ t, (stepS P Γ cx sn ops x (stepS P Γ cy sn ops y S).2).2.T t = (stepS P Γ cy sn ops y (stepS P Γ cx sn ops x S).2).2.T t := by
    intro t
    by_cases h1 : t ∈ slotsOf x ∨ x.dst = some t <;> by_cases h2 : t ∈ slotsOf y ∨ y.dst = some t
    · obtain ⟨a1, a2, a3, a4, a5⟩ := both t h1 h2
      have e1 : (stepS P Γ cx sn ops x S).2.T t = S.T t := stepS_frame a3 (.inr a5)
      have e2 : (stepS P Γ cy sn ops y S).2.T t = S.T t := stepS_frame a4 (.inr a5)
      have e3 := stepS_frame (P := P) (Γ := Γ) (ch := cx) (sn := sn) (ops := ops) (S := (stepS P Γ cy sn ops y S).2) a3 (.inr (by rw [e2]; exact a5))
      have e4 := stepS_frame (P := P) (Γ := Γ) (ch := cy) (sn := sn) (ops := ops) (S := (stepS P Γ cx sn ops x S).2) a4 (.inr (by rw [e1]; exact a5))
      rw [e3, e4, e1, e2]
    · rw [lx3 t h1, fy _ t h2]
    · rw [fx _ t h1, ly3 t h2]
    · rw [fx _ t h1, fy _ t h2, fy _ t h2, fx _ t h1]
  have eqH : (stepS P Γ cx sn ops x (stepS P Γ cy sn ops y S).2).2.H = (stepS P Γ cy sn ops y (stepS P Γ cx sn ops x S).2).2.H := by
    by_cases e1 : kindS Γ x = 2
    · have k0 := h.k1 e1
      rw [stepS_H (P := P) (ch := cy) (sn := sn) (o := y) (S := (stepS P Γ cx sn ops x S).2) (by omega)]
      exact lx4 (stepS_H (by omega))
    · rw [stepS_H (P := P) (ch := cx) (sn := sn) (o := x) (S := (stepS P Γ cy sn ops y S).2) (by omega)]
      exact (ly4 (stepS_H (by omega))).symm
  refine ⟨py', px', ?_, ?_, fun e => ly4 (stepS_H (by have := h.k2 e; omega))⟩
  · cases hA : (stepS P Γ cx sn ops x (stepS P Γ cy sn ops y S).2).2 with
    | mk T1 H1 =>
      cases hB : (stepS P Γ cy sn ops y (stepS P Γ cx sn ops x S).2).2 with
      | mk T2 H2 =>
        rw [hA, hB] at eqH eqT
        dsimp only at eqH eqT
        rw [eqH, funext eqT]
  · funext t
    split
    · rename_i ht; exact (ly3 t ht).symm
    · rename_i ht; exact fy _ t ht

/-! ### A whole region -/
variable (P Γ) in
def WS (sn : List (Nat × List D)) (sh : List Nat) (ops : Array Oper) : List Nat → St → (St → Prop) → Prop
  | [], S, K => K S
  | i :: L, S, K => match ops[i]? with
    | none => WS sn sh ops L S K
    | some o => ∀ ch, (stepS P Γ ch sn ops o S).1 ∧ (∀ t, o.dst = some t → t ∈ sh → i + 1 ≠ ops.size → owns ((stepS P Γ ch sn ops o S).2.T t) = false) ∧ (kindS Γ o = 2 → i + 1 ≠ ops.size → AGL sn (stepS P Γ ch sn ops o S).2.H) ∧ WS sn sh ops L (stepS P Γ ch sn ops o S).2 K
variable (P Γ) in
/-- A region whose order is drawn, in the text's order, parted in two at the Bools of the slots 'srcs'; 'sh': the slots that more than one operation reads. -/
def VS (sn : List (Nat × List D)) (srcs sh : List Nat) (ops : Array Oper) : List Oper → St → (St → Prop) → Prop
  | [], S, K => K S
  | o :: L, S, K => ∀ ch, (stepS P Γ ch sn ops o S).1 ∧ (L ≠ [] → AGL sn (stepS P Γ ch sn ops o S).2.H) ∧
    match o.dst with
    | some t => (t ∈ sh → L ≠ [] → owns ((stepS P Γ ch sn ops o S).2.T t) = false) ∧ if t ∈ srcs then (match (stepS P Γ ch sn ops o S).2.T t with
        | .bool b => splitB b (VS sn srcs sh ops L ⟨upd (stepS P Γ ch sn ops o S).2.T t (.bool true), (stepS P Γ ch sn ops o S).2.H⟩ K) (VS sn srcs sh ops L ⟨upd (stepS P Γ ch sn ops o S).2.T t (.bool false), (stepS P Γ ch sn ops o S).2.H⟩ K)
        | _ => VS sn srcs sh ops L (stepS P Γ ch sn ops o S).2 K) else VS sn srcs sh ops L (stepS P Γ ch sn ops o S).2 K
    | none => VS sn srcs sh ops L (stepS P Γ ch sn ops o S).2 K
theorem VS_WS {srcs sh : List Nat} {ops : Array Oper} {K : St → Prop} : ∀ {k : Nat} {L : List Oper} {S : St}, (∀ j, L[j]? = ops[k + j]?) → VS P Γ sn srcs sh ops L S K → WS P Γ sn sh ops (List.range' k L.length) S K
  | k, [], S, hL, h => h
  | k, o :: L, S, hL, h => by
    have h0 : ops[k]? = some o := by have := hL 0; simpa using this.symm
    have hL' : ∀ j, L[j]? = ops[k + 1 + j]? := fun j => by
      have := hL (j + 1)
      rw [List.getElem?_cons_succ] at this
      rw [this]; congr 1; omega
    have hne : k + 1 ≠ ops.size → L ≠ [] := fun hk e => by
      subst e
      have h2 := hL' 0
      have h3 := (Array.getElem?_eq_some_iff.1 h0).1
      rw [Nat.add_zero] at h2
      have : ops.size ≤ k + 1 := by
        rcases Nat.lt_or_ge (k + 1) ops.size with h4 | h4
        · rw [Array.getElem?_eq_getElem h4] at h2; cases h2
        · exact h4
      omega
    simp only [List.length_cons, List.range'_succ, WS, h0]
    simp only [VS] at h
    intro ch
    obtain ⟨h1, h0', h⟩ := h ch
    refine ⟨h1, ?_⟩
    have hag : kindS Γ o = 2 → k + 1 ≠ ops.size → AGL sn (stepS P Γ ch sn ops o S).2.H := fun _ hk => h0' (hne hk)
    clear h0'
    revert hag
    generalize (stepS P Γ ch sn ops o S).2 = S' at h ⊢
    intro hag
    split at h
    · rename_i t hd
      obtain ⟨h2, h⟩ := h
      refine ⟨fun t' ht' hm hk => by rw [hd] at ht'; cases ht'; exact h2 hm (hne hk), hag, ?_⟩
      split at h
      · split at h
        · rename_i b hb
          obtain ⟨h3, h4⟩ := h
          cases b
          · have := h4 rfl
            rw [upd_self hb] at this
            exact VS_WS hL' this
          · have := h3 rfl
            rw [upd_self hb] at this
            exact VS_WS hL' this
        · exact VS_WS hL' h
      · exact VS_WS hL' h
    · rename_i hd
      exact ⟨fun t' ht' => by rw [hd] at ht'; (try cases ht'), hag, VS_WS hL' h⟩
theorem NS.stepS {sh : List Nat} {ops : Array Oper} {o : Oper} {S : St} (hs : NS sh S) (he : ∀ t, o.dst = some t → t ∈ sh → owns ((stepS P Γ ch sn ops o S).2.T t) = false) : NS sh (stepS P Γ ch sn ops o S).2 := fun t ht => by
  by_cases hd : o.dst = some t
  · exact he t hd ht
  · rw [stepS_frame hd (.inr (hs t ht))]; exact hs t ht
theorem WS_first {sh : List Nat} {ops : Array Oper} {K : St → Prop} {i : Nat} {y : Oper} (hi : ops[i]? = some y) {M2 : List Nat} : ∀ {M1 : List Nat} {S : St}, (∀ j ∈ M1, (∃ x, ops[j]? = some x ∧ ApartS Γ ops sh x y) ∧ j + 1 ≠ ops.size) → (M1 ≠ [] → NS sh S ∧ AGL sn S.H) → WS P Γ sn sh ops (M1 ++ i :: M2) S K → WS P Γ sn sh ops (i :: (M1 ++ M2)) S K
  | [], S, hM, hs, h => h
  | j :: M1, S, hM, hs, h => by
    obtain ⟨⟨x, hj, hap⟩, hjl⟩ := hM j (by simp)
    obtain ⟨hs, hag⟩ := hs (by simp)
    rw [List.cons_append, WS, hj] at h
    dsimp only at h
    have kx := kindS_le (Γ := Γ) x
    have ky := kindS_le (Γ := Γ) y
    have both : ∀ cx cy, (stepS P Γ cx sn ops x S).1 ∧ (∀ t, x.dst = some t → t ∈ sh → j + 1 ≠ ops.size → owns ((stepS P Γ cx sn ops x S).2.T t) = false) ∧ AGL sn (stepS P Γ cx sn ops x S).2.H ∧
        (stepS P Γ cy sn ops y (stepS P Γ cx sn ops x S).2).1 ∧ (∀ t, y.dst = some t → t ∈ sh → i + 1 ≠ ops.size → owns ((stepS P Γ cy sn ops y (stepS P Γ cx sn ops x S).2).2.T t) = false) ∧ (kindS Γ y = 2 → i + 1 ≠ ops.size → AGL sn (stepS P Γ cy sn ops y (stepS P Γ cx sn ops x S).2).2.H) ∧ WS P Γ sn sh ops (M1 ++ M2) (stepS P Γ cy sn ops y (stepS P Γ cx sn ops x S).2).2 K := by
      intro cx cy
      obtain ⟨p1, e1, a1, h⟩ := h cx
      have hag1 : AGL sn (stepS P Γ cx sn ops x S).2.H := by
        by_cases e : kindS Γ x = 2
        · exact a1 e hjl
        · rw [stepS_H (by omega)]; exact hag
      have ih := WS_first hi (fun k hk => hM k (by simp [hk])) (fun _ => ⟨hs.stepS fun t ht hm => e1 t ht hm hjl, hag1⟩) h
      rw [WS, hi] at ih
      dsimp only at ih
      obtain ⟨p2, e2, a2, ih⟩ := ih cy
      exact ⟨p1, e1, hag1, p2, e2, a2, ih⟩
    clear h
    rw [WS, hi]
    dsimp only
    intro cy
    refine ⟨?_, fun t ht hm hl => ?_, fun e hl => ?_, ?_⟩
    · obtain ⟨p1, e1, hag1, p2, e2, a2, ih⟩ := both ⟨Unit, ()⟩ cy
      exact (hap.swap hs p1 p2).1
    · obtain ⟨p1, e1, hag1, p2, e2, a2, ih⟩ := both ⟨Unit, ()⟩ cy
      rw [(hap.swap hs p1 p2).2.2.2.1]
      simp only [ht, or_true, if_true]
      exact e2 t ht hm hl
    · obtain ⟨p1, e1, hag1, p2, e2, a2, ih⟩ := both ⟨Unit, ()⟩ cy
      rw [← (hap.swap hs p1 p2).2.2.2.2 e]; exact a2 e hl
    · rw [List.cons_append, WS, hj]
      dsimp only
      intro cx
      obtain ⟨p1, e1, hag1, p2, e2, a2, ih⟩ := both cx cy
      obtain ⟨q1, q2, q3, q4, q5⟩ := hap.swap hs p1 p2
      rw [q3]
      refine ⟨q2, fun t ht hm hl => ?_, fun e hl => ?_, ih⟩
      · have := hap.xy t ht
        rw [stepS_frame this.2 (.inl fun hx => this.1 (by simp [readsOf, hx]))]
        exact e1 t ht hm hl
      · rw [stepS_H (by have := hap.k1 e; omega)]
        exact hag1

def snapOk (Γ : FuncId → Con) (ops : Array Oper) (sh : List Nat) : Bool :=
  let b := befGo ops.toList []
  (ops.toList.zipIdx.all fun (o, i) => (o.after.toList.filter (Region.binds .any)).all fun e => decide (e.on < i)) &&
  (ops.toList.zipIdx.all fun (y, i) => ops.toList.zipIdx.all fun (x, j) => !decide (j < i) || (b.getD i 0).testBit j || disjS Γ ops sh x y) &&
  (ops.toList.zipIdx.all fun (y, i) => !decide (i + 1 = ops.size) || (!(y.dst.any fun t => sh.contains t) && !(kindS Γ y == 2)) || (List.range i).all fun j => (b.getD i 0).testBit j)
section
variable {B : Base} {n : Nat}
theorem WS_any (hΓ : ∀ f, ConOk P f (Γ f)) {ops : Array Oper} {sh : List Nat} (hd : dstsOk n ops = true) (hok : snapOk Γ ops sh = true) {Q : Exit → St → Prop} : ∀ (fuel : Nat) (listed : Array Bool) (S : St) (a : Act) (w : World) (μ : Nat → Nat) (fp : Root → List Nat) (N : Nat),
    ((List.range ops.size).filter fun k => !listed.getD k true).length ≤ fuel → listed.size = ops.size → (∀ k o, ops[k]? = some o → listed.getD k true = true → ∀ e ∈ o.after.toList, Region.binds .any e = true → listed.getD e.on false = true) → (((List.range ops.size).filter fun k => !listed.getD k true) ≠ [] → NS sh S ∧ AGL sn S.H) → R B n S [] [] a w μ fp N →
    WS P Γ sn sh ops ((List.range ops.size).filter fun k => !listed.getD k true) S (Q .normal) → wpAny P .any ops (lift B n Q) fuel listed a w
  | fuel, listed, S, a, w, μ, fp, N, hf, hsz, hcl, hs, hR, hw => by
    have hback : ∀ i y, ops[i]? = some y → ∀ e ∈ y.after.toList, Region.binds .any e = true → e.on < i := by
      intro i y hi e he hb
      unfold snapOk at hok
      simp only [Bool.and_eq_true] at hok
      have h1 := hok.1.1
      rw [List.all_eq_true] at h1
      have h2 := h1 (y, i) (by rw [List.mem_zipIdx_iff_getElem?]; simpa using hi)
      rw [List.all_eq_true] at h2
      have := h2 e (by rw [List.mem_filter]; exact ⟨he, hb⟩)
      simpa using this
    -- where all that are left wait, none are left
    have hnone : Region.ready .any ops listed = [] → ((List.range ops.size).filter fun k => !listed.getD k true) = [] := by
      intro hr
      cases hM : (List.range ops.size).filter fun k => !listed.getD k true with
      | nil => rfl
      | cons i M =>
        exfalso
        have hmem : i ∈ (List.range ops.size).filter fun k => !listed.getD k true := by rw [hM]; simp
        rw [List.mem_filter, List.mem_range] at hmem
        have hsorted : ((List.range ops.size).filter fun k => !listed.getD k true).Pairwise (· < ·) := List.Pairwise.filter _ List.pairwise_lt_range
        have : i ∈ Region.ready .any ops listed := by
          rw [mem_ready]
          refine ⟨by simpa using hmem.2, ops[i], Array.getElem?_eq_getElem hmem.1, fun e he hb => ?_⟩
          have hlt := hback i _ (Array.getElem?_eq_getElem hmem.1) e (by simpa using he) hb
          have hlt' : e.on < listed.size := by omega
          cases hle : listed.getD e.on true with
          | true => rwa [Array.getD_eq_getD_getElem?, Array.getElem?_eq_getElem hlt', Option.getD_some] at hle ⊢
          | false =>
            have hin : e.on ∈ (List.range ops.size).filter fun k => !listed.getD k true := by
              rw [List.mem_filter, List.mem_range]; exact ⟨by omega, by simp [hle]⟩
            rw [hM] at hin hsorted
            rcases List.mem_cons.1 hin with h | h
            · omega
            · have := (List.pairwise_cons.1 hsorted).1 _ h; omega
        rw [hr] at this
        cases this
    have hfin : Region.ready .any ops listed = [] → lift B n Q .normal a w := fun hr => by
      rw [hnone hr] at hw
      exact ⟨S, μ, fp, N, hR, hw⟩
    cases fuel with
    | zero =>
      have h0 : ((List.range ops.size).filter fun k => !listed.getD k true) = [] := List.eq_nil_of_length_eq_zero (by omega)
      have hr : Region.ready .any ops listed = [] := by
        refine List.eq_nil_iff_forall_not_mem.2 fun i hi => ?_
        obtain ⟨h1, o, h2, _⟩ := mem_ready.1 hi
        have : i ∈ (List.range ops.size).filter fun k => !listed.getD k true := by
          rw [List.mem_filter, List.mem_range]; exact ⟨(Array.getElem?_eq_some_iff.1 h2).1, by simp [h1]⟩
        rw [h0] at this; cases this
      exact ⟨hr, hfin hr⟩
    | succ fuel =>
      refine ⟨hfin, fun i hi => ?_⟩
      obtain ⟨h1, y, h2, h3⟩ := mem_ready.1 hi
      have hlt := (Array.getElem?_eq_some_iff.1 h2).1
      have hmem : i ∈ (List.range ops.size).filter fun k => !listed.getD k true := by
        rw [List.mem_filter, List.mem_range]; exact ⟨hlt, by simp [h1]⟩
      have hnodup : ((List.range ops.size).filter fun k => !listed.getD k true).Nodup := List.Pairwise.filter _ List.nodup_range
      have hsorted : ((List.range ops.size).filter fun k => !listed.getD k true).Pairwise (· < ·) := List.Pairwise.filter _ List.pairwise_lt_range
      obtain ⟨M1, M2, hM⟩ := List.append_of_mem hmem
      have hbit : ∀ j, j < ops.size → (!listed.getD j true) = true → ((befGo ops.toList []).getD i 0).testBit j = true → False := by
        intro j hjs hjl q3
        have := befGo_bit (ops := ops) (fun k => listed.getD k false = true) (fun k o ho hk => hcl k o ho (by
            have hk' : k < listed.size := by rw [hsz]; exact (Array.getElem?_eq_some_iff.1 ho).1
            rw [Array.getD_eq_getD_getElem?, Array.getElem?_eq_getElem hk', Option.getD_some] at hk ⊢
            exact hk)) ops.toList [] (by simp) (by simp) i y h2 (fun e he hb => h3 e (by simpa using he) hb) j q3
        have hj' : j < listed.size := by omega
        rw [Array.getD_eq_getD_getElem?, Array.getElem?_eq_getElem hj', Option.getD_some] at this
        rw [Array.getD_eq_getD_getElem?, Array.getElem?_eq_getElem hj', Option.getD_some, this] at hjl
        simp at hjl
      have hfirst : WS P Γ sn sh ops (i :: (M1 ++ M2)) S (Q .normal) := by
        refine WS_first h2 (fun j hj => ?_) (fun _ => hs (by rw [hM]; simp)) (hM ▸ hw)
        have hjm : j ∈ (List.range ops.size).filter fun k => !listed.getD k true := by rw [hM]; simp [hj]
        rw [List.mem_filter, List.mem_range] at hjm
        have hji : j < i := by
          rw [hM] at hsorted
          exact (List.pairwise_append.1 hsorted).2.2 j hj i (by simp)
        refine ⟨⟨ops[j], Array.getElem?_eq_getElem hjm.1, ?_⟩, by omega⟩
        have hok' := hok
        unfold snapOk at hok'
        simp only [Bool.and_eq_true] at hok'
        have q1 := hok'.1.2
        rw [List.all_eq_true] at q1
        have q2 := q1 (y, i) (by rw [List.mem_zipIdx_iff_getElem?]; simpa using h2)
        rw [List.all_eq_true] at q2
        have q3 := q2 (ops[j], j) (by rw [List.mem_zipIdx_iff_getElem?]; simp [hjm.1])
        simp only [hji, decide_true, Bool.not_true, Bool.false_or, Bool.or_eq_true] at q3
        rcases q3 with q3 | q3
        · exact (hbit j hjm.1 hjm.2 q3).elim
        · exact apartS_of q3
      rw [WS, h2] at hfirst
      dsimp only at hfirst
      have hM' : ((List.range ops.size).filter fun k => !(listed.setIfInBounds i true).getD k true) = M1 ++ M2 := by
        have e2 : ((List.range ops.size).filter fun k => !(listed.setIfInBounds i true).getD k true) = ((List.range ops.size).filter fun k => !listed.getD k true).filter fun k => decide (k ≠ i) := by
          rw [List.filter_filter]
          apply List.filter_congr
          intro k _
          by_cases e : k = i
          · subst e
            have : (listed.setIfInBounds k true).getD k true = true := by
              rw [Array.getD_eq_getD_getElem?, Array.getElem?_setIfInBounds]
              simp only [if_true]
              split <;> rfl
            simp [this]
          · rw [getD_set_ne true (fun h => e h.symm)]
            simp [e]
        rw [e2, hM]
        have hn := hM ▸ hnodup
        rw [List.nodup_append] at hn
        have hn2 := List.nodup_cons.1 hn.2.1
        rw [List.filter_append, List.filter_cons]
        simp only [ne_eq, not_true_eq_false, decide_false, Bool.false_eq_true, if_false]
        rw [List.filter_eq_self.2, List.filter_eq_self.2]
        · intro k hk; simp; rintro rfl; exact hn2.1 hk
        · intro k hk; simp; rintro rfl; exact hn.2.2 k hk k (by simp) rfl
      have hns : ((List.range ops.size).filter fun k => !(listed.setIfInBounds i true).getD k true) ≠ [] → ∀ cy, NS sh (stepS P Γ cy sn ops y S).2 ∧ AGL sn (stepS P Γ cy sn ops y S).2.H := by
        intro hrest cy
        have e1 := (hfirst cy).2.1
        have a1 := (hfirst cy).2.2.1
        rw [hM'] at hrest
        obtain ⟨hs, hag⟩ := hs (by rw [hM]; simp)
        by_cases hl : i + 1 = ops.size
        · have hM2 : M2 = [] := by
            cases M2 with
            | nil => rfl
            | cons k M2 =>
              exfalso
              have hk : k ∈ (List.range ops.size).filter fun k => !listed.getD k true := by rw [hM]; simp
              rw [List.mem_filter, List.mem_range] at hk
              rw [hM] at hsorted
              have := (List.pairwise_cons.1 (List.pairwise_append.1 hsorted).2.1).1 k (by simp)
              omega
          subst hM2
          have hok' := hok
          unfold snapOk at hok'
          simp only [Bool.and_eq_true] at hok'
          have q1 := hok'.2
          rw [List.all_eq_true] at q1
          have q2 := q1 (y, i) (by rw [List.mem_zipIdx_iff_getElem?]; simpa using h2)
          simp only [hl, decide_true, Bool.not_true, Bool.false_or, Bool.or_eq_true] at q2
          rcases q2 with q2 | q2
          · rw [Bool.and_eq_true] at q2
            refine ⟨hs.stepS fun t ht hm => ?_, ?_⟩
            · rw [ht] at q2
              simp at q2
              exact (q2.1 hm).elim
            · have ky := kindS_le (Γ := Γ) y
              have : kindS Γ y ≠ 2 := by simpa using q2.2
              rw [stepS_H (by omega)]; exact hag
          · exfalso
            cases M1 with
            | nil => exact hrest rfl
            | cons j M1 =>
              have hjm : j ∈ (List.range ops.size).filter fun k => !listed.getD k true := by rw [hM]; simp
              rw [List.mem_filter, List.mem_range] at hjm
              rw [List.all_eq_true] at q2
              have hji : j < i := by
                rw [hM] at hsorted
                exact (List.pairwise_append.1 hsorted).2.2 j (by simp) i (by simp)
              exact hbit j hjm.1 hjm.2 (q2 j (by rw [List.mem_range]; exact hji))
        · refine ⟨hs.stepS fun t ht hm => e1 t ht hm hl, ?_⟩
          by_cases e : kindS Γ y = 2
          · exact a1 e hl
          · have ky := kindS_le (Γ := Γ) y
            rw [stepS_H (by omega)]; exact hag
      obtain ⟨dr, hreal⟩ := stepS_real (hs (by rw [hM]; simp)).2 (fun ch => (hfirst ch).1)
      refine wpOp_stepG hΓ h2 hR (hreal ⟨Unit, ()⟩).1 (dstsOk_spec hd) fun ch a' w' μ' fp' N' hR' => ?_
      rw [(hreal ch).2] at hR'
      refine WS_any hΓ hd hok fuel _ _ a' w' μ' fp' N' ?_ (by simp [hsz]) (fun k o ho hk e he hb => ?_) (fun hrest => hns hrest ch) hR' (by rw [hM']; exact (hfirst ch).2.2.2)
      · rw [hM']
        have : ((List.range ops.size).filter fun k => !listed.getD k true).length = (M1 ++ M2).length + 1 := by rw [hM]; simp; omega
        omega
      · by_cases e' : k = i
        · subst e'
          rw [h2] at ho
          cases ho
          exact getD_set_true (h3 e (by simpa using he) hb)
        · rw [getD_set_ne true (fun h => e' h.symm)] at hk
          exact getD_set_true (hcl k o ho hk e he hb)
theorem AW_region_snap (hΓ : ∀ f, ConOk P f (Γ f)) (hm : P.follows .mixedOrders = true) {id : Nat} {ops : Array Oper} {Q : Exit → St → Prop} {S : St} (sn : List (Nat × List D)) (srcs sh : List Nat) (hd : dstsOk n ops = true) (hok : snapOk Γ ops sh = true) (hs : NS sh S) (hag : AGL sn S.H)
    (h : VS P Γ sn srcs sh ops ops.toList S (Q .normal)) : AW P B n (.region id ops true) Q S := fun a w μ fp N hR => by
  refine wp_region_any hm ?_
  have hall : ((List.range ops.size).filter fun k => !(Array.replicate ops.size false).getD k true) = List.range ops.size := by
    rw [List.filter_eq_self]
    intro k hk
    rw [List.mem_range] at hk
    rw [Array.getD_eq_getD_getElem?, Array.getElem?_replicate, if_pos hk]
    rfl
  have hw : WS P Γ sn sh ops (List.range ops.size) S (Q .normal) := by
    have := VS_WS (k := 0) (by simp) h
    rw [List.range_eq_range']
    simpa using this
  refine WS_any hΓ hd hok _ _ S a _ μ fp N (by rw [hall]; simp) (by simp) (fun k o ho hk => ?_) (fun _ => ⟨hs, hag⟩) (hR.drewN _) (by rw [hall]; exact hw)
  have := (Array.getElem?_eq_some_iff.1 ho).1
  rw [Array.getD_eq_getD_getElem?, Array.getElem?_replicate, if_pos this] at hk
  cases hk
/-- Memory of which only this is known. -/
theorem AW_gen {c : Code} {Q : Exit → St → Prop} {S : St} (p : Hp → Prop) (h0 : p S.H) (h : ∀ H1, p H1 → AW P B n c Q ⟨S.T, H1⟩) : AW P B n c Q S := h S.H h0
end
end
end Go.Proofs.Ytljncoikoffijaa.Vm

