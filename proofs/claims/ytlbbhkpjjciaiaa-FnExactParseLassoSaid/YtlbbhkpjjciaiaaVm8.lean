/-
  One operation of a region, and a region walked in the text's order, at abstract states. No conditions; nothing of the program is named here.
-/
import Derived.Test.YtlbbhkpjjciaiaaVm7
namespace Go.Proofs.Ytlbbhkpjjciaiaa.Vm
open Go
set_option linter.unusedVariables false
set_option linter.unusedSimpArgs false
set_option linter.unusedSectionVars false

section
variable (P : Program) (Γ : FuncId → Con)
def opLenT (t : Nat) (vs : List D) (H : Hp) : Res :=
  match P.underlying t with
  | some .string => match vs with
    | [.str s] => opLen [.str s] H
    | _ => bad H
  | some (.slice _) => match vs with
    | [.str _] => bad H
    | vs => opLen vs H
  | _ => bad H
def opIndexT (t : Nat) (vs : List D) (H : Hp) : Res :=
  match P.underlying t with
  | some .string => opIndex vs H
  | _ => bad H
/-- Whether an append may take a named block with it ('dr': no, in a region whose order is drawn). -/
def opAppendT (dr : Bool) (t tx : Nat) (vs : List D) (H : Hp) : Res :=
  match dr, vs with
  | true, .sl .. :: _ => bad H
  | false, [.nil, .int _ n] => opAppZ P t tx n H
  | _, vs => opAppend P t tx vs H
/-- Elements of one cell copied into a named block. -/
def opCopy (t tx : Nat) (vs : List D) (H : Hp) : Res :=
  match τ P t, vs with
  | some ⟨_, _, _, _, .slice e⟩, [.sl b _ o n _, s] =>
    match τ P e, H b, srcD H 1 s with
    | some te, some cs, some (k, ys) => ⟨te.size = 1 ∧ (∃ e', P.underlying tx = some (.slice e')) ∧ owns s = false ∧ isStr s = false ∧ ys.length = k ∧ ownsL ys = false ∧ o + min k n ≤ cs.length,
        .int .i64 (min k n : Nat), upd H b (some (stSeg cs o (ys.take (min k n)))), none⟩
    | _, _, _ => bad H
  | _, _ => bad H
def opCallT (dr : Bool) (c : Call) (vs : List D) (H : Hp) : Res :=
  match c.callee, c.args.toList, c.argTypes.toList with
  | .builtin .len, [_], [t] => opLenT P t vs H
  | .builtin .append, [_, _], [t, tx] => opAppendT P dr t tx vs H
  | .builtin .cap, [_], [t] => opCapT P t vs H
  | .builtin .copy, [_, _], [t, tx] => opCopy P t tx vs H
  | .value _, _, _ => opCall Γ vs H
  | _, _, _ => bad H
def opLoadT (dr : Bool) (t : Nat) (vs : List D) (H : Hp) : Res :=
  match dr with
  | true => opLoad P t vs H
  | false => opLoadM P t vs H
def opF (dr : Bool) (o : Oper) (vs : List D) (H : Hp) : Res :=
  match o.op with
  | .move _ => match vs with
    | [d] => ⟨True, d, H, none⟩
    | _ => bad H
  | .assign _ => match vs with
    | [d] => ⟨True, d, H, none⟩
    | _ => bad H
  | .pick _ _ _ => match vs with
    | [.bool b, d, e] => ⟨True, pickD b d e, H, none⟩
    | _ => bad H
  | .alloc t => opAlloc P t vs H
  | .box _ _ => opBox vs H
  | .build t parts => opBuild P t (parts.toList.map (·.1)) vs H
  | .buildSlice t len parts => opBuildSlice P t len (parts.toList.map (·.1)) vs H
  | .load t _ => opLoadT P dr t vs H
  | .store t _ _ => opStore P t vs H
  | .nilCheck _ => opNil vs H
  | .binOp op t _ y _ => opBin P op t y vs H
  | .unOp op _ _ => opUn op vs H
  | .convert s t _ => opConvert P s t vs H
  | .makeFunc fn first _ => opMakeFunc fn first vs H
  | .makeSlice t _ _ => opMakeSlice P t vs H
  | .slice t _ lo hi mx => opSlice P t lo hi mx vs H
  | .fieldAddr s _ f => opFieldAddr P s f vs H
  | .field s _ f => opField P s f vs H
  | .indexAddr t _ _ => opIndexAddr P t vs H
  | .index t _ _ => opIndexT P t vs H
  | .extract _ i => opExtract i vs H
  | .call c => opCallT P Γ dr c vs H
  | _ => bad H
variable {P Γ}
theorem arr1 {α : Type} {a : Array α} {x : α} (h : a.toList = [x]) : a = #[x] := by apply Array.ext'; simpa using h
theorem arr2 {α : Type} {a : Array α} {x y : α} (h : a.toList = [x, y]) : a = #[x, y] := by apply Array.ext'; simpa using h
theorem sound_lenT {o : Oper} {vals : List D} {H : Hp} (x : Operand) (t : TypeId) (ho : o.op = .call { callee := .builtin .len, args := #[x], argTypes := #[t] }) : Sound P o vals H (opLenT P t vals H) := by
  unfold opLenT
  split
  · rename_i hu
    split
    · exact sound_len x t _ ho hu (.inl rfl) (fun _ => ⟨_, rfl⟩) (fun _ => rfl)
    · exact .bad P o _ H
  · rename_i e hu
    split
    · exact .bad P o _ H
    · rename_i hn
      exact sound_len x t _ ho hu (.inr ⟨e, rfl⟩) (fun h => by cases h) (fun ⟨s, h⟩ => (hn s h).elim)
  · exact .bad P o _ H
theorem cut_src {H : Hp} {s : D} {k : Nat} {ys : List D} (hs : srcD H 1 s = some (k, ys)) (ho : owns s = false) (hi : isStr s = false) (hl : ys.length = k) {m : Nat} (hm : m ≤ k) :
    ∃ s', srcD H 1 s' = some (m, ys.take m) ∧ owns s' = false ∧ isStr s' = false ∧ (∀ N, bnd N s → bnd N s') ∧ ∀ μ I w u, Rep μ I w s u [] → ∃ A c, u = .slice A k c ∧ Rep μ I w s' (.slice A m c) [] := by
  cases s <;> simp only [srcD] at hs <;> (try (cases hs; done)) <;> (try (simp [owns] at ho; done)) <;> (try (simp [isStr] at hi; done))
  · cases hs
    obtain rfl : m = 0 := by omega
    refine ⟨.nil, by simp [srcD], rfl, rfl, fun _ h => h, fun μ I w u h => ?_⟩
    simp only [Rep] at h
    obtain ⟨_, A, hv⟩ := h
    exact ⟨A, 0, hv, by simp only [Rep]; exact ⟨trivial, A, rfl⟩⟩
  · rename_i n cs
    cases hs
    refine ⟨.list m (ys.take m), rfl, rfl, rfl, fun N h => by simp only [bnd] at h ⊢; exact bndL_take h _, fun μ I w u h => ?_⟩
    simp only [Rep] at h
    obtain ⟨_, hmax, A, c, vs, hv, hmc, hA, hrep⟩ := h
    refine ⟨A, c, hv, ?_⟩
    simp only [Rep]
    refine ⟨trivial, by omega, A, c, vs.take m, rfl, by omega, ?_, hrep.take m⟩
    rcases hA with h | ⟨b, i, h1, h2, h3⟩
    · subst h; left; simp
    · exact .inr ⟨b, i, h1, h2, h3.take m⟩
  · rename_i b sz i n c
    split at hs
    · rename_i all hall
      cases hs
      refine ⟨.sl b sz i m c, ?_, rfl, rfl, fun N h => by simp only [bnd] at h ⊢; exact h, fun μ I w u h => ?_⟩
      · simp only [srcD, hall, Nat.mul_one, List.take_take]
        rw [Nat.min_eq_left hm]
      · simp only [Rep] at h
        obtain ⟨_, hmc, hmax, ⟨A, hA⟩, hv⟩ := h
        subst hA
        refine ⟨A, c, rfl, ?_⟩
        simp only [Rep]
        refine ⟨trivial, by omega, by omega, ⟨A, rfl⟩, ?_⟩
        rcases hv with h | h
        · exact .inl h
        · right; cases h; rfl
    · cases hs
theorem sound_copy {o : Oper} {vals : List D} {H : Hp} (t tx : TypeId) (x y : Operand) (ho : o.op = .call { callee := .builtin .copy, args := #[x, y], argTypes := #[t, tx] }) : Sound P o vals H (opCopy P t tx vals H) := by
  have hx : o.op.operands.toList = [x, y] := by rw [ho]; rfl
  unfold opCopy
  split
  case h_2 => exact .bad P o _ H
  rename_i size bytes agg zero e b sz q n c s ht
  split
  case h_2 => exact .bad P o _ H
  rename_i te cs k ys he hc hs
  intro B nn T a w μ fp N avals hR hav hpre next Q hk
  rw [hx] at hav; subst hav
  obtain ⟨p1, ⟨e', p2⟩, p3, p4, p5, p6, p7⟩ := hpre
  obtain ⟨f1, f2, hf, r1, r2⟩ := RepL.two hR.bg
  have : f2 = [] := r2.free p3
  subst this
  have hb := hR.bB
  simp only [bndL] at hb
  have h1 := r1
  simp only [Rep] at h1
  obtain ⟨rfl, _, _, ⟨A, hA⟩, hd⟩ := h1
  obtain ⟨s', s1, s2, s3, s4, s5⟩ := cut_src hs p3 p4 p5 (m := min k n) (Nat.min_le_left ..)
  obtain ⟨A2, c2, hu, hr2⟩ := s5 _ _ _ _ r2
  have hl2 : (ys.take (min k n)).length = min k n := by rw [List.length_take, p5]; omega
  have hown : ∀ (n : Nat) (l : List D), ownsL l = false → ownsL (l.take n) = false := by
    intro n l
    induction l generalizing n with
    | nil => intro _; simp [ownsL]
    | cons z zs ih =>
      intro h
      cases n with
      | zero => simp [ownsL]
      | succ n => simp only [List.take_succ_cons, ownsL, Bool.or_eq_false_iff] at h ⊢; exact ⟨h.1, ih n h.2⟩
  obtain ⟨news, g, q1, q2, q3, q4, q5⟩ := src_spec (P := P) (size := 1) (by omega) hR hr2 (tx := tx) (e' := e') (by rw [s3]; exact p2) s1 (by rw [hl2, Nat.mul_one]) (fun _ => hown _ _ p6) (s4 N hb.2.1)
  have : g = [] := List.eq_nil_iff_forall_not_mem.2 fun z hz => by cases q3 z hz
  subst this
  have hR1 : R B nn ⟨T, H⟩ (ys.take (min k n)) news a w μ fp N := { hR with bg := by rw [hf]; simpa using q2, bB := q5 }
  obtain ⟨_, _, _, _, hut, _⟩ := τ_spec ht
  have hfc : (Builtin.firstCells 1 (Nat.min k n) (.slice A2 k c2)).run P w = .ok news.toArray w := by
    have := q1.cells
    cases A2 <;> simpa [Builtin.firstCells] using this
  obtain ⟨fp', w', h2, h3⟩ := R.storeL (P := P) (i := q) hR1 hc (by rw [hl2]; exact p7) q1.one 0 q (by omega)
  have hst : ∀ A', A = some A' → (storeCells A' news).run P w = .ok () w' := by
    rintro A' rfl
    rcases hd with h | h
    · have : news = [] := List.eq_nil_of_length_eq_zero (by rw [q1.newsLen]; omega)
      subst this
      simpa [storeCells] using h3
    · rw [hA] at h; cases h; exact h3
  have hno : A = none → w' = w := by
    rintro rfl
    rcases hd with h | h
    · have : news = [] := List.eq_nil_of_length_eq_zero (by rw [q1.newsLen]; omega)
      subst this
      have := h3
      simp [storeCells] at this
      exact this.symm
    · rw [hA] at h; cases h
  have hrun : (execOp a.eval o).run P w = .ok (.value (.int .i64 (min k n : Nat))) w' := by
    cases A with
    | none =>
      have e1 := hno rfl
      subst e1
      simp [execOp, ho, resolve, invoke, builtin, Builtin.copy_, run_underlying hut, hA, hu, Builtin.lenOf, run_size he, p1, hfc, goInt]
    | some A' =>
      simp [execOp, ho, resolve, invoke, builtin, Builtin.copy_, run_underlying hut, hA, hu, Builtin.lenOf, run_size he, p1, hfc, goInt, hst A' rfl]
  unfold Oper.wp
  rw [hrun]
  obtain ⟨fp2, h4⟩ := h2.res0 (d := .int .i64 (min k n : Nat)) (v := .int .i64 (min k n : Nat)) (by simp [Rep]) (by simp [bnd])
  exact hk _ w' μ fp2 N h4
theorem sound_opF (hΓ : ∀ f, ConOk P f (Γ f)) (dr : Bool) (o : Oper) (vals : List D) (H : Hp) : Sound P o vals H (opF P Γ dr o vals H) := by
  unfold opF
  split <;> rename_i ho
  · split
    · exact sound_move _ (.inl ho) _
    · exact .bad P o _ H
  · split
    · exact sound_move _ (.inr ho) _
    · exact .bad P o _ H
  · split
    · exact sound_pick _ _ _ ho _ _ _
    · exact .bad P o _ H
  · exact sound_alloc _ ho
  · exact sound_box _ _ ho
  · exact sound_build _ _ ho
  · exact sound_buildSlice _ _ _ ho
  · unfold opLoadT; split
    · exact sound_load _ _ ho
    · exact sound_loadM _ _ ho
  · exact sound_store _ _ _ ho
  · exact sound_nil _ ho
  · exact sound_bin _ _ _ _ _ ho
  · exact sound_un _ _ _ ho
  · exact sound_convert _ _ _ ho
  · exact sound_makeFunc _ _ _ ho
  · exact sound_makeSlice _ _ _ ho
  · exact sound_slice _ _ _ _ _ ho
  · exact sound_fieldAddr _ _ _ ho
  · exact sound_field _ _ _ ho
  · exact sound_indexAddr _ _ _ ho
  · unfold opIndexT
    split
    · rename_i hu; exact sound_index _ _ _ ho hu
    · exact .bad P o _ H
  · exact sound_extract _ _ ho
  · rename_i c
    unfold opCallT
    split
    · rename_i x t h1 h2 h3
      refine sound_lenT x t ?_
      obtain ⟨c1, c2, c3⟩ := c
      dsimp only at h1 h2 h3
      rw [ho, h1, arr1 h2, arr1 h3]
    · rename_i x y t tx h1 h2 h3
      unfold opAppendT
      split
      · exact .bad P o _ H
      · refine sound_appZ t tx x y _ _ ?_
        obtain ⟨c1, c2, c3⟩ := c
        dsimp only at h1 h2 h3
        rw [ho, h1, arr2 h2, arr2 h3]
      · refine sound_append t tx x y ?_
        obtain ⟨c1, c2, c3⟩ := c
        dsimp only at h1 h2 h3
        rw [ho, h1, arr2 h2, arr2 h3]
    · rename_i x t h1 h2 h3
      refine sound_capT x t ?_
      obtain ⟨c1, c2, c3⟩ := c
      dsimp only at h1 h2 h3
      rw [ho, h1, arr1 h2, arr1 h3]
    · rename_i x y t tx h1 h2 h3
      refine sound_copy t tx x y ?_
      obtain ⟨c1, c2, c3⟩ := c
      dsimp only at h1 h2 h3
      rw [ho, h1, arr2 h2, arr2 h3]
    · rename_i g h1
      obtain ⟨c1, c2, c3⟩ := c
      dsimp only at h1
      subst h1
      exact sound_call hΓ g c2 c3 ho
    · exact .bad P o _ H
  · exact .bad P o _ H

/-! ### One operation at a state -/
/-- What an operand reads, without taking it. -/
def look (T : Nat → D) : Operand → D
  | .tmp t => match T t with
    | .fr _ n _ => .list n []
    | d => if owns d then .any else d
  | .const v => cst v
  | .func f => .fn f []
  | .global _ => .any
def grabs (T : Nat → D) : List Operand → List D × (Nat → D)
  | [] => ([], T)
  | .tmp t :: xs => (T t :: (grabs (grab T t) xs).1, (grabs (grab T t) xs).2)
  | .const v :: xs => (cst v :: (grabs T xs).1, (grabs T xs).2)
  | .func f :: xs => (.fn f [] :: (grabs T xs).1, (grabs T xs).2)
  | .global _ :: xs => (.any :: (grabs T xs).1, (grabs T xs).2)
def isLen : Op → Bool
  | .call { callee := .builtin .len, .. } => true
  | _ => false
def taken (T : Nat → D) (op : Op) : List D × (Nat → D) := if isLen op then (op.operands.toList.map (look T), T) else grabs T op.operands.toList
def putD (dst : Option Nat) (d : D) (T : Nat → D) : Nat → D :=
  match dst with
  | some t => upd T t d
  | none => T
def backT (op : Op) (b : Option D) (T : Nat → D) : Nat → D :=
  match b, op.operands.toList with
  | some d, .tmp t :: _ => upd T t d
  | _, _ => T
def backOk (op : Op) (dst : Option Nat) (b : Option D) : Prop :=
  match b, op.operands.toList with
  | some _, .tmp t :: _ => dst ≠ some t
  | _, _ => True
variable (P Γ) in
def step (dr : Bool) (o : Oper) (S : St) : Prop × St :=
  let v := taken S.T o.op
  let r := opF P Γ dr o v.1 S.H
  (r.pre ∧ backOk o.op o.dst r.back, ⟨putD o.dst r.val (backT o.op r.back v.2), r.H⟩)
section
variable {B : Base} {n : Nat} {a : Act} {w : World} {μ : Nat → Nat}
theorem R.look {S : St} {ds : List D} {vs : List Value} {fp : Root → List Nat} {N : Nat} (h : R B n S ds vs a w μ fp N) (x : Operand) : Rep μ (Im B w fp) w (look S.T x) (a.eval x) [] ∧ bnd N (look S.T x) := by
  cases x with
  | tmp t =>
    have h1 := h.tm t
    have h2 := h.bT t
    simp only [Vm.look, Act.eval]
    split
    · rename_i sz m cs ht
      rw [ht] at h1 h2
      simp only [Rep] at h1 ⊢
      obtain ⟨h3, h4, h5⟩ := h1
      refine ⟨?_, by simp [bnd, bndL]⟩
      rcases h5 with ⟨rfl, _, A, hv⟩ | ⟨b, c, _, _, _, hv, hc, _⟩
      · exact ⟨trivial, h3, A, 0, [], hv, by simp, .inl trivial, by simp [RepL]⟩
      · exact ⟨trivial, h3, _, c, [], hv, hc, .inl trivial, by simp [RepL]⟩
    · by_cases ho : owns (S.T t) = true
      · simp [ho, Rep, bnd]
      · have ho : owns (S.T t) = false := by simpa using ho
        have := h1.free ho
        rw [this] at h1
        simp only [ho, Bool.false_eq_true, if_false]
        exact ⟨h1, h2⟩
  | const v => exact ⟨Rep.cst .., bnd_cst ..⟩
  | func f => exact ⟨by simp [Vm.look, Act.eval, Rep, RepL], by simp [Vm.look, bnd, bndL]⟩
  | global g => exact ⟨by simp [Vm.look, Rep], by simp [Vm.look, bnd]⟩
theorem R.looks : ∀ {xs : List Operand} {S : St} {ds : List D} {vs : List Value} {fp : Root → List Nat} {N : Nat}, R B n S ds vs a w μ fp N → R B n S (ds ++ xs.map (Vm.look S.T)) (vs ++ xs.map a.eval) a w μ fp N
  | [], S, ds, vs, fp, N, h => by simpa using h
  | x :: xs, S, ds, vs, fp, N, h => by
    have h1 := h.join (h.look x).1 (h.look x).2
    have := R.looks (xs := xs) h1
    simpa using this
theorem R.grabs : ∀ {xs : List Operand} {T : Nat → D} {H : Hp} {ds : List D} {vs : List Value} {fp : Root → List Nat} {N : Nat}, R B n ⟨T, H⟩ ds vs a w μ fp N → ∃ fp', R B n ⟨(Vm.grabs T xs).2, H⟩ (ds ++ (Vm.grabs T xs).1) (vs ++ xs.map a.eval) a w μ fp' N
  | [], T, H, ds, vs, fp, N, h => ⟨fp, by simpa [Vm.grabs] using h⟩
  | .tmp t :: xs, T, H, ds, vs, fp, N, h => by
    obtain ⟨fp1, h1⟩ := h.grab t
    obtain ⟨fp2, h2⟩ := R.grabs (xs := xs) h1
    exact ⟨fp2, by simpa [Vm.grabs, Act.eval] using h2⟩
  | .const v :: xs, T, H, ds, vs, fp, N, h => by
    obtain ⟨fp2, h2⟩ := R.grabs (xs := xs) (h.join (Rep.cst _ _ _ v) (bnd_cst _ v))
    exact ⟨fp2, by simpa [Vm.grabs, Act.eval] using h2⟩
  | .func f :: xs, T, H, ds, vs, fp, N, h => by
    obtain ⟨fp2, h2⟩ := R.grabs (xs := xs) (h.join (d := .fn f []) (v := .func (.func f) #[] #[]) (by simp [Rep, RepL]) (by simp [bnd, bndL]))
    exact ⟨fp2, by simpa [Vm.grabs, Act.eval] using h2⟩
  | .global g :: xs, T, H, ds, vs, fp, N, h => by
    obtain ⟨fp2, h2⟩ := R.grabs (xs := xs) (h.join (d := .any) (v := .pointer (some ⟨g, 0, none⟩)) (by simp [Rep]) (by simp [bnd]))
    exact ⟨fp2, by simpa [Vm.grabs, Act.eval] using h2⟩
theorem R.taken {S : St} {fp : Root → List Nat} {N : Nat} (h : R B n S [] [] a w μ fp N) (op : Op) : ∃ fp', R B n ⟨(Vm.taken S.T op).2, S.H⟩ (Vm.taken S.T op).1 (op.operands.toList.map a.eval) a w μ fp' N := by
  unfold Vm.taken
  split
  · exact ⟨fp, by simpa using R.looks (xs := op.operands.toList) h⟩
  · obtain ⟨fp', h'⟩ := R.grabs (xs := op.operands.toList) (T := S.T) (H := S.H) h
    exact ⟨fp', by simpa using h'⟩
theorem step_sound (hΓ : ∀ f, ConOk P f (Γ f)) {dr : Bool} {o : Oper} {S : St} {fp : Root → List Nat} {N : Nat} (h : R B n S [] [] a w μ fp N) (hp : (step P Γ dr o S).1) (hd : ∀ t, o.dst = some t → t < n) {next : Act → World → Prop} {Q : Exit → Act → World → Prop}
    (hk : ∀ a' w' μ' fp' N', R B n (step P Γ dr o S).2 [] [] a' w' μ' fp' N' → next a' w') : o.wp P a w next Q := by
  obtain ⟨fp1, h1⟩ := h.taken o.op
  obtain ⟨hp1, hp2⟩ := hp
  refine sound_opF hΓ dr o _ _ B n _ a w μ fp1 N _ h1 rfl hp1 next Q fun v w' μ' fp' N' h2 => ?_
  suffices hx : ∃ fp'' N'', R B n (step P Γ dr o S).2 [] [] (a.put o.dst v) w' μ' fp'' N'' by
    obtain ⟨fp'', N'', hR⟩ := hx
    exact hk _ w' μ' fp'' N'' hR
  revert hp2 h2
  simp only [step]
  generalize opF P Γ dr o (Vm.taken S.T o.op).1 S.H = r
  intro hp2 h2
  -- the result is put
  have put : ∀ {S' : St} {ds : List D} {vs : List Value} {fp : Root → List Nat}, R B n S' (r.val :: ds) (v :: vs) a w' μ' fp N' → ∃ fp', R B n ⟨putD o.dst r.val S'.T, S'.H⟩ ds vs (a.put o.dst v) w' μ' fp' N' := by
    intro S' ds vs fp h
    cases hdst : o.dst with
    | none => obtain ⟨fp', h'⟩ := h.unbag; exact ⟨fp', h'⟩
    | some t => exact h.put (hd t hdst)
  cases hb : r.back with
  | none =>
    rw [hb] at h2
    obtain ⟨fp', h'⟩ := put h2
    refine ⟨fp', N', ?_⟩
    have e : backT o.op none (Vm.taken S.T o.op).2 = (Vm.taken S.T o.op).2 := by unfold backT; rfl
    rw [e]
    exact h'
  | some d =>
    rw [hb] at h2 hp2
    obtain ⟨fp2, h3⟩ := put h2
    simp only [List.map_cons, List.map_nil, Option.toList] at h3
    cases hop : o.op.operands.toList with
    | nil =>
      obtain ⟨fp', h'⟩ := h3.unbag
      refine ⟨fp', N', ?_⟩
      have e : backT o.op (some d) (Vm.taken S.T o.op).2 = (Vm.taken S.T o.op).2 := by unfold backT; rw [hop]
      rw [e]
      exact h'
    | cons x xs =>
      cases x with
      | tmp t =>
        have e : backT o.op (some d) (Vm.taken S.T o.op).2 = upd (Vm.taken S.T o.op).2 t d := by unfold backT; rw [hop]
        have hne : o.dst ≠ some t := by unfold backOk at hp2; rw [hop] at hp2; exact hp2
        rw [e]
        have hval : (o.op.operands.toList.map a.eval).headD undef = (a.put o.dst v).tmps.getD t undef := by
          rw [hop]
          simp only [List.map_cons, List.headD_cons, Act.eval]
          cases hdst : o.dst with
          | none => rfl
          | some t' =>
            simp only [Act.put]
            rw [Array.getD_eq_getD_getElem?, Array.getD_eq_getD_getElem?, Array.getElem?_setIfInBounds, if_neg]
            rintro rfl
            exact hne hdst
        rw [hval] at h3
        obtain ⟨fp', h'⟩ := h3.putback
        refine ⟨fp', N', ?_⟩
        have e2 : putD o.dst r.val (upd (Vm.taken S.T o.op).2 t d) = upd (putD o.dst r.val (Vm.taken S.T o.op).2) t d := by
          cases hdst : o.dst with
          | none => rfl
          | some t' =>
            funext y
            simp only [putD, upd]
            by_cases e1 : y = t' <;> by_cases e2 : y = t <;> simp [e1, e2]
            · subst e1; subst e2; exact (hne hdst).elim
            · intro e3; subst e3; subst e1; exact (e2 rfl).elim
            · intro e3; subst e3; subst e2; exact (hne hdst).elim
        rw [e2]
        exact h'
      | _ =>
        obtain ⟨fp', h'⟩ := h3.unbag
        refine ⟨fp', N', ?_⟩
        have e : backT o.op (some d) (Vm.taken S.T o.op).2 = (Vm.taken S.T o.op).2 := by unfold backT; rw [hop]
        rw [e]
        exact h'

/-! ### Guards -/
/-- What stands in a slot that an operation passed over. -/
def skipped : D := .tup []
def guardD (ops : Array Oper) (o : Oper) (T : Nat → D) : Option Bool :=
  match o.guard with
  | none => some true
  | some (j, want) => match ops[j]? with
    | some oj => match oj.dst with
      | some d => match T d with
        | .bool b => some (b == want)
        | .tup [] => some false
        | _ => none
      | none => none
    | none => none
variable (P Γ) in
/-- An operation in its region, its guard asked first. -/
def stepG (dr : Bool) (ops : Array Oper) (o : Oper) (S : St) : Prop × St :=
  match guardD ops o S.T with
  | none => (False, S)
  | some false => (True, ⟨putD o.dst skipped S.T, S.H⟩)
  | some true => step P Γ dr o S
theorem guard_wanted {ops : Array Oper} {o : Oper} {S : St} {fp : Root → List Nat} {N : Nat} (h : R B n S [] [] a w μ fp N) {b : Bool} (hg : guardD ops o S.T = some b) (hd : ∀ (j : Nat) oj t, ops[j]? = some oj → oj.dst = some t → t < n) : Region.wanted o (yielded ops a.tmps) = b := by
  unfold guardD at hg
  unfold Region.wanted
  cases hgd : o.guard with
  | none => rw [hgd] at hg; cases hg; rfl
  | some jw =>
    obtain ⟨j, want⟩ := jw
    rw [hgd] at hg
    dsimp only at hg ⊢
    cases hj : ops[j]? with
    | none => rw [hj] at hg; cases hg
    | some oj =>
      rw [hj] at hg
      dsimp only at hg
      cases hdst : oj.dst with
      | none => rw [hdst] at hg; cases hg
      | some t =>
        rw [hdst] at hg
        dsimp only at hg
        have ht := hd j oj t hj hdst
        have hv := h.tm t
        have hy : yielded ops a.tmps j = match a.tmps.getD t undef with
          | .bool b => some b
          | _ => none := by
          unfold yielded
          rw [hj]
          simp only [Option.bind_some, hdst]
          rw [Array.getD_eq_getD_getElem?, Array.getElem?_eq_getElem (by rw [h.len]; exact ht)]
          simp only [Option.getD_some]
          split <;> simp_all
        rw [hy]
        split at hg
        · rename_i b' hb'
          rw [hb'] at hv
          simp only [Rep] at hv
          rw [hv.2]
          cases hg
          cases b' <;> cases want <;> rfl
        · rename_i hb'
          rw [hb'] at hv
          simp only [Rep] at hv
          obtain ⟨us, hv, hu⟩ := hv
          rw [hv]
          cases hg
          rfl
        · cases hg
theorem wpOp_stepG (hΓ : ∀ f, ConOk P f (Γ f)) {dr : Bool} {ops : Array Oper} {i : Nat} {o : Oper} (ho : ops[i]? = some o) {S : St} {fp : Root → List Nat} {N : Nat} (h : R B n S [] [] a w μ fp N) (hp : (stepG P Γ dr ops o S).1)
    (hd : ∀ (j : Nat) oj t, ops[j]? = some oj → oj.dst = some t → t < n) {next : Act → World → Prop} {Q : Exit → Act → World → Prop} (hk : ∀ a' w' μ' fp' N', R B n (stepG P Γ dr ops o S).2 [] [] a' w' μ' fp' N' → next a' w') : wpOp P ops Q i next a w := by
  unfold wpOp
  rw [ho]
  dsimp only
  unfold stepG at hp hk
  cases hg : guardD ops o S.T with
  | none => rw [hg] at hp; exact hp.elim
  | some b =>
    rw [hg] at hp hk
    rw [guard_wanted h hg hd]
    cases b with
    | true =>
      rw [if_pos rfl]
      exact .inl (step_sound hΓ h hp (fun t ht => hd i o t ho ht) hk)
    | false =>
      rw [if_neg (by simp)]
      have h1 := h.join (d := skipped) (v := undef) (by simp only [skipped, Rep]; exact ⟨[], rfl, by simp [RepL]⟩) (by simp [skipped, bnd, bndL])
      cases hdst : o.dst with
      | none => rw [hdst] at hk; exact hk _ w μ fp N h
      | some t =>
        rw [hdst] at hk
        obtain ⟨fp', h2⟩ := R.put (ds := []) (vs := []) h1 (hd i o t ho hdst)
        exact hk _ w μ fp' N h2
end
end
end Go.Proofs.Ytlbbhkpjjciaiaa.Vm

