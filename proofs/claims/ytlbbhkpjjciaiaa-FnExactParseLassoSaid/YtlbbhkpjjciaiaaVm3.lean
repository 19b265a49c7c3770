/-
  What the operations that need no memory do to abstract values. No conditions; nothing of the program is named here.
-/
import Derived.Test.YtlbbhkpjjciaiaaVm2
import Derived.Deep.AppendSrc
import Derived.Laws.StructEq
namespace Go.Proofs.Ytlbbhkpjjciaiaa.Vm
open Go
set_option linter.unusedVariables false
set_option linter.unusedSimpArgs false
set_option linter.unusedSectionVars false

/-! ### Types and constants -/
def leafD : Value → D
  | .int k n => .int k n
  | .bool b => .bool b
  | .string s => .str s.data.toList
  | .slice _ 0 0 => .nil
  | .pointer none => .nilp
  | _ => .any
def cst : Value → D
  | .agg cs => .st (cs.toList.map leafD)
  | v => leafD v
theorem Rep.leafD (μ : Nat → Nat) (I : Nat → Prop) (w : World) (v : Value) : Rep μ I w (leafD v) v [] := by
  unfold Vm.leafD
  split <;> simp [Rep, mkS]
theorem RepL.leafD (μ : Nat → Nat) (I : Nat → Prop) (w : World) (vs : List Value) : RepL μ I w (vs.map Vm.leafD) vs [] := by
  induction vs with
  | nil => simp [RepL]
  | cons v vs ih => simp only [List.map_cons, RepL]; exact ⟨v, vs, [], [], rfl, rfl, Rep.leafD μ I w v, ih⟩
theorem Rep.cst (μ : Nat → Nat) (I : Nat → Prop) (w : World) (v : Value) : Rep μ I w (cst v) v [] := by
  unfold Vm.cst
  split
  · simp only [Rep]; exact ⟨_, by simp, RepL.leafD μ I w _⟩
  · exact Rep.leafD μ I w _
theorem bnd_leafD (N : Nat) (v : Value) : bnd N (leafD v) := by unfold leafD; split <;> simp [bnd]
theorem bndL_leafD (N : Nat) (vs : List Value) : bndL N (vs.map leafD) := by
  induction vs with
  | nil => simp [bndL]
  | cons v vs ih => simp only [List.map_cons, bndL]; exact ⟨bnd_leafD N v, ih⟩
theorem bnd_cst (N : Nat) (v : Value) : bnd N (cst v) := by
  unfold cst
  split
  · simp only [bnd]; exact bndL_leafD N _
  · exact bnd_leafD N _
theorem owns_leafD (v : Value) : owns (leafD v) = false := by unfold leafD; split <;> simp [owns]
/-- The value of one cell. -/
def leaf : D → Bool
  | .st _ => false
  | .tup _ => false
  | .any => false
  | _ => true
theorem leaf_one {μ : Nat → Nat} {I : Nat → Prop} {w : World} {d : D} {v : Value} {f : List Nat} (hl : leaf d = true) (h : Rep μ I w d v f) : v.oneCell' = true := by
  cases d <;> simp only [leaf, Bool.false_eq_true] at hl <;> simp only [Rep] at h
  · obtain ⟨_, A, rfl⟩ := h; rfl
  · obtain ⟨_, rfl⟩ := h; rfl
  · obtain ⟨_, rfl⟩ := h; rfl
  · obtain ⟨_, rfl⟩ := h; rfl
  · obtain ⟨_, _, A, c, vs, rfl, _⟩ := h; rfl
  · obtain ⟨_, _, ⟨_, _, A, rfl⟩ | ⟨_, _, _, _, _, rfl, _⟩⟩ := h <;> rfl
  · obtain ⟨_, _, _, ⟨A, rfl⟩, _⟩ := h; rfl
  · obtain ⟨_, rfl⟩ := h; rfl
  · obtain ⟨_, _, _, _, rfl, _⟩ := h; rfl
  · obtain ⟨_, _, _, rfl, _⟩ := h; rfl
  · obtain ⟨_, rfl, _⟩ := h; rfl
  · obtain ⟨_, rfl⟩ := h; rfl
  · obtain ⟨_, b, rfl⟩ := h; rfl

structure Ti where
  size : Nat
  bytes : Nat
  agg : Bool
  zero : List D
  desc : TypeDesc
def aggDesc : TypeDesc → Bool
  | .struct _ => true
  | .array _ _ => true
  | _ => false
def τ (P : Program) (t : TypeId) : Option Ti :=
  match P.info? t, P.underlying t with
  | some i, some d => some ⟨i.size, i.bytes, aggDesc d, (match i.zero with | some z => z.cells.toList.map leafD | none => []), d⟩
  | _, _ => none
section
variable {P : Program} {t : TypeId} {ti : Ti} {w : World}
theorem τ_spec (h : τ P t = some ti) : ∃ i, P.info? t = some i ∧ i.size = ti.size ∧ i.bytes = ti.bytes ∧ P.underlying t = some ti.desc ∧ aggDesc ti.desc = ti.agg ∧ ti.zero = (match i.zero with | some z => z.cells.toList.map leafD | none => []) := by
  unfold τ at h
  split at h
  · rename_i i d hi hd
    cases h
    exact ⟨i, hi, rfl, rfl, hd, rfl, rfl⟩
  · cases h
theorem run_size (h : τ P t = some ti) (w : World) : (sizeOf t).run P w = .ok ti.size w := by
  obtain ⟨i, hi, h1, _⟩ := τ_spec h
  simp [sizeOf, typeInfo, hi, h1]
theorem run_desc (h : τ P t = some ti) (w : World) : (underlying t).run P w = .ok ti.desc w := by
  obtain ⟨i, hi, _, _, h1, _⟩ := τ_spec h
  exact run_underlying h1 w
theorem run_agg (h : τ P t = some ti) (w : World) : (isAgg t).run P w = .ok ti.agg w := by
  obtain ⟨i, hi, _, _, h1, h2, _⟩ := τ_spec h
  rw [← h2]
  simp only [isAgg, Sem.run_bind, run_underlying h1, Result.andThen_ok]
  cases ti.desc <;> rfl
end

/-! ### What an operation yields -/
abbrev Hp := Nat → Option (List D)
structure Res where
  pre : Prop
  val : D
  H : Hp
  back : Option D := none
def bad (H : Hp) : Res := ⟨False, .any, H, none⟩

variable (P : Program)

def Sound (o : Oper) (vals : List D) (H : Hp) (r : Res) : Prop :=
  ∀ (B : Base) (n : Nat) (T : Nat → D) (a : Act) (w : World) (μ : Nat → Nat) (fp : Root → List Nat) (N : Nat) (avals : List Value), R B n ⟨T, H⟩ vals avals a w μ fp N → o.op.operands.toList.map a.eval = avals → r.pre →
    ∀ (next : Act → World → Prop) (Q : Exit → Act → World → Prop), (∀ v w' μ' fp' N', R B n ⟨T, r.H⟩ (r.val :: r.back.toList) (v :: r.back.toList.map fun _ => avals.headD undef) a w' μ' fp' N' → next (a.put o.dst v) w') → o.wp P a w next Q
theorem Sound.bad (o : Oper) (vals : List D) (H : Hp) : Sound P o vals H (bad H) := fun B n T a w μ fp N avals _ _ h => h.elim
variable {P}
/-- An operation that yields a value and leaves the world alone. -/
theorem Sound.of {o : Oper} {vals : List D} {H : Hp} {r : Res} (hb : r.back = none) (hH : r.H = H)
    (h : ∀ (μ : Nat → Nat) (I : Nat → Prop) (w : World) (a : Act) (f : List Nat) (N : Nat) (avals : List Value), RepL μ I w vals avals f → o.op.operands.toList.map a.eval = avals → f.Nodup → bndL N vals → r.pre → ∃ v f', (execOp a.eval o).run P w = .ok (.value v) w ∧ Rep μ I w r.val v f' ∧ f'.Nodup ∧ (∀ x ∈ f', x ∈ f) ∧ bnd N r.val) : Sound P o vals H r := by
  intro B n T a w μ fp N avals hR hav hpre next Q hk
  obtain ⟨v, f', hrun, hrep, hnd, hsub, hbn⟩ := h μ _ w a _ N avals hR.bg hav (hR.nod .bag) hR.bB hpre
  obtain ⟨fp', hR'⟩ := hR.resF hrep hnd hsub hbn
  unfold Oper.wp
  rw [hrun]
  exact hk v w μ fp' N (by rw [hb, hH]; exact hR')

section
variable {o : Oper} {vals : List D} {H : Hp}
theorem one_eval {o : Oper} {x : Operand} (h : o.op.operands.toList = [x]) {a : Act} {avals : List Value} (hav : o.op.operands.toList.map a.eval = avals) : avals = [a.eval x] := by rw [← hav, h]; rfl
theorem RepL.one {μ : Nat → Nat} {I : Nat → Prop} {w : World} {d : D} {v : Value} {f : List Nat} (h : RepL μ I w [d] [v] f) : Rep μ I w d v f := by
  simp only [RepL] at h
  obtain ⟨v', vs', f1, f2, h1, rfl, h3, h4, rfl⟩ := h
  cases h1
  simpa using h3
theorem RepL.two {μ : Nat → Nat} {I : Nat → Prop} {w : World} {d e : D} {v u : Value} {f : List Nat} (h : RepL μ I w [d, e] [v, u] f) : ∃ f1 f2, f = f1 ++ f2 ∧ Rep μ I w d v f1 ∧ Rep μ I w e u f2 := by
  simp only [RepL] at h
  obtain ⟨v', vs', f1, f2, h1, rfl, h3, v2, vs2, g1, g2, h4, rfl, h5, rfl, rfl⟩ := h
  cases h1; cases h4
  exact ⟨f1, g1, by simp, h3, h5⟩
theorem RepL.three {μ : Nat → Nat} {I : Nat → Prop} {w : World} {d e g : D} {v u x : Value} {f : List Nat} (h : RepL μ I w [d, e, g] [v, u, x] f) : ∃ f1 f2 f3, f = f1 ++ f2 ++ f3 ∧ Rep μ I w d v f1 ∧ Rep μ I w e u f2 ∧ Rep μ I w g x f3 := by
  simp only [RepL] at h
  obtain ⟨v', vs', f1, f2, h1, rfl, h3, v2, vs2, g1, g2, h4, rfl, h5, v3, vs3, k1, k2, h6, rfl, h7, rfl, rfl⟩ := h
  cases h1; cases h4; cases h6
  exact ⟨f1, g1, k1, by simp, h3, h5, h7⟩

/-! move, assign -/
theorem sound_move (x : Operand) (ho : o.op = .move x ∨ o.op = .assign x) (d : D) : Sound P o [d] H ⟨True, d, H, none⟩ := by
  refine .of rfl rfl fun μ I w a f N avals hr hav hn hb _ => ?_
  have hx : o.op.operands.toList = [x] := by rcases ho with e | e <;> rw [e] <;> rfl
  obtain rfl := one_eval hx hav
  simp only [bndL] at hb
  exact ⟨a.eval x, f, by rcases ho with e | e <;> simp [execOp, e] <;> rfl, hr.one, hn, fun _ h => h, hb.1⟩

/-! pick -/
def pickD (c : Bool) : D → D → D
  | .bool x, .bool y => .bool (if c then x else y)
  | x, y => if c then x else y
theorem sound_pick (c x y : Operand) (ho : o.op = .pick c x y) (b : Bool) (d e : D) : Sound P o [.bool b, d, e] H ⟨True, pickD b d e, H, none⟩ := by
  refine .of rfl rfl fun μ I w a f N avals hr hav hn hb _ => ?_
  have hx : o.op.operands.toList = [c, x, y] := by rw [ho]; rfl
  rw [hx] at hav
  subst hav
  obtain ⟨f1, f2, f3, rfl, h1, h2, h3⟩ := RepL.three hr
  simp only [Rep] at h1
  obtain ⟨rfl, h1⟩ := h1
  simp only [bndL] at hb
  have hp : pickD b d e = if b then d else e := by unfold pickD; split <;> split <;> rfl
  refine ⟨if b then a.eval x else a.eval y, if b then f2 else f3, ?_, ?_, ?_, ?_, ?_⟩
  · simp only [execOp, ho, h1]
    cases b <;> rfl
  · show Rep μ I w (pickD b d e) _ _
    rw [hp]
    cases b
    · exact h3
    · exact h2
  · cases b
    · exact (List.nodup_append.1 hn).2.1
    · exact (List.nodup_append.1 (List.nodup_append.1 hn).1).2.1
  · intro z hz
    cases b
    · exact List.mem_append_right _ hz
    · exact List.mem_append_left _ (List.mem_append_right _ hz)
  · show bnd N (pickD b d e)
    rw [hp]
    cases b
    · exact hb.2.2.1
    · exact hb.2.1

/-! binOp, unOp -/
def bitsD (op : BinOp) (k : IntKind) (x y : Int) : Int :=
  let a := BitVec.ofInt k.bits x
  let b := BitVec.ofInt k.bits y
  match op with
  | .and => k.wrap (a &&& b).toNat
  | .or => k.wrap (a ||| b).toNat
  | .xor => k.wrap (a ^^^ b).toNat
  | _ => k.wrap (a &&& ~~~b).toNat
def intOp (op : BinOp) (k k' : IntKind) (x y : Int) : Prop × D :=
  match op with
  | .shl => (0 ≤ y, .int k (k.wrap (x * 2 ^ (min y.toNat k.bits))))
  | .shr => (0 ≤ y, .int k (x.fdiv (2 ^ (min y.toNat k.bits))))
  | .add => (k = k', .int k (k.wrap (x + y)))
  | .sub => (k = k', .int k (k.wrap (x - y)))
  | .mul => (k = k', .int k (k.wrap (x * y)))
  | .quo => (k = k' ∧ y ≠ 0, .int k (k.wrap (x.tdiv y)))
  | .rem => (k = k' ∧ y ≠ 0, .int k (x.tmod y))
  | .eql => (k = k', .bool (decide (x = y)))
  | .neq => (k = k', .bool (!decide (x = y)))
  | .lss => (k = k', .bool (decide (x < y)))
  | .leq => (k = k', .bool (decide (x ≤ y)))
  | .gtr => (k = k', .bool (decide (y < x)))
  | .geq => (k = k', .bool (decide (y ≤ x)))
  | op => (k = k', .int k (bitsD op k x y))
theorem run_intOp (op : BinOp) (t t' : TypeId) (x y : Operand) (k k' : IntKind) (p q : Int) (ho : o.op = .binOp op t x y t') (h : (intOp op k k' p q).1) (ρ : Operand → Value) (hx : ρ x = .int k p) (hy : ρ y = .int k' q) (w : World) :
    ∃ v, (execOp ρ o).run P w = .ok (.value v) w ∧ ∀ μ I, Rep μ I w (intOp op k k' p q).2 v [] := by
  have e : (execOp ρ o).run P w = ((do eqGuard op t x y (.int k p) (.int k' q); binOp op t (.int k p) (.int k' q) : Sem Value).run P w).andThen fun v w => .ok (.value v) w := by
    simp only [execOp, ho, hx, hy, Sem.run_bind]
    rfl
  rw [e]
  cases op <;> simp only [intOp] at h ⊢
  case add => subst h; exact ⟨.int k (k.wrap (p + q)), by simp [eqGuard, binOp, Op.intArith], fun μ I => by simp [Rep]⟩
  case sub => subst h; exact ⟨.int k (k.wrap (p - q)), by simp [eqGuard, binOp, Op.intArith], fun μ I => by simp [Rep]⟩
  case mul => subst h; exact ⟨.int k (k.wrap (p * q)), by simp [eqGuard, binOp, Op.intArith], fun μ I => by simp [Rep]⟩
  case quo => obtain ⟨rfl, h⟩ := h; exact ⟨.int k (k.wrap (p.tdiv q)), by simp [eqGuard, binOp, Op.intDiv, h], fun μ I => by simp [Rep]⟩
  case rem => obtain ⟨rfl, h⟩ := h; exact ⟨.int k (p.tmod q), by simp [eqGuard, binOp, Op.intDiv, h], fun μ I => by simp [Rep]⟩
  case and => subst h; exact ⟨.int k (bitsD .and k p q), by simp [eqGuard, binOp, Op.intBits, bitsD], fun μ I => by simp [Rep]⟩
  case or => subst h; exact ⟨.int k (bitsD .or k p q), by simp [eqGuard, binOp, Op.intBits, bitsD], fun μ I => by simp [Rep]⟩
  case xor => subst h; exact ⟨.int k (bitsD .xor k p q), by simp [eqGuard, binOp, Op.intBits, bitsD], fun μ I => by simp [Rep]⟩
  case andNot => subst h; exact ⟨.int k (bitsD .andNot k p q), by simp [eqGuard, binOp, Op.intBits, bitsD], fun μ I => by simp [Rep]⟩
  case eql => subst h; exact ⟨.bool (decide (p = q)), by simp [eqGuard, binOp, Op.intCmp]; rw [Bool.eq_iff_iff]; simp, fun μ I => by simp [Rep]⟩
  case neq => subst h; exact ⟨.bool (!decide (p = q)), by simp [eqGuard, binOp, Op.intCmp, bne]; rw [Bool.eq_iff_iff]; simp, fun μ I => by simp [Rep]⟩
  case lss => subst h; exact ⟨.bool (decide (p < q)), by simp [eqGuard, binOp, Op.intCmp], fun μ I => by simp [Rep]⟩
  case leq => subst h; exact ⟨.bool (decide (p ≤ q)), by simp [eqGuard, binOp, Op.intCmp], fun μ I => by simp [Rep]⟩
  case gtr => subst h; exact ⟨.bool (decide (q < p)), by simp [eqGuard, binOp, Op.intCmp], fun μ I => by simp [Rep]⟩
  case geq => subst h; exact ⟨.bool (decide (q ≤ p)), by simp [eqGuard, binOp, Op.intCmp], fun μ I => by simp [Rep]⟩
  case shl => have h' : ¬ q < 0 := by omega
              exact ⟨.int k (k.wrap (p * 2 ^ (min q.toNat k.bits))), by simp [eqGuard, binOp, Op.shift, h'], fun μ I => by simp [Rep]⟩
  case shr => have h' : ¬ q < 0 := by omega
              exact ⟨.int k (p.fdiv (2 ^ (min q.toNat k.bits))), by simp [eqGuard, binOp, Op.shift, h'], fun μ I => by simp [Rep]⟩
theorem mkS_size (s : List UInt8) : (mkS s).size = s.length := by simp [mkS, ByteArray.size]
theorem mkS_toList (s : List UInt8) : (mkS s).toList = s := by simp [mkS, ByteArray.toList_eq]
theorem mkS_append (s t : List UInt8) : mkS s ++ mkS t = mkS (s ++ t) := by
  apply ByteArray.ext
  simp [mkS, ByteArray.data_append]
def strOp (op : BinOp) (s t : List UInt8) : Prop × D :=
  match op with
  | .add => (s.length + t.length ≤ 9223372036854775807, .str (s ++ t))
  | .eql => (True, .bool (decide (s = t)))
  | .neq => (True, .bool (!decide (s = t)))
  | .lss => (True, .bool (Op.bytesLess s t))
  | .leq => (True, .bool (Op.bytesLess s t || decide (s = t)))
  | .gtr => (True, .bool (!(Op.bytesLess s t || decide (s = t))))
  | .geq => (True, .bool (!Op.bytesLess s t))
  | _ => (False, .any)
theorem run_strOp (op : BinOp) (t t' : TypeId) (x y : Operand) (p q : List UInt8) (ho : o.op = .binOp op t x y t') (h : (strOp op p q).1) (ρ : Operand → Value) (hx : ρ x = .string (mkS p)) (hy : ρ y = .string (mkS q)) (w : World) :
    ∃ v, (execOp ρ o).run P w = .ok (.value v) w ∧ ∀ μ I, Rep μ I w (strOp op p q).2 v [] := by
  have e : (execOp ρ o).run P w = ((do eqGuard op t x y (.string (mkS p)) (.string (mkS q)); binOp op t (.string (mkS p)) (.string (mkS q)) : Sem Value).run P w).andThen fun v w => .ok (.value v) w := by
    simp only [execOp, ho, hx, hy, Sem.run_bind]
    rfl
  have d : (p == q) = decide (p = q) := by rw [Bool.eq_iff_iff]; simp
  rw [e]
  cases op <;> simp only [strOp] at h ⊢
  case add =>
    have h' : ¬ (IntKind.i64.max < ((p.length : Int) + (q.length : Int))) := by
      have : IntKind.i64.max = 9223372036854775807 := by decide
      rw [this]; omega
    exact ⟨.string (mkS (p ++ q)), by simp [eqGuard, binOp, Op.stringOp, mkS_size, h', mkS_append]; omega, fun μ I => by simp [Rep]⟩
  case eql => exact ⟨.bool (decide (p = q)), by simp [eqGuard, binOp, Op.stringOp, mkS_toList, d], fun μ I => by simp [Rep]⟩
  case neq => exact ⟨.bool (!decide (p = q)), by simp [eqGuard, binOp, Op.stringOp, mkS_toList, d], fun μ I => by simp [Rep]⟩
  case lss => exact ⟨.bool (Op.bytesLess p q), by simp [eqGuard, binOp, Op.stringOp, mkS_toList, d], fun μ I => by simp [Rep]⟩
  case leq => exact ⟨.bool (Op.bytesLess p q || decide (p = q)), by simp [eqGuard, binOp, Op.stringOp, mkS_toList, d], fun μ I => by simp [Rep]⟩
  case gtr => exact ⟨.bool (!(Op.bytesLess p q || decide (p = q))), by simp [eqGuard, binOp, Op.stringOp, mkS_toList, d], fun μ I => by simp [Rep]⟩
  case geq => exact ⟨.bool (!Op.bytesLess p q), by simp [eqGuard, binOp, Op.stringOp, mkS_toList, d], fun μ I => by simp [Rep]⟩
def boolOp (op : BinOp) (a b : Bool) : Prop × D :=
  match op with
  | .eql => (True, .bool (decide (a = b)))
  | .neq => (True, .bool (!decide (a = b)))
  | _ => (False, .any)
def isSl : D → Bool
  | .nil => true
  | .list _ _ => true
  | .fr _ _ _ => true
  | .sl _ _ _ _ _ => true
  | _ => false
theorem isSl_spec {μ : Nat → Nat} {I : Nat → Prop} {w : World} {d : D} {v : Value} {f : List Nat} (hs : isSl d = true) (h : Rep μ I w d v f) : ∃ A m c, v = .slice A m c := by
  cases d <;> simp only [isSl, Bool.false_eq_true] at hs <;> simp only [Rep] at h
  · obtain ⟨_, A, rfl⟩ := h; exact ⟨_, _, _, rfl⟩
  · obtain ⟨_, _, A, c, vs, rfl, _⟩ := h; exact ⟨_, _, _, rfl⟩
  · obtain ⟨_, _, ⟨_, _, A, rfl⟩ | ⟨_, _, _, _, _, rfl, _⟩⟩ := h <;> exact ⟨_, _, _, rfl⟩
  · obtain ⟨_, _, _, ⟨A, rfl⟩, _⟩ := h; exact ⟨_, _, _, rfl⟩
/-- Nothing is known of whether the slice is nil. -/
def emp : D → Bool
  | .list _ cs => cs.isEmpty
  | .fr _ n _ => n == 0
  | .sl _ _ _ _ c => c == 0
  | _ => true
theorem emp_spec {μ : Nat → Nat} {I : Nat → Prop} {w : World} {d : D} {v : Value} {f : List Nat} (hs : isSl d = true) (he : emp d = false) (h : Rep μ I w d v f) : ∃ a m c, v = .slice (some a) m c := by
  cases d <;> simp only [isSl, Bool.false_eq_true] at hs <;> simp only [emp, Bool.true_eq_false] at he <;> simp only [Rep] at h
  · obtain ⟨_, _, A, c, vs, rfl, _, h, _⟩ := h
    rcases h with h | ⟨b, o, rfl, _⟩
    · subst h; simp at he
    · exact ⟨_, _, _, rfl⟩
  · obtain ⟨_, _, ⟨h, _⟩ | ⟨_, _, _, _, _, rfl, _⟩⟩ := h
    · subst h; simp at he
    · exact ⟨_, _, _, rfl⟩
  · obtain ⟨_, _, _, _, h | h⟩ := h
    · subst h; simp at he
    · exact ⟨_, _, _, h⟩
def nilD (op : BinOp) (d : D) : D := if emp d = true then .ubool else match op with
  | .neq => .bool true
  | _ => .bool false
def isEq : BinOp → Bool
  | .eql => true
  | .neq => true
  | _ => false
def isNilK : Operand → Bool
  | .const (.slice none 0 0) => true
  | _ => false
variable (P) in
def slTy (t : TypeId) : Bool := match P.underlying t with
  | some (.slice _) => true
  | _ => false
variable (P) in
/-- Structs of four numbers of this type are compared number by number. -/
def St4 (t : TypeId) : Prop := P.eqGuardType P.depth t = false ∧ ∀ (a b c d a' b' c' d' : Int) (w : World), (Op.equalIn 10000 t (.agg #[.int .i64 a, .int .i64 b, .int .i64 c, .int .i64 d]) (.agg #[.int .i64 a', .int .i64 b', .int .i64 c', .int .i64 d'])).run P w = .ok (decide (a = a') && decide (b = b') && decide (c = c') && decide (d = d')) w
theorem rep_st4 {μ : Nat → Nat} {I : Nat → Prop} {w : World} {a b c d : Int} {v : Value} {f : List Nat} (h : Rep μ I w (.st [.int .i64 a, .int .i64 b, .int .i64 c, .int .i64 d]) v f) : v = .agg #[.int .i64 a, .int .i64 b, .int .i64 c, .int .i64 d] := by
  simp only [Rep, RepL] at h
  obtain ⟨vs, rfl, v1, _, _, _, rfl, _, ⟨_, rfl⟩, v2, _, _, _, rfl, _, ⟨_, rfl⟩, v3, _, _, _, rfl, _, ⟨_, rfl⟩, v4, _, _, _, rfl, _, ⟨_, rfl⟩, rfl, _⟩ := h
  rfl
def eqB4 (op : BinOp) (e : Bool) : D := match op with
  | .neq => .bool (!e)
  | _ => .bool e
variable (P) in
/-- 'binOp' at abstract values. -/
def opBin (op : BinOp) (t : TypeId) (y : Operand) (vs : List D) (H : Hp) : Res :=
  match vs with
  | [.int k p, .int k' q] => ⟨(intOp op k k' p q).1, (intOp op k k' p q).2, H, none⟩
  | [.str p, .str q] => ⟨(strOp op p q).1, (strOp op p q).2, H, none⟩
  | [.bool p, .bool q] => ⟨P.underlying t = some .bool ∧ (boolOp op p q).1, (boolOp op p q).2, H, none⟩
  | [.st [.int .i64 a, .int .i64 b, .int .i64 c, .int .i64 d], .st [.int .i64 a', .int .i64 b', .int .i64 c', .int .i64 d']] => ⟨St4 P t ∧ isEq op = true, eqB4 op (decide (a = a') && decide (b = b') && decide (c = c') && decide (d = d')), H, none⟩
  | [d, .nil] => ⟨isSl d = true ∧ isEq op = true ∧ isNilK y = true ∧ slTy P t = true, nilD op d, H, none⟩
  | _ => bad H
theorem bnd_intOp (op : BinOp) (k k' : IntKind) (p q : Int) (N : Nat) : bnd N (intOp op k k' p q).2 := by cases op <;> simp [intOp, bnd]
theorem bnd_strOp (op : BinOp) (p q : List UInt8) (N : Nat) : bnd N (strOp op p q).2 := by cases op <;> simp [strOp, bnd]
theorem sound_bin (op : BinOp) (t t' : TypeId) (x y : Operand) (ho : o.op = .binOp op t x y t') : Sound P o vals H (opBin P op t y vals H) := by
  have hx : o.op.operands.toList = [x, y] := by rw [ho]; rfl
  unfold opBin
  split
  · rename_i k p k' q
    refine .of rfl rfl fun μ I w a f N avals hr hav hn hb hp => ?_
    rw [hx] at hav; subst hav
    obtain ⟨f1, f2, rfl, h1, h2⟩ := RepL.two hr
    simp only [Rep] at h1 h2
    obtain ⟨v, h3, h4⟩ := run_intOp (P := P) op t t' x y k k' p q ho hp a.eval h1.2 h2.2 w
    exact ⟨v, [], h3, h4 μ I, .nil, by simp, bnd_intOp ..⟩
  · rename_i p q
    refine .of rfl rfl fun μ I w a f N avals hr hav hn hb hp => ?_
    rw [hx] at hav; subst hav
    obtain ⟨f1, f2, rfl, h1, h2⟩ := RepL.two hr
    simp only [Rep] at h1 h2
    obtain ⟨v, h3, h4⟩ := run_strOp (P := P) op t t' x y p q ho hp a.eval h1.2 h2.2 w
    exact ⟨v, [], h3, h4 μ I, .nil, by simp, bnd_strOp ..⟩
  · rename_i p q
    refine .of rfl rfl fun μ I w a f N avals hr hav hn hb hp => ?_
    rw [hx] at hav; subst hav
    obtain ⟨f1, f2, rfl, h1, h2⟩ := RepL.two hr
    simp only [Rep] at h1 h2
    obtain ⟨pu, pb⟩ := hp
    have heq : ∀ w, (Op.equal t (.bool p) (.bool q)).run P w = .ok (p == q) w := fun w => by
      have key : ∀ d, (Op.equalIn (d + 1) t (.bool p) (.bool q)).run P w = .ok (p == q) w := fun d => by
        simp only [Op.equalIn, Sem.run_bind, run_underlying pu, Result.andThen_ok]; rfl
      exact key 9999
    have d : (p == q) = decide (p = q) := by rw [Bool.eq_iff_iff]; simp
    have ex : (execOp a.eval o).run P w = ((do eqGuard op t x y (.bool p) (.bool q); binOp op t (.bool p) (.bool q) : Sem Value).run P w).andThen fun v w => .ok (.value v) w := by
      simp only [execOp, ho, h1.2, h2.2, Sem.run_bind]
      rfl
    have hg : ∀ op w, (eqGuard op t x y (.bool p) (.bool q)).run P w = .ok () w := fun op w => by cases op <;> rfl
    rw [ex]
    cases op <;> simp only [boolOp] at pb ⊢
    · exact ⟨.bool (decide (p = q)), [], by simp [hg, binOp, heq, d], by simp [Rep], .nil, by simp, by simp [bnd]⟩
    · exact ⟨.bool (!decide (p = q)), [], by simp [hg, binOp, heq, d], by simp [Rep], .nil, by simp, by simp [bnd]⟩
  · rename_i a b c d a' b' c' d'
    refine .of rfl rfl fun μ I w ac f N avals hr hav hn hb hp => ?_
    rw [hx] at hav; subst hav
    obtain ⟨f1, f2, rfl, h1, h2⟩ := RepL.two hr
    obtain ⟨⟨p1, p2⟩, p3⟩ := hp
    have e1 := rep_st4 h1
    have e2 := rep_st4 h2
    have ex : (execOp ac.eval o).run P w = ((do eqGuard op t x y (ac.eval x) (ac.eval y); binOp op t (ac.eval x) (ac.eval y) : Sem Value).run P w).andThen fun v w => .ok (.value v) w := by
      simp only [execOp, ho, Sem.run_bind]
      rfl
    rw [ex, e1, e2]
    have hg : (eqGuard op t x y (.agg #[.int .i64 a, .int .i64 b, .int .i64 c, .int .i64 d]) (.agg #[.int .i64 a', .int .i64 b', .int .i64 c', .int .i64 d'])).run P w = .ok () w := run_eqGuard_agg w op t x y _ _ p1
    cases op <;> simp [isEq] at p3
    · exact ⟨.bool (decide (a = a') && decide (b = b') && decide (c = c') && decide (d = d')), [], by simp only [Sem.run_bind, hg, Result.andThen_ok, run_eql_struct, p2], by simp [Rep, eqB4], .nil, by simp, by simp [bnd, eqB4]⟩
    · exact ⟨.bool (!(decide (a = a') && decide (b = b') && decide (c = c') && decide (d = d'))), [], by simp only [Sem.run_bind, hg, Result.andThen_ok, run_neq_struct, p2], by simp [Rep, eqB4], .nil, by simp, by simp [bnd, eqB4]⟩
  · rename_i d
    refine .of rfl rfl fun μ I w a f N avals hr hav hn hb hp => ?_
    rw [hx] at hav; subst hav
    obtain ⟨f1, f2, rfl, h1, h2⟩ := RepL.two hr
    obtain ⟨p1, p2, p3, p4⟩ := hp
    obtain ⟨A, m, c, hv⟩ := isSl_spec p1 h1
    have hy : y = .const (.slice none 0 0) := by
      unfold isNilK at p3
      split at p3
      · rfl
      · cases p3
    subst hy
    obtain ⟨e, hu⟩ : ∃ e, P.underlying t = some (.slice e) := by
      unfold slTy at p4
      split at p4
      · exact ⟨_, by assumption⟩
      · cases p4
    have heq : ∀ w, (Op.equal t (.slice A m c) (.slice none 0 0)).run P w = .ok A.isNone w := fun w => by
      have key : ∀ d, (Op.equalIn (d + 1) t (.slice A m c) (.slice none 0 0)).run P w = .ok A.isNone w := fun d => by
        cases A <;> simp only [Op.equalIn, Sem.run_bind, run_underlying hu, Result.andThen_ok] <;> rfl
      exact key 9999
    have hg : ∀ op w, (eqGuard op t x (.const (.slice none 0 0)) (.slice A m c) (.slice none 0 0)).run P w = .ok () w := fun op w => by
      cases op <;> rfl
    have hrep : Rep μ I w (nilD op d) (.bool (if op = .eql then A.isNone else !A.isNone)) [] := by
      unfold nilD
      split
      · simp [Rep]
      · rename_i he
        obtain ⟨a', m', c', hv'⟩ := emp_spec p1 (by simpa using he) h1
        rw [hv] at hv'
        cases hv'
        cases op <;> simp [isEq] at p2 <;> simp [Rep]
    have hbnd : bnd N (nilD op d) := by
      unfold nilD
      split
      · simp [bnd]
      · split <;> simp [bnd]
    refine ⟨.bool (if op = .eql then A.isNone else !A.isNone), [], ?_, hrep, .nil, by simp, hbnd⟩
    have ex : (execOp a.eval o).run P w = ((do eqGuard op t x (.const (.slice none 0 0)) (.slice A m c) (.slice none 0 0); binOp op t (.slice A m c) (.slice none 0 0) : Sem Value).run P w).andThen fun v w => .ok (.value v) w := by
      simp only [execOp, ho, hv, Sem.run_bind]
      rfl
    rw [ex]
    cases op <;> simp [isEq] at p2
    · simp [hg, binOp, heq]
    · simp [hg, binOp, heq]
  · exact .bad P o _ H
def opUn (op : UnOp) (vs : List D) (H : Hp) : Res :=
  match op, vs with
  | .not, [.bool b] => ⟨True, .bool (!b), H, none⟩
  | .neg, [.int k n] => ⟨True, .int k (k.wrap (0 - n)), H, none⟩
  | _, _ => bad H
theorem sound_un (op : UnOp) (t : TypeId) (x : Operand) (ho : o.op = .unOp op t x) : Sound P o vals H (opUn op vals H) := by
  have hx : o.op.operands.toList = [x] := by rw [ho]; rfl
  unfold opUn
  split
  · refine .of rfl rfl fun μ I w a f N avals hr hav hn hb hp => ?_
    obtain rfl := one_eval hx hav
    have h1 := hr.one
    simp only [Rep] at h1
    exact ⟨_, [], by simp only [execOp, ho, h1.2, Op.unary]; rfl, by simp [Rep], .nil, by simp, by simp [bnd]⟩
  · refine .of rfl rfl fun μ I w a f N avals hr hav hn hb hp => ?_
    obtain rfl := one_eval hx hav
    have h1 := hr.one
    simp only [Rep] at h1
    exact ⟨_, [], by simp only [execOp, ho, h1.2, Op.unary, Op.intArith]; rfl, by simp [Rep], .nil, by simp, by simp [bnd]⟩
  · exact .bad P o _ H

/-! nilCheck, makeFunc, extract -/
def opNil (vs : List D) (H : Hp) : Res :=
  match vs with
  | [.ptr b i] => ⟨True, .ptr b i, H, none⟩
  | [.pd cs] => ⟨True, .pd cs, H, none⟩
  | [.box cs] => ⟨True, .box cs, H, none⟩
  | [.fn f cs] => ⟨True, .fn f cs, H, none⟩
  | _ => bad H
theorem sound_nil (x : Operand) (ho : o.op = .nilCheck x) : Sound P o vals H (opNil vals H) := by
  have hx : o.op.operands.toList = [x] := by rw [ho]; rfl
  have key : ∀ d : D, (∀ μ I w v f, Rep μ I w d v f → ∀ w', (∀ ρ : Operand → Value, ρ x = v → (execOp ρ o).run P w' = .ok (.value v) w')) → Sound P o [d] H ⟨True, d, H, none⟩ := by
    intro d hd
    refine .of rfl rfl fun μ I w a f N avals hr hav hn hb hp => ?_
    obtain rfl := one_eval hx hav
    simp only [bndL] at hb
    exact ⟨a.eval x, f, hd μ I w _ f hr.one w a.eval rfl, hr.one, hn, fun _ h => h, hb.1⟩
  unfold opNil
  split
  · refine key _ fun μ I w v f h w' ρ hρ => ?_
    simp only [Rep] at h
    obtain ⟨_, rfl⟩ := h
    simp only [execOp, ho, hρ]; rfl
  · refine key _ fun μ I w v f h w' ρ hρ => ?_
    simp only [Rep] at h
    obtain ⟨_, _, _, _, rfl, _⟩ := h
    simp only [execOp, ho, hρ]; rfl
  · refine key _ fun μ I w v f h w' ρ hρ => ?_
    simp only [Rep] at h
    obtain ⟨_, _, _, rfl, _⟩ := h
    simp only [execOp, ho, hρ]; rfl
  · refine key _ fun μ I w v f h w' ρ hρ => ?_
    simp only [Rep] at h
    obtain ⟨_, rfl, _⟩ := h
    simp only [execOp, ho, hρ]; rfl
  · exact .bad P o _ H
def opMakeFunc (fn : Fn) (first : Array Operand) (vs : List D) (H : Hp) : Res :=
  match fn with
  | .func f => ⟨first = #[], .fn f vs, H, none⟩
  | _ => bad H
theorem sound_makeFunc (fn : Fn) (first captured : Array Operand) (ho : o.op = .makeFunc fn first captured) : Sound P o vals H (opMakeFunc fn first vals H) := by
  unfold opMakeFunc
  split
  · refine .of rfl rfl fun μ I w a f N avals hr hav hn hb hp => ?_
    dsimp only at hp
    subst hp
    have hx : o.op.operands.toList = captured.toList := by rw [ho]; simp [Op.operands]
    rw [hx] at hav
    refine ⟨.func (.func _) #[] avals.toArray, f, ?_, by simp only [Rep]; exact ⟨avals, rfl, hr⟩, hn, fun _ h => h, by simp only [bnd]; exact hb⟩
    subst hav
    simp only [execOp, ho, Instr.makeFunc]
    simp
    rw [← Array.toList_map]
  · exact .bad P o _ H
theorem RepL.set {μ : Nat → Nat} {I : Nat → Prop} {w : World} : ∀ {ds : List D} {vs : List Value} {f : List Nat} {i : Nat} {d : D}, RepL μ I w ds vs f → ds[i]? = some d → ∃ v f1 f2, vs[i]? = some v ∧ Rep μ I w d v f1 ∧ RepL μ I w (ds.set i .any) vs f2 ∧ (f.Nodup → (f1 ++ f2).Nodup) ∧ ∀ x, x ∈ f1 ∨ x ∈ f2 → x ∈ f
  | [], vs, f, i, d, h, hi => by simp at hi
  | e :: ds, vs, f, i, d, h, hi => by
    simp only [RepL] at h
    obtain ⟨v, vs', f1, f2, rfl, rfl, h3, h4⟩ := h
    cases i with
    | zero =>
      simp at hi; subst hi
      refine ⟨v, f1, f2, rfl, h3, ?_, fun h => h, fun x hx => by simpa using hx⟩
      simp only [List.set_cons_zero, RepL]
      exact ⟨v, vs', [], f2, rfl, rfl, by simp [Rep], h4⟩
    | succ i =>
      obtain ⟨u, g1, g2, k1, k2, k3, k4, k5⟩ := RepL.set h4 (by simpa using hi)
      refine ⟨u, g1, f1 ++ g2, by simpa using k1, k2, ?_, fun hn => ?_, fun x hx => ?_⟩
      · simp only [List.set_cons_succ, RepL]
        exact ⟨v, vs', f1, g2, rfl, rfl, h3, k3⟩
      · have n2 := k4 (List.nodup_append.1 hn).2.1
        have e2 : (g1 ++ (f1 ++ g2)).Perm (f1 ++ (g1 ++ g2)) := by
          rw [← List.append_assoc, ← List.append_assoc]
          exact List.perm_append_comm.append_right g2
        refine (e2.nodup_iff).2 ?_
        refine nodup_app (List.nodup_append.1 hn).1 n2 fun x hx hy => ?_
        exact (List.nodup_append.1 hn).2.2 x hx x (k5 x (by simpa using hy)) rfl
      · rcases hx with hx | hx
        · exact List.mem_append_right _ (k5 x (.inl hx))
        · rcases List.mem_append.1 hx with hx | hx
          · exact List.mem_append_left _ hx
          · exact List.mem_append_right _ (k5 x (.inr hx))
theorem bndL_set {N : Nat} {ds : List D} (h : bndL N ds) (i : Nat) : bndL N (ds.set i .any) := by
  rw [bndL_iff] at *
  intro d hd
  rcases List.mem_or_eq_of_mem_set hd with hd | rfl
  · exact h d hd
  · simp [bnd]
def opExtract (i : Nat) (vs : List D) (H : Hp) : Res :=
  match vs with
  | [.tup ds] => ⟨i < ds.length, ds.getD i .any, H, if ownsL ds then some (.tup (ds.set i .any)) else none⟩
  | _ => bad H
theorem sound_extract (i : Nat) (x : Operand) (ho : o.op = .extract x i) : Sound P o vals H (opExtract i vals H) := by
  have hx : o.op.operands.toList = [x] := by rw [ho]; rfl
  unfold opExtract
  split
  · rename_i ds
    intro B n T a w μ fp N avals hR hav hpre next Q hk
    obtain rfl := one_eval hx hav
    dsimp only at hpre
    have h1 := hR.bg.one
    simp only [Rep] at h1
    obtain ⟨vs, hv, h2⟩ := h1
    have hb := hR.bB
    simp only [bndL, bnd] at hb
    have hg : ds[i]? = some (ds.getD i .any) := by rw [List.getD_eq_getElem?_getD, List.getElem?_eq_getElem hpre]; rfl
    obtain ⟨v, f1, f2, k1, k2, k3, k4, k5⟩ := RepL.set h2 hg
    have hbd : bnd N (ds.getD i .any) := bndL_iff.1 hb.1 _ (List.mem_of_getElem? hg)
    have hrun : (execOp a.eval o).run P w = .ok (.value v) w := by
      simp [execOp, ho, hv, Instr.extract, k1]
    unfold Oper.wp
    rw [hrun]
    by_cases ho : ownsL ds = true
    · have hn := k4 (hR.nod .bag)
      have hm : Moves fp (fset fp .bag (f1 ++ f2)) := by
        have := Moves.two (fp := fp) (p := .blk 0) (q := .bag) (l := fp (.blk 0)) (m := f1 ++ f2) hR.nod hR.dis (by simp) (fun x hx => by rcases hx with hx | hx; exact .inl hx; exact .inr (k5 x (by simpa using hx))) (hR.nod _) hn
          fun x hx hy => by have := hR.dis (.blk 0) .bag x hx (k5 x (by simpa using hy)); cases this
        have e : fset (fset fp (.blk 0) (fp (.blk 0))) .bag (f1 ++ f2) = fset fp .bag (f1 ++ f2) := by funext r; simp only [fset]; split <;> simp_all
        rwa [e] at this
      refine hk v w μ (fset fp .bag (f1 ++ f2)) N ?_
      simp only [ho, if_true, Option.toList]
      refine ⟨hR.len, hR.dfs, hR.frm, hR.jk, hR.own' hm, hm.nod, hm.dis, ?_, ?_, ?_, ?_, hR.bT, ?_, hR.bH, hR.rn⟩
      · intro t'; rw [fset_ne (by simp)]; exact (hR.tm t').sub hm.sub
      · rw [fset_eq]
        simp only [RepL, List.map_cons, List.map_nil, List.headD_cons]
        refine ⟨v, _, f1, f2, rfl, rfl, k2.sub hm.sub, a.eval x, [], f2, [], rfl, by simp, ?_, rfl, rfl⟩
        simp only [Rep]
        exact ⟨vs, hv, k3.sub hm.sub⟩
      · intro b cs hc
        exact (hR.hp b cs hc).sub hm.sub (by simp [fset]) (by simp [fset])
      · intro b hb
        have := hR.hn b hb
        simp [fset, this]
      · simp only [bndL, bnd]; exact ⟨hbd, bndL_set hb.1 i, trivial⟩
    · have ho : ownsL ds = false := by simpa using ho
      obtain ⟨fp', hR'⟩ := hR.resF k2 (List.nodup_append.1 (k4 (hR.nod .bag))).1 (fun x hx => k5 x (.inl hx)) hbd
      refine hk v w μ fp' N ?_
      simp only [ho, Bool.false_eq_true, if_false]
      exact hR'
  · exact .bad P o _ H

/-! addresses -/
theorem Seg.drop {w : World} {b o : Nat} {vs : List Value} (h : Seg w b o vs) (k : Nat) : Seg w b (o + k) (vs.drop k) := by
  obtain ⟨c, t, z, h1, h2, h3⟩ := h
  exact ⟨c, t, z, h1, fun i v hv => by rw [Nat.add_assoc]; exact h2 (k + i) v (by simpa using hv), fun v hv => h3 v (List.mem_of_mem_drop hv)⟩
theorem Seg.take {w : World} {b o : Nat} {vs : List Value} (h : Seg w b o vs) (k : Nat) : Seg w b o (vs.take k) := by
  obtain ⟨c, t, z, h1, h2, h3⟩ := h
  refine ⟨c, t, z, h1, fun i v hv => h2 i v ?_, fun v hv => h3 v (List.mem_of_mem_take hv)⟩
  rw [List.getElem?_take] at hv
  split at hv
  · exact hv
  · cases hv
theorem Seg.cell {w : World} {b o : Nat} {vs : List Value} (h : Seg w b o vs) {i : Nat} {v : Value} (hv : vs[i]? = some v) : w.cell? ⟨b, o + i, none⟩ = some v := by
  obtain ⟨c, t, z, h1, h2, _⟩ := h
  simp only [World.cell?, h1]
  exact h2 i v hv
theorem bndL_drop {N : Nat} {cs : List D} (h : bndL N cs) (k : Nat) : bndL N (cs.drop k) := by
  rw [bndL_iff] at *; exact fun d hd => h d (List.mem_of_mem_drop hd)
theorem bndL_take {N : Nat} {cs : List D} (h : bndL N cs) (k : Nat) : bndL N (cs.take k) := by
  rw [bndL_iff] at *; exact fun d hd => h d (List.mem_of_mem_take hd)
variable (P) in
def opFieldAddr (s f : Nat) (vs : List D) (H : Hp) : Res :=
  match τ P s with
  | some ⟨_, _, _, _, .struct fields⟩ =>
    match fields[f]? with
    | some fd =>
      match τ P fd.type, vs with
      | some ti, [.ptr b i] => ⟨ti.size ≠ 0, .ptr b (i + fd.offset), H, none⟩
      | some ti, [.pd cs] => ⟨ti.size ≠ 0, .pd (cs.drop fd.offset), H, none⟩
      | _, _ => bad H
    | none => bad H
  | _ => bad H
theorem sound_fieldAddr (s : TypeId) (f : Nat) (x : Operand) (ho : o.op = .fieldAddr s x f) : Sound P o vals H (opFieldAddr P s f vals H) := by
  have hx : o.op.operands.toList = [x] := by rw [ho]; rfl
  unfold opFieldAddr
  split
  · rename_i fields hs
    split
    · rename_i fd hf
      split
      · rename_i ti b i ht
        refine .of rfl rfl fun μ I w a f N avals hr hav hn hb hp => ?_
        obtain rfl := one_eval hx hav
        have h1 := hr.one
        simp only [Rep] at h1
        dsimp only at hp
        simp only [bndL, bnd] at hb
        refine ⟨.pointer (some ⟨μ b, i + fd.offset, none⟩), [], ?_, by simp [Rep], .nil, by simp, by simp only [bnd]; exact hb.1⟩
        simp [execOp, ho, h1.2, Instr.fieldAt, run_desc hs, hf, Instr.sureAddr, fieldPlace, run_size ht, hp, Addr.add_lit]
      · rename_i ti cs ht
        refine .of rfl rfl fun μ I w a f N avals hr hav hn hb hp => ?_
        obtain rfl := one_eval hx hav
        have h1 := hr.one
        simp only [Rep] at h1
        obtain ⟨_, b, i, vs, hv, hI, hseg, hrep⟩ := h1
        dsimp only at hp
        simp only [bndL, bnd] at hb
        refine ⟨.pointer (some ⟨b, i + fd.offset, none⟩), [], ?_, ?_, .nil, by simp, by simp only [bnd]; exact bndL_drop hb.1 _⟩
        · simp [execOp, ho, hv, Instr.fieldAt, run_desc hs, hf, Instr.sureAddr, fieldPlace, run_size ht, hp, Addr.add_lit]
        · simp only [Rep]; exact ⟨trivial, b, _, _, rfl, hI, hseg.drop _, hrep.drop _⟩
      · exact .bad P o _ H
    · exact .bad P o _ H
  · exact .bad P o _ H
variable (P) in
def opField (s f : Nat) (vs : List D) (H : Hp) : Res :=
  match τ P s with
  | some ⟨_, _, _, _, .struct fields⟩ =>
    match fields[f]? with
    | some fd =>
      match τ P fd.type, vs with
      | some ti, [.st cs] => ⟨ownsL cs = false ∧ fd.offset < cs.length, if ti.agg then .st ((cs.drop fd.offset).take ti.size) else cs.getD fd.offset .any, H, none⟩
      | _, _ => bad H
    | none => bad H
  | _ => bad H
theorem RepL.noown {μ : Nat → Nat} {I : Nat → Prop} {w : World} {ds : List D} {vs : List Value} {f : List Nat} (ho : ownsL ds = false) (h : RepL μ I w ds vs f) : RepL μ I w ds vs [] := by
  have := RepL.free ho h
  rwa [this] at h
theorem sound_field (s : TypeId) (f : Nat) (x : Operand) (ho : o.op = .field s x f) : Sound P o vals H (opField P s f vals H) := by
  have hx : o.op.operands.toList = [x] := by rw [ho]; rfl
  unfold opField
  split
  · rename_i fields hs
    split
    · rename_i fd hf
      split
      · rename_i ti cs ht
        refine .of rfl rfl fun μ I w a f N avals hr hav hn hb hp => ?_
        obtain rfl := one_eval hx hav
        have h1 := hr.one
        simp only [Rep] at h1
        obtain ⟨vs, hv, h2⟩ := h1
        dsimp only at hp
        have h2 := h2.noown hp.1
        simp only [bndL, bnd] at hb
        have hl := h2.length
        by_cases ha : ti.agg = true
        · refine ⟨.agg ((vs.toArray).extract fd.offset (fd.offset + ti.size)), [], ?_, ?_, .nil, by simp, ?_⟩
          · simp [execOp, ho, hv, Instr.field, run_desc hs, hf, asAgg, part, run_agg ht, ha, run_size ht]
          · dsimp only; rw [if_pos ha]; simp only [Rep]
            refine ⟨(vs.drop fd.offset).take ti.size, ?_, (h2.drop _).take _⟩
            congr 1
            apply Array.ext'
            simp [List.extract]
          · dsimp only; rw [if_pos ha]; simp only [bnd]; exact bndL_take (bndL_drop hb.1 _) _
        · have ha : ti.agg = false := by simpa using ha
          obtain ⟨d, hd⟩ : ∃ d, cs[fd.offset]? = some d := ⟨_, List.getElem?_eq_getElem hp.2⟩
          obtain ⟨v, hv2, hr2⟩ := h2.get hd
          have hg : cs.getD fd.offset .any = d := by rw [List.getD_eq_getElem?_getD, hd]; rfl
          refine ⟨v, [], ?_, ?_, .nil, by simp, ?_⟩
          · simp [execOp, ho, hv, Instr.field, run_desc hs, hf, asAgg, part, run_agg ht, ha, hv2]
          · dsimp only; rw [if_neg (by simp [ha]), hg]; exact hr2
          · dsimp only; rw [if_neg (by simp [ha]), hg]; exact bndL_iff.1 hb.1 d (List.mem_of_getElem? hd)
      · exact .bad P o _ H
    · exact .bad P o _ H
  · exact .bad P o _ H
variable (P) in
def opIndexAddr (t : Nat) (vs : List D) (H : Hp) : Res :=
  match τ P t with
  | some ⟨_, _, _, _, .slice e⟩ =>
    match τ P e, vs with
    | some ti, [.sl b sz i n c, .int k j] => ⟨0 ≤ j ∧ j < n, .ptr b (i + j.toNat * ti.size), H, none⟩
    | some ti, [.list n cs, .int k j] => ⟨0 ≤ j ∧ j < n ∧ cs ≠ [], .pd (cs.drop (j.toNat * ti.size)), H, none⟩
    | _, _ => bad H
  | _ => bad H
theorem sound_indexAddr (t : TypeId) (x y : Operand) (ho : o.op = .indexAddr t x y) : Sound P o vals H (opIndexAddr P t vals H) := by
  have hx : o.op.operands.toList = [x, y] := by rw [ho]; rfl
  unfold opIndexAddr
  split
  · rename_i e hs
    split
    · rename_i ti b sz i n c k j ht
      refine .of rfl rfl fun μ I w a f N avals hr hav hn hb hp => ?_
      rw [hx] at hav; subst hav
      obtain ⟨f1, f2, rfl, h1, h2⟩ := RepL.two hr
      simp only [Rep] at h1 h2
      obtain ⟨_, h3, _, h4, h5⟩ := h1
      dsimp only at hp
      have h5 := h5.resolve_left (by omega)
      simp only [bndL, bnd] at hb
      refine ⟨.pointer (some ⟨μ b, i + j.toNat * ti.size, none⟩), [], ?_, by simp [Rep], .nil, by simp, by simp only [bnd]; exact hb.1⟩
      simp [execOp, ho, h5, h2.2, Instr.indexAt, asIntOf, run_desc hs, run_size ht, hp, Addr.add_lit]
    · rename_i ti n cs k j ht
      refine .of rfl rfl fun μ I w a f N avals hr hav hn hb hp => ?_
      rw [hx] at hav; subst hav
      obtain ⟨f1, f2, rfl, h1, h2⟩ := RepL.two hr
      simp only [Rep] at h1 h2
      obtain ⟨_, _, A, c, vs, hv, h3, h4, h5⟩ := h1
      dsimp only at hp
      obtain ⟨b, i, rfl, hI, hseg⟩ := h4.resolve_left hp.2.2
      simp only [bndL, bnd] at hb
      refine ⟨.pointer (some ⟨b, i + j.toNat * ti.size, none⟩), [], ?_, ?_, .nil, by simp, by simp only [bnd]; exact bndL_drop hb.1 _⟩
      · simp [execOp, ho, hv, h2.2, Instr.indexAt, asIntOf, run_desc hs, run_size ht, hp, Addr.add_lit]
      · simp only [Rep]; exact ⟨trivial, b, _, _, rfl, hI, hseg.drop _, h5.drop _⟩
    · exact .bad P o _ H
  · exact .bad P o _ H
/-- s[i] of a string. -/
def opIndex (vs : List D) (H : Hp) : Res :=
  match vs with
  | [.str s, .int k j] => ⟨0 ≤ j ∧ j < s.length, .int .u8 (s.getD j.toNat 0).toNat, H, none⟩
  | _ => bad H
theorem sound_index (t : TypeId) (x y : Operand) (ho : o.op = .index t x y) (hs : P.underlying t = some .string) : Sound P o vals H (opIndex vals H) := by
  have hx : o.op.operands.toList = [x, y] := by rw [ho]; rfl
  unfold opIndex
  split
  · rename_i s k j
    refine .of rfl rfl fun μ I w a f N avals hr hav hn hb hp => ?_
    rw [hx] at hav; subst hav
    obtain ⟨f1, f2, rfl, h1, h2⟩ := RepL.two hr
    simp only [Rep] at h1 h2
    dsimp only at hp
    have hj : j.toNat < s.length := by omega
    have hg : (mkS s)[j.toNat]? = some s[j.toNat] := by
      rw [getElem?_pos _ _ (by rw [mkS_size]; exact hj)]; rfl
    have hd : s.getD j.toNat 0 = s[j.toNat] := by rw [List.getD_eq_getElem?_getD, List.getElem?_eq_getElem hj]; rfl
    refine ⟨.int .u8 s[j.toNat].toNat, [], ?_, by dsimp only; rw [hd]; simp [Rep], .nil, by simp, by simp [bnd]⟩
    simp [execOp, ho, h1.2, h2.2, Instr.index, asIntOf, run_underlying hs, hp.1, hg]
  · exact .bad P o _ H
/-- len, cap. -/
def opLen (vs : List D) (H : Hp) : Res :=
  match vs with
  | [.str s] => ⟨True, .int .i64 s.length, H, none⟩
  | [.list n _] => ⟨True, .int .i64 n, H, none⟩
  | [.fr _ n _] => ⟨True, .int .i64 n, H, none⟩
  | [.sl _ _ _ n _] => ⟨True, .int .i64 n, H, none⟩
  | [.nil] => ⟨True, .int .i64 0, H, none⟩
  | _ => bad H
theorem sound_len (x : Operand) (t : TypeId) (d : TypeDesc) (ho : o.op = .call { callee := .builtin .len, args := #[x], argTypes := #[t] }) (hd : P.underlying t = some d) (hd' : d = .string ∨ ∃ e, d = .slice e) (hs : d = .string → ∃ s, vals = [.str s]) (hs' : (∃ s, vals = [.str s]) → d = .string) : Sound P o vals H (opLen vals H) := by
  have hx : o.op.operands.toList = [x] := by rw [ho]; rfl
  have key : ∀ (d' : D) (n : Nat), (∀ s, d' ≠ .str s) → (∃ e, d = .slice e) → (∀ μ I w v f, Rep μ I w d' v f → ∃ A c, v = .slice A n c) → Sound P o [d'] H ⟨True, .int .i64 n, H, none⟩ := by
    intro d' n _ ⟨e, he⟩ hv
    subst he
    refine .of rfl rfl fun μ I w a f N avals hr hav hn hb hp => ?_
    obtain rfl := one_eval hx hav
    obtain ⟨A, c, hv⟩ := hv μ I w _ f hr.one
    refine ⟨.int .i64 n, [], ?_, by simp [Rep], .nil, by simp, by simp [bnd]⟩
    simp [execOp, ho, resolve, invoke, builtin, Builtin.len_, run_underlying hd, hv, goInt]
  have ns : (¬ ∃ s, vals = [.str s]) → ∃ e, d = .slice e := fun h => hd'.resolve_left fun e => h (hs e)
  unfold opLen
  split
  · rename_i s
    have hd2 := hs' ⟨s, rfl⟩
    subst hd2
    refine .of rfl rfl fun μ I w a f N avals hr hav hn hb hp => ?_
    obtain rfl := one_eval hx hav
    have h1 := hr.one
    simp only [Rep] at h1
    refine ⟨.int .i64 s.length, [], ?_, by simp [Rep], .nil, by simp, by simp [bnd]⟩
    simp [execOp, ho, resolve, invoke, builtin, Builtin.len_, run_underlying hd, h1.2, goInt, mkS_size]
  · refine key _ _ (by simp) (ns (by simp)) fun μ I w v f h => ?_
    simp only [Rep] at h
    obtain ⟨_, _, A, c, _, hv, _⟩ := h
    exact ⟨A, c, hv⟩
  · refine key _ _ (by simp) (ns (by simp)) fun μ I w v f h => ?_
    simp only [Rep] at h
    obtain ⟨_, _, ⟨rfl, _, A, hv⟩ | ⟨b, c, _, _, _, hv, _⟩⟩ := h
    · exact ⟨A, 0, hv⟩
    · exact ⟨_, c, hv⟩
  · refine key _ _ (by simp) (ns (by simp)) fun μ I w v f h => ?_
    simp only [Rep] at h
    obtain ⟨_, _, _, ⟨A, hv⟩, _⟩ := h
    exact ⟨A, _, hv⟩
  · refine key _ 0 (by simp) (ns (by simp)) fun μ I w v f h => ?_
    simp only [Rep] at h
    obtain ⟨_, A, hv⟩ := h
    exact ⟨A, 0, hv⟩
  · exact .bad P o _ H

/-! slicing -/
def sliceArgs (lo hi mx : Option Operand) (vs : List D) : Option (Option Int × Option Int × Option Int) :=
  match lo, hi, mx, vs with
  | none, none, none, [] => some (none, none, none)
  | some _, none, none, [.int _ l] => some (some l, none, none)
  | none, some _, none, [.int _ h] => some (none, some h, none)
  | some _, some _, none, [.int _ l, .int _ h] => some (some l, some h, none)
  | none, some _, some _, [.int _ h, .int _ m] => some (none, some h, some m)
  | some _, some _, some _, [.int _ l, .int _ h, .int _ m] => some (some l, some h, some m)
  | _, _, _, _ => none
/-- An operand's value as a bound, or none. -/
def BoundIs (x : Option Value) (y : Option Int) : Prop := (x = none ∧ y = none) ∨ ∃ k n, x = some (.int k n) ∧ y = some n
theorem sliceArgs_spec {μ : Nat → Nat} {I : Nat → Prop} {w : World} {lo hi mx : Option Operand} {ρ : Operand → Value} {ds : List D} {f : List Nat} {l h m : Option Int} (hs : sliceArgs lo hi mx ds = some (l, h, m))
    (hr : RepL μ I w ds ((lo.toList ++ hi.toList ++ mx.toList).map ρ) f) : BoundIs (lo.map ρ) l ∧ BoundIs (hi.map ρ) h ∧ BoundIs (mx.map ρ) m ∧ (h = none → m = none) := by
  unfold sliceArgs at hs
  split at hs <;> cases hs <;> simp at hr
  · exact ⟨.inl ⟨rfl, rfl⟩, .inl ⟨rfl, rfl⟩, .inl ⟨rfl, rfl⟩, fun _ => rfl⟩
  · have := hr.one; simp only [Rep] at this
    exact ⟨.inr ⟨_, _, by rw [← this.2]; rfl, rfl⟩, .inl ⟨rfl, rfl⟩, .inl ⟨rfl, rfl⟩, fun _ => rfl⟩
  · have := hr.one; simp only [Rep] at this
    exact ⟨.inl ⟨rfl, rfl⟩, .inr ⟨_, _, by rw [← this.2]; rfl, rfl⟩, .inl ⟨rfl, rfl⟩, fun _ => rfl⟩
  · obtain ⟨_, _, _, h1, h2⟩ := hr.two; simp only [Rep] at h1 h2
    exact ⟨.inr ⟨_, _, by rw [← h1.2]; rfl, rfl⟩, .inr ⟨_, _, by rw [← h2.2]; rfl, rfl⟩, .inl ⟨rfl, rfl⟩, fun _ => rfl⟩
  · obtain ⟨_, _, _, h1, h2⟩ := hr.two; simp only [Rep] at h1 h2
    exact ⟨.inl ⟨rfl, rfl⟩, .inr ⟨_, _, by rw [← h1.2]; rfl, rfl⟩, .inr ⟨_, _, by rw [← h2.2]; rfl, rfl⟩, fun h => by cases h⟩
  · obtain ⟨_, _, _, _, h1, h2, h3⟩ := hr.three; simp only [Rep] at h1 h2 h3
    exact ⟨.inr ⟨_, _, by rw [← h1.2]; rfl, rfl⟩, .inr ⟨_, _, by rw [← h2.2]; rfl, rfl⟩, .inr ⟨_, _, by rw [← h3.2]; rfl, rfl⟩, fun h => by cases h⟩
theorem run_bounds (sl : Bool) (len cap : Nat) {x y z : Option Value} {l h m : Option Int} (hx : BoundIs x l) (hy : BoundIs y h) (hz : BoundIs z m) (hm : h = none → m = none)
    (h1 : 0 ≤ l.getD 0) (h2 : l.getD 0 ≤ h.getD len) (h3 : h.getD len ≤ m.getD cap) (h4 : m.getD cap ≤ cap) (w : World) :
    (Instr.sliceBounds sl len cap x y z).run P w = .ok ((l.getD 0).toNat, (h.getD len).toNat, (m.getD cap).toNat) w := by
  rcases hx with ⟨rfl, rfl⟩ | ⟨k, l, rfl, rfl⟩ <;> rcases hy with ⟨rfl, rfl⟩ | ⟨k2, h, rfl, rfl⟩ <;> rcases hz with ⟨rfl, rfl⟩ | ⟨k3, m, rfl, rfl⟩ <;> simp at h1 h2 h3 h4 hm <;>
    simp [Instr.sliceBounds, Instr.sliceBound, asIntOf, h1, h2, h3, h4] <;>
    (try (repeat (first | rw [if_pos (by omega)] | simp)))
theorem RepL.takeF {μ : Nat → Nat} {I : Nat → Prop} {w : World} {ds : List D} {vs : List Value} {f : List Nat} (h : RepL μ I w ds vs f) (k : Nat) : ∃ f', RepL μ I w (ds.take k) (vs.take k) f' ∧ (f.Nodup → f'.Nodup) ∧ ∀ x, x ∈ f' → x ∈ f := by
  have h' := h
  rw [← List.take_append_drop k ds] at h'
  obtain ⟨v1, v2, f1, f2, rfl, rfl, h1, h2⟩ := RepL.split h'
  have e : (v1 ++ v2).take k = v1 := by
    have l1 := h1.length
    have l2 := h2.length
    rw [List.length_take] at l1
    rw [List.length_drop] at l2
    by_cases hk : k ≤ ds.length
    · rw [List.take_append_of_le_length (by omega), List.take_of_length_le (by omega)]
    · have : v2 = [] := List.eq_nil_of_length_eq_zero (by omega)
      subst this
      rw [List.append_nil, List.take_of_length_le (by omega)]
  rw [e]
  exact ⟨f1, h1, fun hn => (List.nodup_append.1 hn).1, fun x hx => List.mem_append_left _ hx⟩
variable (P) in
def opSlice (t : Nat) (lo hi mx : Option Operand) (vs : List D) (H : Hp) : Res :=
  match vs with
  | x :: rest =>
    match sliceArgs lo hi mx rest with
    | some (l, h, m) =>
      match τ P t with
      | some ⟨_, _, _, _, .string⟩ =>
        match x with
        | .str s => ⟨m = none ∧ 0 ≤ l.getD 0 ∧ l.getD 0 ≤ h.getD s.length ∧ h.getD s.length ≤ s.length, .str ((s.drop (l.getD 0).toNat).take (h.getD s.length - l.getD 0).toNat), H, none⟩
        | _ => bad H
      | some ⟨_, _, _, _, .slice e⟩ =>
        match τ P e with
        | some te =>
          match x with
          | .nil => ⟨l.getD 0 = 0 ∧ h.getD 0 = 0 ∧ m.getD 0 = 0, .nil, H, none⟩
          | .list n cs => ⟨0 ≤ l.getD 0 ∧ l.getD 0 ≤ h.getD n ∧ h.getD n ≤ n ∧ (∀ y, m = some y → h.getD n ≤ y ∧ y ≤ n), .list (h.getD n - l.getD 0).toNat ((cs.drop ((l.getD 0).toNat * te.size)).take ((h.getD n - l.getD 0).toNat * te.size)), H, none⟩
          | .sl b sz i n c => ⟨0 ≤ l.getD 0 ∧ l.getD 0 ≤ h.getD n ∧ h.getD n ≤ n ∧ h.getD n ≤ m.getD c ∧ m.getD c ≤ c, .sl b sz (i + (l.getD 0).toNat * te.size) (h.getD n - l.getD 0).toNat (m.getD c - l.getD 0).toNat, H, none⟩
          | .fr sz n cs => ⟨l.getD 0 = 0 ∧ 0 ≤ h.getD n ∧ h.getD n ≤ n ∧ (∀ y, m = some y → h.getD n ≤ y ∧ y ≤ n), .fr sz (h.getD n).toNat (cs.take ((h.getD n).toNat * sz)), H, none⟩
          | _ => bad H
        | none => bad H
      | _ => bad H
    | none => bad H
  | [] => bad H
theorem sound_slice (t : TypeId) (x : Operand) (lo hi mx : Option Operand) (ho : o.op = .slice t x lo hi mx) : Sound P o vals H (opSlice P t lo hi mx vals H) := by
  have hx : o.op.operands.toList = x :: (lo.toList ++ hi.toList ++ mx.toList) := by rw [ho]; simp [Op.operands]
  unfold opSlice
  split
  case h_2 => exact .bad P o _ H
  rename_i d rest
  split
  case h_2 => exact .bad P o _ H
  rename_i l h m hs
  split
  · rename_i hu
    split
    case h_2 => exact .bad P o _ H
    rename_i s
    refine .of rfl rfl fun μ I w a f N avals hr hav hn hb hp => ?_
    rw [hx, List.map_cons] at hav; subst hav
    simp only [RepL] at hr
    obtain ⟨v, vs', f1, f2, hv, rfl, h1, h2⟩ := hr
    cases hv
    obtain ⟨b1, b2, b3, b4⟩ := sliceArgs_spec (ρ := a.eval) hs h2
    simp only [Rep] at h1
    dsimp only at hp
    obtain ⟨rfl, p1, p2, p3⟩ := hp
    have b3' : mx.map a.eval = none := by
      rcases b3 with ⟨h, _⟩ | ⟨_, _, _, h⟩
      · exact h
      · cases h
    have hmx : mx = none := by simpa using b3'
    subst hmx
    have hrun := run_bounds (P := P) false s.length s.length b1 b2 (.inl ⟨rfl, rfl⟩) (fun _ => rfl) p1 p2 (by simpa using p3) (by simp) w
    refine ⟨.string (mkS ((s.drop (l.getD 0).toNat).take (h.getD s.length - l.getD 0).toNat)), [], ?_, by simp [Rep], .nil, by simp, by simp [bnd]⟩
    simp [execOp, ho, h1.2, Instr.sliceAt, Instr.slice, run_desc hu, mkS_size, hrun]
    apply ByteArray.ext
    apply Array.ext'
    simp [mkS, List.extract]
    congr 1
    omega
  · rename_i e hu
    split
    case h_2 => exact .bad P o _ H
    rename_i te he
    split
    case h_5 => exact .bad P o _ H
    · refine .of rfl rfl fun μ I w a f N avals hr hav hn hb hp => ?_
      rw [hx, List.map_cons] at hav; subst hav
      simp only [RepL] at hr
      obtain ⟨v, vs', f1, f2, hv, rfl, h1, h2⟩ := hr
      cases hv
      obtain ⟨b1, b2, b3, b4⟩ := sliceArgs_spec (ρ := a.eval) hs h2
      simp only [Rep] at h1
      obtain ⟨_, A, h1⟩ := h1
      dsimp only at hp
      obtain ⟨p1, p2, p3⟩ := hp
      have hrun := run_bounds (P := P) true 0 0 b1 b2 b3 b4 (by omega) (by simp; omega) (by simp; omega) (by simp; omega) w
      refine ⟨.slice A 0 0, [], ?_, by simp [Rep], .nil, by simp, by simp [bnd]⟩
      simp [p1, p2, p3] at hrun
      simp [execOp, ho, h1, Instr.sliceAt, Instr.slice, run_desc hu, run_size he, hrun]
    · rename_i n cs
      refine .of rfl rfl fun μ I w a f N avals hr hav hn hb hp => ?_
      rw [hx, List.map_cons] at hav; subst hav
      simp only [RepL] at hr
      obtain ⟨v, vs', f1, f2, hv, rfl, h1, h2⟩ := hr
      cases hv
      obtain ⟨b1, b2, b3, b4⟩ := sliceArgs_spec (ρ := a.eval) hs h2
      simp only [Rep] at h1
      obtain ⟨_, hmax, A, c, vs, hv, hnc, hA, hrep⟩ := h1
      dsimp only at hp
      obtain ⟨p1, p2, p3, p4⟩ := hp
      have q1 : h.getD n ≤ m.getD c := by
        cases m with
        | none => simp; omega
        | some y => simp; exact (p4 y rfl).1
      have q2 : m.getD c ≤ c := by
        cases m with
        | none => simp
        | some y => simp; have := (p4 y rfl).2; omega
      have hrun := run_bounds (P := P) true n c b1 b2 b3 b4 p1 p2 q1 q2 w
      generalize l.getD 0 = L at *
      generalize h.getD (n : Int) = R at *
      generalize m.getD (c : Int) = M at *
      refine ⟨.slice (if M.toNat = L.toNat then A else A.map (·.add (L.toNat * te.size))) (R.toNat - L.toNat) (M.toNat - L.toNat), [], ?_, ?_, .nil, by simp, ?_⟩
      · simp [execOp, ho, hv, Instr.sliceAt, Instr.slice, run_desc hu, run_size he, hrun]
      · simp only [Rep]
        refine ⟨trivial, by omega, (if M.toNat = L.toNat then A else A.map (·.add (L.toNat * te.size))), M.toNat - L.toNat, (vs.drop (L.toNat * te.size)).take ((R - L).toNat * te.size), ?_, by omega, ?_, (hrep.drop _).take _⟩
        · rw [show R.toNat - L.toNat = (R - L).toNat by omega]
        · rcases hA with rfl | ⟨b, i, rfl, hI, hseg⟩
          · exact .inl (by simp)
          · by_cases hml : M.toNat = L.toNat
            · have : (R - L).toNat = 0 := by omega
              exact .inl (by simp [this])
            · exact .inr ⟨b, i + L.toNat * te.size, by rw [if_neg hml]; simp [Addr.add_lit], hI, (hseg.drop _).take _⟩
      · simp only [bndL, bnd] at hb ⊢
        exact bndL_take (bndL_drop hb.1 _) _
    · rename_i b sz i n c
      refine .of rfl rfl fun μ I w a f N avals hr hav hn hb hp => ?_
      rw [hx, List.map_cons] at hav; subst hav
      simp only [RepL] at hr
      obtain ⟨v, vs', f1, f2, hv, rfl, h1, h2⟩ := hr
      cases hv
      obtain ⟨b1, b2, b3, b4⟩ := sliceArgs_spec (ρ := a.eval) hs h2
      simp only [Rep] at h1
      obtain ⟨_, hnc, hmax, ⟨A, hv⟩, hA⟩ := h1
      dsimp only at hp
      obtain ⟨p1, p2, p3, p4, p5⟩ := hp
      have hrun := run_bounds (P := P) true n c b1 b2 b3 b4 p1 p2 p4 p5 w
      generalize l.getD 0 = L at *
      generalize h.getD (n : Int) = R at *
      generalize m.getD (c : Int) = M at *
      refine ⟨.slice (if M.toNat = L.toNat then A else A.map (·.add (L.toNat * te.size))) (R.toNat - L.toNat) (M.toNat - L.toNat), [], ?_, ?_, .nil, by simp, ?_⟩
      · simp [execOp, ho, hv, Instr.sliceAt, Instr.slice, run_desc hu, run_size he, hrun]
      · simp only [Rep]
        rw [show R.toNat - L.toNat = (R - L).toNat by omega, show M.toNat - L.toNat = (M - L).toNat by omega]
        refine ⟨trivial, by omega, by omega, ⟨_, rfl⟩, ?_⟩
        by_cases hml : M.toNat = L.toNat
        · exact .inl (by omega)
        · refine .inr ?_
          have hA := hA.resolve_left (by omega)
          rw [hv] at hA
          cases hA
          rw [if_neg hml]
          simp [Addr.add_lit]
      · simp only [bndL, bnd] at hb ⊢
        exact hb.1
    · rename_i sz n cs
      refine .of rfl rfl fun μ I w a f N avals hr hav hn hb hp => ?_
      rw [hx, List.map_cons] at hav; subst hav
      simp only [RepL] at hr
      obtain ⟨v, vs', f1, f2, hv, rfl, h1, h2⟩ := hr
      cases hv
      obtain ⟨b1, b2, b3, b4⟩ := sliceArgs_spec (ρ := a.eval) hs h2
      simp only [Rep] at h1
      dsimp only at hp
      obtain ⟨p1, p2, p3, p4⟩ := hp
      obtain ⟨hmax, hlen, h1⟩ := h1
      simp only [bndL, bnd] at hb
      rcases h1 with ⟨rfl, rfl, A, hv⟩ | ⟨b, c, cells, vs, g, hv, hnc, hw, hsz, hcell, hrep, rfl⟩
      · have hcs : cs = [] := List.eq_nil_of_length_eq_zero (by simpa using hlen)
        subst hcs
        have q0 : h.getD (0 : Nat) = 0 := by omega
        have q1 : m.getD (0 : Nat) = 0 := by
          cases m with
          | none => simp
          | some y => simp; have := p4 y rfl; omega
        have hrun := run_bounds (P := P) true 0 0 b1 b2 b3 b4 (by omega) (by omega) (by omega) (by omega) w
        rw [p1, q0, q1] at hrun
        refine ⟨.slice A 0 0, [], ?_, ?_, .nil, by simp, by simp [bnd, bndL]⟩
        · simp [execOp, ho, hv, Instr.sliceAt, Instr.slice, run_desc hu, run_size he, hrun]
        · simp only [Rep]
          rw [q0]
          exact ⟨by simp, by simp, .inl ⟨by simp, trivial, A, by simp⟩⟩
      · have q1 : h.getD n ≤ m.getD c := by
          cases m with
          | none => simp; omega
          | some y => simp; exact (p4 y rfl).1
        have q2 : m.getD c ≤ c := by
          cases m with
          | none => simp
          | some y => simp; have := (p4 y rfl).2; omega
        have hrun := run_bounds (P := P) true n c b1 b2 b3 b4 (by omega) (by omega) q1 q2 w
        rw [p1] at hrun
        generalize h.getD (n : Int) = R at *
        generalize m.getD (c : Int) = M at *
        obtain ⟨g', k1, k2, k3⟩ := hrep.takeF (R.toNat * sz)
        have hn' := (List.nodup_append.1 hn).1
        refine ⟨.slice (some ⟨b, 0, none⟩) R.toNat M.toNat, b :: g', ?_, ?_, ?_, ?_, ?_⟩
        · simp [execOp, ho, hv, Instr.sliceAt, Instr.slice, run_desc hu, run_size he, hrun, Addr.add_lit]
        · simp only [Rep]
          refine ⟨by omega, ?_, .inr ⟨b, M.toNat, cells, vs.take (R.toNat * sz), g', rfl, by omega, hw, Nat.le_trans (Nat.mul_le_mul_right sz (by omega)) hsz, fun i v hv => ?_, k1, rfl⟩⟩
          · rw [List.length_take, hlen]; exact Nat.min_eq_left (Nat.mul_le_mul_right sz (by omega))
          · rw [List.getElem?_take] at hv
            split at hv
            · exact hcell i v hv
            · cases hv
        · rw [List.nodup_cons] at hn' ⊢
          exact ⟨fun hx => hn'.1 (k3 b hx), k2 hn'.2⟩
        · intro x hx
          rcases List.mem_cons.1 hx with rfl | hx
          · simp
          · simp [k3 x hx]
        · simp only [bnd]; exact bndL_take hb.1 _
  · exact .bad P o _ H
variable (P) in
def opConvert (s t : Nat) (vs : List D) (H : Hp) : Res :=
  match P.underlying s, P.underlying t, vs with
  | some (.int _), some (.int k), [.int _ n] => ⟨True, .int k (k.wrap n), H, none⟩
  | some .string, some .string, [.str s] => ⟨True, .str s, H, none⟩
  | _, _, _ => bad H
theorem sound_convert (s t : TypeId) (x : Operand) (ho : o.op = .convert s t x) : Sound P o vals H (opConvert P s t vals H) := by
  have hx : o.op.operands.toList = [x] := by rw [ho]; rfl
  unfold opConvert
  split
  · rename_i k0 k k' n h1 h2
    refine .of rfl rfl fun μ I w a f N avals hr hav hn hb hp => ?_
    obtain rfl := one_eval hx hav
    have h3 := hr.one
    simp only [Rep] at h3
    refine ⟨.int k (k.wrap n), [], ?_, by simp [Rep], .nil, by simp, by simp [bnd]⟩
    simp [execOp, ho, convert, run_underlying h1, run_underlying h2, h3.2, Conv.intToInt]
  · rename_i st h1 h2
    refine .of rfl rfl fun μ I w a f N avals hr hav hn hb hp => ?_
    obtain rfl := one_eval hx hav
    have h3 := hr.one
    simp only [Rep] at h3
    refine ⟨.string (mkS st), [], ?_, by simp [Rep], .nil, by simp, by simp [bnd]⟩
    simp [execOp, ho, convert, run_underlying h1, run_underlying h2, h3.2]
  · exact .bad P o _ H
end
end Go.Proofs.Ytlbbhkpjjciaiaa.Vm

