/-
  Regions at abstract states: in the text's order, and in whatever order is drawn. No conditions; nothing of the program is named here.
-/
import Derived.Test.YtlbbhkpjjciaiaaVm8
namespace Go.Proofs.Ytlbbhkpjjciaiaa.Vm
open Go
set_option linter.unusedVariables false
set_option linter.unusedSimpArgs false
set_option linter.unusedSectionVars false
section
variable (P : Program) (Γ : FuncId → Con)
/-- A region's operations one behind the other. -/
def W0 (dr : Bool) (ops : Array Oper) : List Nat → St → (St → Prop) → Prop
  | [], S, K => K S
  | i :: L, S, K => match ops[i]? with
    | none => W0 dr ops L S K
    | some o => (stepG P Γ dr ops o S).1 ∧ W0 dr ops L (stepG P Γ dr ops o S).2 K
/-- Both ways of a Bool. -/
def splitB (b : Bool) (p q : Prop) : Prop := (b = true → p) ∧ (b = false → q)
theorem splitB_true (p q : Prop) : splitB true p q = p := by simp [splitB]
theorem splitB_false (p q : Prop) : splitB false p q = q := by simp [splitB]
/-- The same, parted in two at the Bools of the slots 'srcs'. -/
def V (srcs : List Nat) (dr : Bool) (ops : Array Oper) : List Oper → St → (St → Prop) → Prop
  | [], S, K => K S
  | o :: L, S, K => (stepG P Γ dr ops o S).1 ∧
    match o.dst with
    | some t => if t ∈ srcs then (match (stepG P Γ dr ops o S).2.T t with
        | .bool b => splitB b (V srcs dr ops L ⟨upd (stepG P Γ dr ops o S).2.T t (.bool true), (stepG P Γ dr ops o S).2.H⟩ K) (V srcs dr ops L ⟨upd (stepG P Γ dr ops o S).2.T t (.bool false), (stepG P Γ dr ops o S).2.H⟩ K)
        | _ => V srcs dr ops L (stepG P Γ dr ops o S).2 K) else V srcs dr ops L (stepG P Γ dr ops o S).2 K
    | none => V srcs dr ops L (stepG P Γ dr ops o S).2 K
variable {P Γ}
theorem V_W0 {srcs : List Nat} {dr : Bool} {ops : Array Oper} {K : St → Prop} : ∀ {k : Nat} {L : List Oper} {S : St}, (∀ j, L[j]? = ops[k + j]?) → V P Γ srcs dr ops L S K → W0 P Γ dr ops (List.range' k L.length) S K
  | k, [], S, hL, h => h
  | k, o :: L, S, hL, h => by
    have h0 : ops[k]? = some o := by have := hL 0; simpa using this.symm
    have hL' : ∀ j, L[j]? = ops[k + 1 + j]? := fun j => by
      have := hL (j + 1)
      rw [List.getElem?_cons_succ] at this
      rw [this]; congr 1; omega
    simp only [List.length_cons, List.range'_succ, W0, h0]
    simp only [V] at h
    refine ⟨h.1, ?_⟩
    obtain ⟨_, h⟩ := h
    generalize (stepG P Γ dr ops o S).2 = S' at h
    split at h
    · rename_i t _
      split at h
      · split at h
        · rename_i b hb
          obtain ⟨h1, h2⟩ := h
          cases b
          · have := h2 rfl
            rw [upd_self hb] at this
            exact V_W0 hL' this
          · have := h1 rfl
            rw [upd_self hb] at this
            exact V_W0 hL' this
        · exact V_W0 hL' h
      · exact V_W0 hL' h
    · exact V_W0 hL' h
theorem V_all {srcs : List Nat} {dr : Bool} {ops : Array Oper} {S : St} {K : St → Prop} (h : V P Γ srcs dr ops ops.toList S K) : W0 P Γ dr ops (List.range ops.size) S K := by
  have := V_W0 (k := 0) (by simp) h
  rw [List.range_eq_range']
  simpa using this

/-! ### The text's order -/
section
variable {B : Base} {n : Nat}
/-- Ways out, at abstract states. -/
def lift (B : Base) (n : Nat) (Q : Exit → St → Prop) : Exit → Act → World → Prop
  | .normal, a, w => ∃ S μ fp N, R B n S [] [] a w μ fp N ∧ Q .normal S
  | .exit id, a, w => ∃ S μ fp N, R B n S [] [] a w μ fp N ∧ Q (.exit id) S
  | .ret, a, w => ∃ S μ fp N, R B n S [] [] a w μ fp N ∧ Q .ret S
  | _, _, _ => False
def dstsOk (n : Nat) (ops : Array Oper) : Bool := ops.toList.all fun o => match o.dst with
  | some t => decide (t < n)
  | none => true
theorem dstsOk_spec {ops : Array Oper} (h : dstsOk n ops = true) : ∀ (j : Nat) oj t, ops[j]? = some oj → oj.dst = some t → t < n := by
  intro j oj t hj ht
  unfold dstsOk at h
  rw [List.all_eq_true] at h
  have := h oj (by rw [← Array.getElem?_toList] at hj; exact List.mem_of_getElem? hj)
  rw [ht] at this
  simpa using this
theorem W0_wpOps (hΓ : ∀ f, ConOk P f (Γ f)) {dr : Bool} {ops : Array Oper} (hd : dstsOk n ops = true) {Q : Exit → St → Prop} : ∀ {L : List Nat} {S : St} {a : Act} {w : World} {μ : Nat → Nat} {fp : Root → List Nat} {N : Nat}, R B n S [] [] a w μ fp N →
    W0 P Γ dr ops L S (Q .normal) → wpOps P ops (lift B n Q) L a w
  | [], S, a, w, μ, fp, N, h, hw => ⟨S, μ, fp, N, h, hw⟩
  | i :: L, S, a, w, μ, fp, N, h, hw => by
    rw [wpOps_cons]
    simp only [W0] at hw
    cases ho : ops[i]? with
    | none =>
      rw [ho] at hw
      unfold wpOp
      rw [ho]
      exact W0_wpOps hΓ hd h hw
    | some o =>
      rw [ho] at hw
      exact wpOp_stepG hΓ ho h hw.1 (dstsOk_spec hd) fun a' w' μ' fp' N' h' => W0_wpOps hΓ hd h' hw.2
/-- The weakest precondition over abstract states. -/
def AW (P : Program) (B : Base) (n : Nat) (c : Code) (Q : Exit → St → Prop) (S : St) : Prop :=
  ∀ (a : Act) (w : World) (μ : Nat → Nat) (fp : Root → List Nat) (N : Nat), R B n S [] [] a w μ fp N → c.wp P (lift B n Q) a w
theorem AW_region (hΓ : ∀ f, ConOk P f (Γ f)) {id : Nat} {ops : Array Oper} {Q : Exit → St → Prop} {S : St} (srcs : List Nat) (hd : dstsOk n ops = true) (h : V P Γ srcs false ops ops.toList S (Q .normal)) : AW P B n (.region id ops false) Q S :=
  fun a w μ fp N hR => wp_region (W0_wpOps hΓ hd hR (V_all h))

/-! ### A drawn order -/
def isPure : Con → Bool
  | .pure _ => true
  | .ext _ => true
  | _ => false
/-- 0: not of memory; 1: reads named blocks; 2: writes them. -/
def kindO (Γ : FuncId → Con) (o : Oper) : Nat :=
  match o.op with
  | .load .. => 1
  | .store .. => 2
  | .call c => match c.callee with
    | .builtin .len => 0
    | .builtin .append => 1
    | .value (.func f) => if isPure (Γ f) then 1 else 2
    | _ => 2
  | _ => 0
def tmpsOf (o : Oper) : List Nat := o.op.operands.toList.filterMap fun | .tmp t => some t | _ => none
end
end
end Go.Proofs.Ytlbbhkpjjciaiaa.Vm

