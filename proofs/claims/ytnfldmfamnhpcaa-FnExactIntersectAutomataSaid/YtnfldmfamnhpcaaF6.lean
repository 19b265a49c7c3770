/-
  Lists joined; traces. No conditions.
-/
import Derived.Test.YtnfldmfamnhpcaaF5
namespace Go.Proofs.Ytnfldmfamnhpcaa.Vm
open Go
open List renaming getD_eq_getElem?_getD → zg,drop_one → zd
set_option linter.unusedVariables false
set_option linter.unusedSimpArgs false
set_option maxRecDepth 200000

theorem grow_spec (n:Int) (H:Hp) (h0:0 ≤ n) (h1:n ≤ 1048576):Spec Try.prog 103 [.nil,.int .i64 n] H (.fr 1 0 []) H:=by
  refine Spec.of_walk Try.func103 rfl (by simp [Try.f103]) fun B=>?_
  (repeat' (first
 | refine Qq ?_
 | refine Qc (id:=0) Vi [] (by kernel_rfl) ?_;simp [-zg,-zd,↓Qb,↓Qa,go_sem]
 | refine Qc (id:=1) Vi [] (by kernel_rfl) ?_;simp [-zg,-zd,↓Qb,↓Qa,go_sem]
 | refine Qc (id:=2) Vi [] (by kernel_rfl) ?_;simp [-zg,-zd,↓Qb,↓Qa,go_sem]
 | refine Qc (id:=3) Vi [] (by kernel_rfl) ?_;simp [-zg,-zd,↓Qb,↓Qa,go_sem,(by decide:IntKind.i64.wrap 0 = 0),Xm (x:=n) (by omega) (by omega)]
 | refine Qc (id:=4) Vi [] (by kernel_rfl) ?_;simp [-zg,-zd,↓Qb,↓Qa,go_sem]
 | refine Qc (id:=5) Vi [] (by kernel_rfl) ?_;simp [-zg,-zd,↓Qb,↓Qa,go_sem,(by omega:(1:Int) ≤ n),(by omega:n ≤ 9223372036854775807),(by omega:n.toNat * 8 ≤ 281474976710656),(by omega:0 ≤ n),(by omega:(0:Int) ≤ max n 0)]
 | (first | refine zade 0 1 rfl ?_ | skip);refine Qc (id:=6) Vi [] (by kernel_rfl) ?_;simp [-zg,-zd,↓Qb,↓Qa,go_sem]
 | refine Qd (c:=.tmp 6) ?_;simp [-zg,-zd,↓Qb,↓Qa,go_sem];try first | (refine ⟨?_,?_⟩ <;> refine zA ?_) | (refine ⟨fun c6=>?_,fun c6=>?_⟩ <;> (try simp [B_iff,B_not] at c6))
 | refine Qd (c:=.tmp 16) ?_;simp [-zg,-zd,↓Qb,↓Qa,go_sem];try first | (refine ⟨?_,?_⟩ <;> refine zA ?_) | (refine ⟨fun c16=>?_,fun c16=>?_⟩ <;> (try simp [B_iff,B_not] at c16))
 | (refine Qf ?_)
 | (refine Qp ?_;simp [-zg,-zd,↓Qb,↓Qa,go_sem])
 | (refine Qo ?_;simp [-zg,-zd,↓Qb,↓Qa,go_sem])
 | (refine Qr ?_;simp [-zg,-zd,↓Qb,↓Qa,go_sem,Try.results103])
 | (intro hx;refine zA ?_)
 | (refine ⟨?_,?_⟩ <;> refine zA ?_)
 | (intro hx;constructor <;> intro hs)
 | (constructor <;> intro hs)
 | (refine ⟨?_,fun hs=>?_⟩;refine zA ?_)
 | (refine ⟨fun hs=>?_,?_⟩;rotate_left;refine zA ?_;rotate_left)
 | (exfalso;omega)))
def growC:Con:=.gen fun args H=>match args with
  | [.nil,.int .i64 n]=>(0 ≤ n ∧ n ≤ 1048576,.fr 1 0 [],H)
  | _=>(False,.any,H)
attribute [go_sem] growC
theorem growC_ok:ConOk Try.prog 103 growC:=by
  refine ⟨Qs Try.func103 (by decide) rfl,fun args H h=>?_⟩
  revert h
  dsimp only
  split
  · rintro ⟨h0,h1⟩
    exact grow_spec _ H h0 h1
  · intro h
    exact h.elim
noncomputable def Γ46:FuncId → Con:=ext Γ45 103 growC
attribute [go_sem] Γ46
theorem Γ46_ok:∀ g,ConOk Try.prog g (Γ46 g):=Qt Vi growC_ok

@[go_sem] theorem makeD_two (x:D):makeD [x] 2 = [x,x]:=by rw [Ji];rfl
@[go_sem] theorem is_two (a b:List Int) {n m:Nat} (h1:n = a.length) (h2:m = b.length):Is cL 2 [.list n (cat cI a),.list m (cat cI b)] = True:=by subst h1 h2;exact eq_true ⟨[a,b],rfl,rfl⟩
@[go_sem] theorem de_two (a b:List Int) {n m:Nat} (h1:n = a.length) (h2:m = b.length):de cL [.list n (cat cI a),.list m (cat cI b)] = [a,b]:=by
  subst h1 h2
  have:=Qv (f:=cL) [a,b];exact this
noncomputable def Γ47:FuncId → Con:=Γ46
attribute [go_sem] Γ47
theorem Γ47_ok:∀ g,ConOk Try.prog g (Γ47 g):=Γ46_ok

noncomputable def Γ48:FuncId → Con:=Γ47
attribute [go_sem] Γ48
theorem Γ48_ok:∀ g,ConOk Try.prog g (Γ48 g):=Γ47_ok

end Go.Proofs.Ytnfldmfamnhpcaa.Vm

