import Derived.Test.YtkjimmkemnmajaaN9
/-
  Lassos behind the automata's functions; the small functions of Accepts. No conditions.
-/
namespace Go.Proofs.Ytkjimmkemnmajaa.Vm
open Go
open List renaming getD_eq_getElem?_getD → zg,drop_one → zd
set_option linter.unusedVariables false
set_option linter.unusedSimpArgs false
set_option maxRecDepth 200000

noncomputable def Γk1:FuncId → Con:=Γn13
attribute [go_sem] Γk1
theorem Γk1_ok:∀ g,ConOk Try.prog g (Γk1 g):=Vi

noncomputable def Γk2:FuncId → Con:=Γk1
attribute [go_sem] Γk2
theorem zaiw:∀ g,ConOk Try.prog g (Γk2 g):=Γk1_ok

theorem eqLasso_pure (a:List Int) (b:List Int) (c:List Int) (d:List Int)  : Pure Try.prog 19 [.st [li cI a,li cI b],.st [li cI c,li cI d]] (.bool (decide (a = c) && decide (b = d))):=by
  refine Pure.of_walk Try.func19 rfl (by simp [Try.f19]) (by simp [-zd,go_sem]) fun B hK=>?_
  (repeat' (first
 | refine Qq ?_
 | refine Qc (id:=0) zaiw [] (by kernel_rfl) ?_;simp [-zg,-zd,↓Qb,↓Qa,go_sem];try (refine Xa hK 2 ?_;simp [go_sem];refine Xa hK 3 ?_;simp [go_sem])
 | refine Qc (id:=1) zaiw [] (by kernel_rfl) ?_;simp [-zg,-zd,↓Qb,↓Qa,go_sem]
 | refine Qc (id:=2) zaiw [] (by kernel_rfl) ?_;simp [-zg,-zd,↓Qb,↓Qa,go_sem]
 | refine Qc (id:=3) zaiw [] (by kernel_rfl) ?_;simp [-zg,-zd,↓Qb,↓Qa,go_sem]
 | refine Qc (id:=4) zaiw [] (by kernel_rfl) ?_;simp [-zg,-zd,↓Qb,↓Qa,go_sem]
 | refine Qc (id:=5) zaiw [] (by kernel_rfl) ?_;simp [-zg,-zd,↓Qb,↓Qa,go_sem]
 | refine Qd (c:=.tmp 10) ?_;simp [-zg,-zd,↓Qb,↓Qa,go_sem];try first | (refine ⟨?_,?_⟩ <;> refine zA ?_) | (refine ⟨fun c10=>?_,fun c10=>?_⟩ <;> (try simp [B_iff,B_not] at c10))
 | refine Qd (c:=.tmp 16) ?_;simp [-zg,-zd,↓Qb,↓Qa,go_sem];try first | (refine ⟨?_,?_⟩ <;> refine zA ?_) | (refine ⟨fun c16=>?_,fun c16=>?_⟩ <;> (try simp [B_iff,B_not] at c16))
 | (refine Qf ?_)
 | (refine Qo ?_;simp [-zg,-zd,↓Qb,↓Qa,go_sem])
 | (refine Qn ?_;simp [-zg,-zd,↓Qb,↓Qa,go_sem])
 | (refine Qr ?_;simp [-zg,-zd,↓Qb,↓Qa,go_sem,Try.results19])
 | (intro hx;refine zA ?_)
 | (refine ⟨?_,?_⟩ <;> refine zA ?_)
 | (intro hx;constructor <;> intro hs)
 | (constructor <;> intro hs)
 | (refine ⟨?_,fun hs=>?_⟩;refine zA ?_)
 | (refine ⟨fun hs=>?_,?_⟩;rotate_left;refine zA ?_;rotate_left)))
  all_goals (first
 | (simp_all;done)
 | (intros;simp_all;done)
 | skip)
noncomputable def zacg:Con:=.pure fun
  | [.st [.list n_a c_a,.list n_b c_b],.st [.list n_c c_c,.list n_d c_d]]=>((Is cI n_a c_a) ∧ (Is cI n_b c_b) ∧ (Is cI n_c c_c) ∧ (Is cI n_d c_d),.bool (decide ((de cI c_a) = (de cI c_c)) && decide ((de cI c_b) = (de cI c_d))))
  | _=>(False,.any)
attribute [go_sem] zacg
theorem zahn:ConOk Try.prog 19 zacg:=by
  refine ⟨Qs Try.func19 (by decide) rfl,fun args h=>?_⟩
  revert h
  dsimp only
  split
  · intro h
    obtain ⟨⟨a,rfl,rfl⟩,⟨b,rfl,rfl⟩,⟨c,rfl,rfl⟩,⟨d,rfl,rfl⟩⟩:=h
    try simp only [Qw] at *
    exact ⟨eqLasso_pure a b c d,by simp [go_sem]⟩
  · intro h
    exact h.elim
def LetOk (xs:List Int):Prop:=∀ i,i < xs.length → 0 ≤ nth xs i ∧ nth xs i ≤ 7
def LasOk (a b:List Int):Prop:=LetOk a ∧ LetOk b ∧ a.length ≤ 80 ∧ 1 ≤ b.length ∧ b.length ≤ 80
def nxI (a b:List Int) (i:Nat):Nat:=if i + 1 = a.length + b.length then a.length else i + 1
def tk (x:Int) (e:Tr4):Bool:=decide (bitsD .and .i64 x e.2.1 = e.2.2.1)

def aStep (n:Nat) (x:Int) (P Q:Nat) (r:List (List Int)) (e:Tr4):List (List Int):=if tk x e = true then addE r ((P:Int) + e.1) ((Q:Int) + e.2.2.2) else r
structure AR (N M:Nat) (r:List (List Int)):Prop where
  len:r.length = N
  rng:∀ i,i < N → ∀ y,y ∈ nth r i → 0 ≤ y ∧ y < N
  row:∀ i,i < N → (nth r i).length ≤ M
theorem AR.start (N:Nat):AR N 0 (List.replicate N []):=by
  have h:∀ i,i < N → nth (List.replicate N ([]:List Int)) i = []:=fun i hi=>by rw [Qm (by simpa using hi)];simp
  exact ⟨by simp,fun i hi y hy=>(by rw [h i hi] at hy;cases hy),fun i hi=>(by rw [h i hi];simp)⟩
theorem AR.step {N M n:Nat} {r:List (List Int)} (h:AR N M r) {x:Int} {P Q:Nat} {e:Tr4} (h1:0 ≤ e.1) (h2:(P:Int) + e.1 < N) (h3:0 ≤ e.2.2.2) (h4:(Q:Int) + e.2.2.2 < N):AR N (M + 1) (aStep n x P Q r e):=by
  unfold aStep
  split
  · have hf:((P:Int) + e.1).toNat < r.length:=by rw [h.len];omega
    refine ⟨by rw [addE_len,h.len],fun i hi y hy=>?_,fun i hi=>?_⟩
    · rw [mem_addE hf] at hy
      rcases hy with q | ⟨_,rfl⟩
      · exact h.rng i hi y q
      · omega
    · rw [zagz hf]
      have:=h.row i hi
      split
      · simp;omega
      · omega
  · exact ⟨h.len,h.rng,fun i hi=>by have:=h.row i hi;omega⟩

theorem AutOk.starts {a:List Int} {n:Nat} {c:List Tr4} (h:AutOk a n c) {N:Nat} (hN:n ≤ N):Starts N a:=by
  have h1:=h.2.2.1
  have hge:=zaea (a:=a) (k:=a.length) (fun i hi=>(h1 i hi).1)
  have hlt:∀ i j,i < j → j < a.length → nth a i < nth a j:=by
    intro i j hij
    induction j with
    | zero=>omega
    | succ j ih =>
      intro hj
      have h2:=(h1 (j + 1) hj).1
      simp only [ahead] at h2
      by_cases e:i = j
      · subst e;exact h2
      · have:=ih (by omega) (by omega);omega
  refine ⟨fun x hx=>?_,?_⟩
  · obtain ⟨i,hi,rfl⟩:=Jv hx
    have:=hge i hi
    have:=(h1 i hi).2
    omega
  · rw [List.nodup_iff_pairwise_ne,List.pairwise_iff_getElem]
    intro i j hi hj hij e
    have:=hlt i j hij hj
    rw [Qm hi,Qm hj] at this
    omega
end Go.Proofs.Ytkjimmkemnmajaa.Vm

