/-
  Runs of automata over words without end: plain. No conditions.
-/
import Derived.Test.YtkjimmkemnmajaaK3
namespace Go.Proofs.Ytkjimmkemnmajaa.Vm
open Go
set_option linter.unusedVariables false
set_option linter.unusedSimpArgs false
set_option maxRecDepth 200000

def plc (a b:List Int):Nat → Nat
  | 0=>0
  | t + 1=>nxI a b (plc a b t)
def ltr (a b:List Int) (t:Nat):Int:=nth (a ++ b) (plc a b t)
def Run (es:List Tr4) (w:Nat → Int) (r:Nat → Int):Prop:=∀ t,∃ e,e ∈ es ∧ e.1 = r t ∧ e.2.2.2 = r (t + 1) ∧ tk (w t) e = true
def Oft (p:Nat → Prop):Prop:=∀ N,∃ t,N ≤ t ∧ p t
def SAcc (acc:List Bool) (ss:List Int) (es:List Tr4) (w:Nat → Int):Prop:=∃ r:Nat → Int,r 0 ∈ ss ∧ Run es w r ∧ Oft fun t=>nth acc (r t).toNat = true
theorem Oft.mono {p q:Nat → Prop} (h:Oft p) (k:∀ t,p t → q t):Oft q:=fun N=>by obtain ⟨t,h1,h2⟩:=h N;exact ⟨t,h1,k t h2⟩
theorem Oft.shift {p:Nat → Prop} (h:Oft p):Oft fun t=>p (t + 1):=fun N=>by
  obtain ⟨t,h1,h2⟩:=h (N + 1)
  exact ⟨t - 1,by omega,by show p (t - 1 + 1);rw [show t - 1 + 1 = t by omega];exact h2⟩
theorem Oft.back {p:Nat → Prop} (h:Oft fun t=>p (t + 1)):Oft p:=fun N=>by
  obtain ⟨t,h1,h2⟩:=h N
  exact ⟨t + 1,by omega,h2⟩
theorem Oft.pigeon {f:Nat → Nat}:∀ (M:Nat) {p:Nat → Prop},Oft p → (∀ t,p t → f t < M) → ∃ x,Oft fun t=>p t ∧ f t = x
  | 0,p,h,k=>by obtain ⟨t,_,h2⟩:=h 0;exact absurd (k t h2) (by omega)
  | M + 1,p,h,k=>by
    by_cases q:Oft fun t=>p t ∧ f t = M
    · exact ⟨M,q⟩
    · obtain ⟨N0,hN⟩:∃ N0,∀ t,N0 ≤ t → ¬ (p t ∧ f t = M):=by
        apply Classical.byContradiction
        intro h3
        apply q
        intro N
        apply Classical.byContradiction
        intro h4
        exact h3 ⟨N,fun t ht hp=>h4 ⟨t,ht,hp⟩⟩
      have h5:Oft fun t=>p t ∧ N0 ≤ t:=fun N=>by
        obtain ⟨t,h1,h2⟩:=h (max N N0)
        exact ⟨t,by omega,h2,by omega⟩
      obtain ⟨x,hx⟩:=Oft.pigeon (f:=f) M (p:=fun t=>p t ∧ N0 ≤ t) h5 (fun t ht=>by
        have h6:=k t ht.1
        have h7:=hN t ht.2
        have:¬ f t = M:=fun e=>h7 ⟨ht.1,e⟩
        omega)
      exact ⟨x,hx.mono fun t ht=>⟨ht.1.1,ht.2⟩⟩

def Rk (nx:List (List Int)) (x:Int):Nat → Int → Prop
  | 0,y=>y = x
  | k + 1,y=>∃ z,z ∈ nth nx y.toNat ∧ Rk nx x k z
theorem Rk.of {nx:List (List Int)} {x y:Int} (h:Rch nx y x):∃ k,Rk nx x k y:=by
  induction h with
  | refl=>exact ⟨0,rfl⟩
  | step e _ ih=>obtain ⟨k,hk⟩:=ih;exact ⟨k + 1,_,e,hk⟩
end Go.Proofs.Ytkjimmkemnmajaa.Vm

