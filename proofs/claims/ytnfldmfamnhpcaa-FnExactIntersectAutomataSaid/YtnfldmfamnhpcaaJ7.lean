/-
  spec.l4Components, cycles and what is reached: plain. No conditions.
-/
import Derived.Test.YtnfldmfamnhpcaaJ5
namespace Go.Proofs.Ytnfldmfamnhpcaa.Vm
open Go
set_option linter.unusedVariables false
set_option linter.unusedSimpArgs false
set_option maxRecDepth 200000

def Cf (xs:List Int) (i k:Nat) (c:Int):Prop:=(c = -1 ∧ ∀ j,j < k → ¬ nth xs j = nth xs i) ∨ (0 ≤ c ∧ ∃ j,j < i ∧ nth xs j = nth xs i ∧ c = nth (named xs i) j)
theorem Cf.zero (xs:List Int) (i:Nat):Cf xs i 0 (-1):=.inl ⟨rfl,fun j hj=>by omega⟩
theorem Cf.new {xs:List Int} {i:Nat} {c:Int} (h:Cf xs i i c) (hc:c < 0) (hi:i < xs.length):named xs (i + 1) = named xs i ++ [((dist (xs.take i)).length:Int)] ∧ (dist (xs.take (i + 1))).length = (dist (xs.take i)).length + 1:=by
  rcases h with ⟨rfl,h⟩ | ⟨h,_⟩
  · obtain ⟨h1,h2⟩:=named_new hi h
    exact ⟨h1,by rw [h2];simp⟩
  · omega
theorem Cf.old {xs:List Int} {i k:Nat} {c:Int} (h:Cf xs i k c) (hc:¬ c < 0) (hi:i < xs.length):named xs (i + 1) = named xs i ++ [c] ∧ (dist (xs.take (i + 1))).length = (dist (xs.take i)).length:=by
  rcases h with ⟨rfl,h⟩ | ⟨_,j,h1,h2,h3⟩
  · omega
  · obtain ⟨g1,g2⟩:=named_old hi h1 h2
    exact ⟨by rw [g1,h3],by rw [g2]⟩
def Cyc (nx:List (List Int)) (x:Int):Prop:=∃ y,y ∈ nth nx x.toNat ∧ Rch nx y x
def SameN (nx my:List (List Int)):Prop:=nx.length = my.length ∧ ∀ i,i < nx.length → ∀ y,y ∈ nth nx i ↔ y ∈ nth my i
theorem SameN.symm {nx my:List (List Int)} (h:SameN nx my):SameN my nx:=⟨h.1.symm,fun i hi y=>(h.2 i (by rw [h.1];exact hi) y).symm⟩
def RchS (nx:List (List Int)) (ss:List Int) (x:Int):Prop:=∃ s,s ∈ ss ∧ Rch nx s x
noncomputable def rchL (nx:List (List Int)) (ss:List Int):List Bool:=(List.range nx.length).map fun i:Nat=>Vm.B (RchS nx ss (i:Int))
theorem rchL_len (nx:List (List Int)) (ss:List Int):(rchL nx ss).length = nx.length:=by simp [rchL]
theorem nth_rchL {nx:List (List Int)} {ss:List Int} {i:Nat} (h:i < nx.length):nth (rchL nx ss) i = Vm.B (RchS nx ss (i:Int)):=by
  rw [Qn (by rw [rchL_len];exact h)];simp [rchL]
def mkd (m:List Bool) (x:Int):Prop:=nth m x.toNat = true
def un (m:List Bool):Nat:=(m.filter (fun x=>!x)).length
theorem un_set:∀ {m:List Bool} {k:Nat},k < m.length → nth m k = false → un (m.set k true) + 1 = un m
  | [],k,h,_=>by simp at h
  | x :: P,0,h,hx=>by
    have:x = false:=hx
    subst this
    simp [un]
  | x :: P,k + 1,h,hx=>by
    have ih:=un_set (m:=P) (k:=k) (by simpa using h) hx
    unfold un at ih ⊢
    rw [List.set_cons_succ,List.filter_cons,List.filter_cons]
    split <;> (try simp only [List.length_cons]) <;> omega
theorem un_le (m:List Bool):un m ≤ m.length:=List.length_filter_le ..
theorem mk_set {nx:List (List Int)} {m:List Bool} {x y:Int} (hl:m.length = nx.length) (hx:Nd nx x) (hy:Nd nx y):mkd (m.set x.toNat true) y ↔ x = y ∨ mkd m y:=by
  obtain ⟨h1,h2⟩:=hx
  obtain ⟨h3,h4⟩:=hy
  unfold mkd
  by_cases e:x.toNat = y.toNat
  · have:x = y:=by omega
    subst this
    rw [zaaw (by omega)];simp
  · rw [zabs e]
    have:¬ x = y:=fun q=>e (by rw [q])
    simp [this]
end Go.Proofs.Ytnfldmfamnhpcaa.Vm

