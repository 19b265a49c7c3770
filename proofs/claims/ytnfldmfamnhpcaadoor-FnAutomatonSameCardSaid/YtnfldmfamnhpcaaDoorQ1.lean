import Derived.Test.YtnfldmfamnhpcaaDoorF7
import Derived.Test.YtnfldmfamnhpcaaDoorVm15
/-
  Traces' kit; lists cloned; marks of lists. No conditions.
-/
namespace Go.Proofs.YtnfldmfamnhpcaaDoor.Vm
open Go
set_option linter.unusedVariables false
set_option linter.unusedSimpArgs false
set_option maxRecDepth 200000

noncomputable def Γg1:FuncId → Con:=Γ50
attribute [go_sem] Γg1
theorem Γg1_ok:∀ g,ConOk Tryd.prog g (Γg1 g):=Γ50_ok

noncomputable def Γg2:FuncId → Con:=Γg1
attribute [go_sem] Γg2
theorem Γg2_ok:∀ g,ConOk Tryd.prog g (Γg2 g):=Γg1_ok

noncomputable def Γg3:FuncId → Con:=Γg2
attribute [go_sem] Γg3
theorem Γg3_ok:∀ g,ConOk Tryd.prog g (Γg3 g):=Γg2_ok

noncomputable def Γg4:FuncId → Con:=Γg3
attribute [go_sem] Γg4
theorem Γg4_ok:∀ g,ConOk Tryd.prog g (Γg4 g):=Γg3_ok

@[go_sem] theorem cat_isEmpty {α:Type} {f:α → List D} {sz:Nat} [Wide f sz] (xs:List α):(cat f xs).isEmpty = xs.isEmpty:=by
  rw [Bool.eq_iff_iff,List.isEmpty_iff,List.isEmpty_iff]
  have:=cat_nil_iff (f:=f) xs
  rw [this]
noncomputable def Γg5:FuncId → Con:=Γg4
attribute [go_sem] Γg5
theorem Γg5_ok:∀ g,ConOk Tryd.prog g (Γg5 g):=Γg4_ok

noncomputable def Γg6:FuncId → Con:=Γg5
attribute [go_sem] Γg6
theorem Γg6_ok:∀ g,ConOk Tryd.prog g (Γg6 g):=Γg5_ok

def marks (k:Int) (n:Nat):List Int:=(List.range n).map fun (i:Nat)=>k + i
theorem zahn (k:Int) (n:Nat):(marks k n).length = n:=by simp [marks]
def mk (k:Int) (xs:List Int) (i:Nat):List Int:=marks k i ++ xs.drop i
@[go_sem] theorem cat_drop_app1 {α:Type} {f:α → List D} [Wide f 1] (xs:List α) (ys:List D):(cat f xs ++ ys).drop xs.length = ys:=by
  have:=Qy (f:=f) xs
  rw [Nat.mul_one] at this
  rw [← this,List.drop_left'];rfl

noncomputable def Γg7:FuncId → Con:=Γg6
attribute [go_sem] Γg7
theorem Γg7_ok:∀ g,ConOk Tryd.prog g (Γg7 g):=Γg6_ok

def heldI (k:Int) (xs:List Int):Int:=if xs = marks k xs.length then k + xs.length else -1
@[go_sem] theorem zagm (k:Int) (n:Nat):heldI k (marks k n) = k + n:=by simp [heldI,zahn]
@[go_sem] theorem heldI_nil (k:Int):heldI k [] = k:=by simp [heldI,marks]
noncomputable def Γg8:FuncId → Con:=Γg7
attribute [go_sem] Γg8
theorem Γg8_ok:∀ g,ConOk Tryd.prog g (Γg8 g):=Γg7_ok

section
variable {P:Program} {B:Base} {n:Nat} {c:Code} {Q:Exit → St → Prop} {S:St}
theorem AW_rebox (t:Nat) {ds es:List D} (hT:S.T t = .box ds) (he:∀ (μ:Nat → Nat) (I:Nat → Prop) (w:World) (vs:List Value) (f:List Nat),RepL μ I w ds vs f → RepL μ I w es vs f) (hb:∀ N,bndL N ds → bndL N es)
    (h:AW P B n c Q ⟨upd S.T t (.box es),S.H⟩):AW P B n c Q S:=fun a w μ fp N hR=>by
  obtain ⟨fp1,h1⟩:=hR.grab t
  rw [hT,List.nil_append,List.nil_append] at h1
  have h2:R B n ⟨grab S.T t,S.H⟩ [.box es] [a.tmps.getD t undef] a w μ fp1 N:=by
    have hb1:=h1.bg
    simp only [RepL,Rep] at hb1 ⊢
    obtain ⟨v,vs',f1,f2,e1,e2,⟨b,cells,f,q1,q2,q3,q4⟩,e3⟩:=hb1
    refine h1.rebag' ?_ (by have:=h1.bB;simp only [bndL,bnd] at this ⊢;exact ⟨hb N this.1,trivial⟩)
    simp only [RepL,Rep]
    exact ⟨v,vs',f1,f2,e1,e2,⟨b,cells,f,q1,q2,he _ _ _ _ _ q3,q4⟩,e3⟩
  obtain ⟨fp3,h3⟩:=h2.putback
  have e:upd (grab S.T t) t (.box es) = upd S.T t (.box es):=by
    funext y
    by_cases ey:y = t
    · subst ey;rw [Qi,Qi]
    · rw [Qf ey,Qf ey]
      simp only [grab]
      split
      · rw [Qf ey]
      · rfl
  rw [e] at h3
  exact h a w μ fp3 N h3
end

noncomputable def Γg9:FuncId → Con:=Γg8
attribute [go_sem] Γg9
theorem Γg9_ok:∀ g,ConOk Tryd.prog g (Γg9 g):=Γg8_ok

def heldL (k:Int) (a b:List Int):Int:=if heldI k a < 0 then -1 else if heldI (heldI k a) b < 0 then -1 else heldI (heldI k a) b
@[go_sem] theorem heldL_marks (k:Int) (n m:Nat) (h:0 ≤ k):heldL k (marks k n) (marks (k + n) m) = k + n + m:=by
  rw [heldL,zagm,if_neg (by omega),zagm,if_neg (by omega)]
@[go_sem] theorem heldL_nn (k:Int) (h:0 ≤ k):heldL k [] [] = k:=by rw [heldL,heldI_nil,if_neg (by omega),heldI_nil,if_neg (by omega)]
@[go_sem] theorem heldL_nm (k:Int) (m:Nat) (h:0 ≤ k):heldL k [] (marks k m) = k + m:=by rw [heldL,heldI_nil,if_neg (by omega),zagm,if_neg (by omega)]
noncomputable def Γg10:FuncId → Con:=Γg9
attribute [go_sem] Γg10
theorem Γg10_ok:∀ g,ConOk Tryd.prog g (Γg10 g):=Γg9_ok
@[go_sem] theorem cat_take_app1c {α:Type} {f:α → List D} [Wide f 1] (xs:List α) (ys:List D) {n:Nat} (h:n = xs.length):(cat f xs ++ ys).take n = cat f xs:=by subst h;exact zacs xs ys
@[go_sem] theorem cat_drop_app1c {α:Type} {f:α → List D} [Wide f 1] (xs:List α) (ys:List D) {n:Nat} (h:n = xs.length):(cat f xs ++ ys).drop n = ys:=by subst h;exact cat_drop_app1 xs ys
attribute [go_sem] zahn

def mkLL (k:Int):List (List Int) → List (List Int)
  | []=>[]
  | x :: xs=>marks k x.length :: mkLL (k + x.length) xs
def mkPP (k:Int):List Ints2 → List Ints2
  | []=>[]
  | x :: xs=>(marks k x.1.length,marks (k + x.1.length) x.2.length) :: mkPP (k + (x.1.length + x.2.length:Nat)) xs
@[go_sem] theorem mkLL_len:∀ (k:Int) (xs:List (List Int)),(mkLL k xs).length = xs.length
  | _,[]=>rfl
  | k,x :: xs=>by simp [mkLL,mkLL_len _ xs]
@[go_sem] theorem mkPP_len:∀ (k:Int) (xs:List Ints2),(mkPP k xs).length = xs.length
  | _,[]=>rfl
  | k,x :: xs=>by simp [mkPP,mkPP_len _ xs]
theorem nth_zero {α:Type} [Inhabited α] (x:α) (xs:List α):nth (x :: xs) 0 = x:=rfl
theorem nth_succ {α:Type} [Inhabited α] (x:α) (xs:List α) (i:Nat):nth (x :: xs) (i + 1) = nth xs i:=rfl
theorem zahl {α:Type} (m:α → Nat) (x:α) (xs:List α) (i:Nat):msum m (x :: xs) (i + 1) = m x + msum m xs i:=by simp [msum]
@[go_sem] theorem msum_mkLL:∀ (k:Int) (xs:List (List Int)) (i:Nat),msum mL (mkLL k xs) i = msum mL xs i
  | _,[],i=>rfl
  | k,x :: xs,0=>rfl
  | k,x :: xs,i + 1=>by rw [mkLL,zahl,zahl,msum_mkLL _ xs i];simp [mL,zahn]
@[go_sem] theorem msum_mkPP:∀ (k:Int) (xs:List Ints2) (i:Nat),msum mP (mkPP k xs) i = msum mP xs i
  | _,[],i=>rfl
  | k,x :: xs,0=>rfl
  | k,x :: xs,i + 1=>by rw [mkPP,zahl,zahl,msum_mkPP _ xs i];simp [mP,zahn]
section
variable {α:Type} {f:α → List D}
theorem cat_set1 [Wide f 1]:∀ {xs:List α} {i:Nat} {ys:List D} {x:α} {d:D},i < xs.length → f x = [d] → (cat f xs ++ ys).set i d = cat f (xs.set i x) ++ ys
  | [],i,ys,x,d,h,hx=>by simp at h
  | z :: xs,0,ys,x,d,h,hx=>by
    rw [Xj,List.set_cons_zero,Xj,hx]
    obtain ⟨e,he⟩:∃ e,f z = [e]:=List.length_eq_one_iff.1 (by have:=Qy (f:=f) [z];rw [Za] at this;simpa using this)
    rw [he];rfl
  | z :: xs,i + 1,ys,x,d,h,hx=>by
    rw [Xj,List.set_cons_succ,Xj]
    obtain ⟨e,he⟩:∃ e,f z = [e]:=List.length_eq_one_iff.1 (by have:=Qy (f:=f) [z];rw [Za] at this;simpa using this)
    rw [he,List.append_assoc,List.append_assoc]
    have:=cat_set1 (xs:=xs) (i:=i) (ys:=ys) (by simpa using h) hx
    simp [this]
end

end Go.Proofs.YtnfldmfamnhpcaaDoor.Vm

/-
  Marks of rows of lists, of rows of states, of graphs: contracts. No conditions.
-/
namespace Go.Proofs.YtnfldmfamnhpcaaDoor.Vm
open Go
set_option linter.unusedVariables false
set_option linter.unusedSimpArgs false
set_option maxRecDepth 200000

section
variable {α:Type} {f g:α → List D} {lv sz:Nat}
theorem catO_inj [Own f g lv] [Wide g sz] [Plain g] {xs ys:List α} (h:cat f xs = cat f ys):xs = ys:=by
  have h1:=congrArg (List.map dat) h
  rw [cat_dat (f:=f) (g:=g),cat_dat (f:=f) (g:=g)] at h1
  exact cat_inj h1
theorem isO_cat [Own f g lv] [Wide g sz] [Plain g] (n:Nat) (xs:List α):Is f n (cat f xs) ↔ n = xs.length :=
  ⟨fun ⟨ys,h,e⟩=>by rw [catO_inj (f:=f) (g:=g) e,h],fun h=>⟨xs,h,rfl⟩⟩
theorem deO_cat [Own f g lv] [Wide g sz] [Plain g] (xs:List α):de f (cat f xs) = xs:=by
  unfold de
  rw [dif_pos ⟨xs,rfl⟩]
  have:∃ ys:List α,cat f xs = cat f ys:=⟨xs,rfl⟩
  exact (catO_inj (f:=f) (g:=g) (Classical.choose_spec this)).symm
theorem cat_drop_app [Wide f sz] (xs:List α) (ys:List D):(cat f xs ++ ys).drop (xs.length * sz) = ys:=by
  rw [← Qy (f:=f),List.drop_left'];rfl
end
@[go_sem] theorem isO_oL (n:Nat) (xs:List (List Int)):Is oL n (cat oL xs) ↔ n = xs.length:=isO_cat n xs
@[go_sem] theorem isO_oP (n:Nat) (xs:List Ints2):Is oP n (cat oP xs) ↔ n = xs.length:=isO_cat n xs
@[go_sem] theorem deO_oL (xs:List (List Int)):de oL (cat oL xs) = xs:=deO_cat xs
@[go_sem] theorem deO_oP (xs:List Ints2):de oP (cat oP xs) = xs:=deO_cat xs
@[go_sem] theorem cat_drop_app_oP (xs:List Ints2) (ys:List D):(cat oP xs ++ ys).drop (xs.length * 2) = ys:=cat_drop_app xs ys
@[go_sem] theorem cat_take_app_oP (xs:List Ints2) (ys:List D):(cat oP xs ++ ys).take (xs.length * 2) = cat oP xs:=Js xs ys

noncomputable def Γg11:FuncId → Con:=Γg10
attribute [go_sem] Γg11
theorem Γg11_ok:∀ g,ConOk Tryd.prog g (Γg11 g):=Γg10_ok

noncomputable def Γg12:FuncId → Con:=Γg11
attribute [go_sem] Γg12
theorem Γg12_ok:∀ g,ConOk Tryd.prog g (Γg12 g):=Γg11_ok

noncomputable def Γg13:FuncId → Con:=Γg12
attribute [go_sem] Γg13
theorem Γg13_ok:∀ g,ConOk Tryd.prog g (Γg13 g):=Γg12_ok

@[go_sem] theorem makeD_1 (x:D):makeD [x] 1 = [x]:=by rw [Zs];rfl
def pickL (xs ys:List Int):List Int:=ys.map fun y=>nth xs y.toNat
@[go_sem] theorem pickL_len (xs ys:List Int):(pickL xs ys).length = ys.length:=by simp [pickL]
def Places (n:Nat) (ys:List Int):Prop:=∀ i,i < ys.length → 0 ≤ nth ys i ∧ nth ys i < n
theorem Places.at {n:Nat} {ys:List Int} (h:Places n ys) {i:Nat} (hi:i < ys.length):0 ≤ nth ys i ∧ nth ys i < n ∧ (nth ys i).toNat < n:=by
  obtain ⟨h1,h2⟩:=h i hi
  omega

noncomputable def Γg14:FuncId → Con:=Γg13
attribute [go_sem] Γg14
theorem Γg14_ok:∀ g,ConOk Tryd.prog g (Γg14 g):=Γg13_ok

noncomputable def Γg15:FuncId → Con:=Γg14
attribute [go_sem] Γg15
theorem Γg15_ok:∀ g,ConOk Tryd.prog g (Γg15 g):=Γg14_ok

noncomputable def Γg16:FuncId → Con:=Γg15
attribute [go_sem] Γg16
theorem Γg16_ok:∀ g,ConOk Tryd.prog g (Γg16 g):=Γg15_ok

noncomputable def Γg17:FuncId → Con:=Γg16
attribute [go_sem] Γg17
theorem Γg17_ok:∀ g,ConOk Tryd.prog g (Γg17 g):=Γg16_ok
end Go.Proofs.YtnfldmfamnhpcaaDoor.Vm

