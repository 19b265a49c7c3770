/-
  Marks of traces; boxes of two slices get names. No conditions.
-/
import Derived.Test.YtiilmjojffjhlaaDoorG1
namespace Go.Proofs.YtiilmjojffjhlaaDoor.Vm
open Go
set_option linter.unusedVariables false
set_option linter.unusedSimpArgs false
set_option maxRecDepth 200000

section
variable {P:Program} {B:Base} {n:Nat} {c:Code} {Q:Exit → St → Prop} {S:St}
theorem AW_rebox (t:Nat) {ds es:List D} (hT:S.T t = .box ds) (he:∀ (μ:Nat → Nat) (I:Nat → Prop) (w:World) (vs:List Value) (f:List Nat),RepL μ I w ds vs f → RepL μ I w es vs f) (hb:∀ N,bndL N ds → bndL N es)
    (h:AW P B n c Q ⟨upd S.T t (.box es),S.H⟩):AW P B n c Q S:=fun a w μ fp N hR=>by
  obtain ⟨fp1,h1⟩:=hR.grab t
  rw [hT,List.nil_append,List.nil_append] at h1
  have h2:R B n ⟨grab S.T t,S.H⟩ [.box es] [a.tmps.getD t undef] a w μ fp1 N:=by
    have hb1:=h1.bg
    simp only [RepL,Rep] at hb1 ⊢
    obtain ⟨v,vs',f1,f2,e1,e2,⟨b,cells,f,q1,q2,q3,q4⟩,e3⟩:=hb1
    refine h1.rebag' ?_ (by have:=h1.bB;simp only [bndL,bnd] at this ⊢;exact ⟨hb N this.1,trivial⟩)
    simp only [RepL,Rep]
    exact ⟨v,vs',f1,f2,e1,e2,⟨b,cells,f,q1,q2,he _ _ _ _ _ q3,q4⟩,e3⟩
  obtain ⟨fp3,h3⟩:=h2.putback
  have e:upd (grab S.T t) t (.box es) = upd S.T t (.box es):=by
    funext y
    by_cases ey:y = t
    · subst ey;rw [Qe,Qe]
    · rw [Qc ey,Qc ey]
      simp only [grab]
      split
      · rw [Qc ey]
      · rfl
  rw [e] at h3
  exact h a w μ fp3 N h3
theorem rep_nilfr {μ:Nat → Nat} {I:Nat → Prop} {w:World} {v:Value} {f:List Nat} (h:Rep μ I w .nil v f):Rep μ I w (.fr 1 0 []) v f:=by
  simp only [Rep] at h ⊢
  exact ⟨Nat.zero_le _,by simp,.inl ⟨trivial,h.1,h.2⟩⟩
end

def heldL (k:Int) (a b:List Int):Int:=if heldI k a < 0 then -1 else if heldI (heldI k a) b < 0 then -1 else heldI (heldI k a) b
@[go_sem] theorem heldL_marks (k:Int) (n m:Nat) (h:0 ≤ k):heldL k (marks k n) (marks (k + n) m) = k + n + m:=by
  rw [heldL,zabl,if_neg (by omega),zabl,if_neg (by omega)]
@[go_sem] theorem heldL_nn (k:Int) (h:0 ≤ k):heldL k [] [] = k:=by rw [heldL,zacu,if_neg (by omega),zacu,if_neg (by omega)]
@[go_sem] theorem heldL_nm (k:Int) (m:Nat) (h:0 ≤ k):heldL k [] (marks k m) = k + m:=by rw [heldL,zacu,if_neg (by omega),zabl,if_neg (by omega)]
@[go_sem] theorem cat_take_app1c {α:Type} {f:α → List D} [Wide f 1] (xs:List α) (ys:List D) {n:Nat} (h:n = xs.length):(cat f xs ++ ys).take n = cat f xs:=by subst h;exact cat_take_app1 xs ys
@[go_sem] theorem cat_drop_app1c {α:Type} {f:α → List D} [Wide f 1] (xs:List α) (ys:List D) {n:Nat} (h:n = xs.length):(cat f xs ++ ys).drop n = ys:=by subst h;exact cat_drop_app1 xs ys
attribute [go_sem] zabk
end Go.Proofs.YtiilmjojffjhlaaDoor.Vm

