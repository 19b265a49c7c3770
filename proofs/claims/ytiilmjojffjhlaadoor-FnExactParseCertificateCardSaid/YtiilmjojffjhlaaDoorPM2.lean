/-
  Certificates in the machine: boxes of one slice; equality, marks. No conditions.
-/
import Derived.Test.YtiilmjojffjhlaaDoorPM1
namespace Go.Proofs.YtiilmjojffjhlaaDoor.Vm
open Go
open List renaming getD_eq_getElem?_getD → zg,drop_one → zd
noncomputable section
set_option linter.unusedVariables false
set_option linter.unusedSimpArgs false
set_option maxRecDepth 200000

section
variable {P:Program} {B:Base} {n:Nat} {c:Code} {Q:Exit → St → Prop} {S:St}
theorem AW_boxNil (t:Nat) (hT:S.T t = .box [.nil]) (h:AW P B n c Q ⟨upd S.T t (.box [.fr 1 0 []]),S.H⟩):AW P B n c Q S :=
  AW_rebox t hT (fun μ I w vs f hr=>by
    simp only [RepL] at hr ⊢
    obtain ⟨v,vs',f1,f2,e1,e2,r1,r2⟩:=hr
    exact ⟨v,vs',f1,f2,e1,e2,rep_nilfr r1,r2⟩) (fun N hb=>by simp only [bndL,bnd] at hb ⊢;exact ⟨trivial,hb.2⟩) h
theorem AW_box1 (t:Nat) {m1:Nat} {c1:List D} (hT:S.T t = .box [.fr 1 m1 c1])
    (h:∀ p x k1 cp1,S.H p = none → S.H x = none → ¬ p = x → m1 ≤ cp1 → cp1 * 1 ≤ m1 * 1 + k1 →
      AW P B n c Q ⟨upd S.T t (.ptr p 0),upd (upd S.H p (some [.sl x 1 0 m1 cp1])) x (some (c1 ++ List.replicate k1 .any))⟩):AW P B n c Q S:=by
  refine zacz t hT fun p hp=>?_
  refine AW_matCell p 0 (all:=[.fr 1 m1 c1]) (Qe ..) rfl fun x cp1 k1 hx hc1 hd1=>?_
  have hxp:¬ p = x:=by
    intro e;subst e;dsimp only at hx;rw [Qe] at hx;cases hx
  have hx0:S.H x = none:=by dsimp only at hx;rw [Qc (fun e=>hxp e.symm)] at hx;exact hx
  have:=h p x k1 cp1 hp hx0 hxp hc1 hd1
  have e:upd (upd (upd S.H p (some [.fr 1 m1 c1])) p (some ([D.fr 1 m1 c1].set 0 (.sl x 1 0 m1 cp1)))) x (some (c1 ++ List.replicate k1 .any))
      = upd (upd S.H p (some [.sl x 1 0 m1 cp1])) x (some (c1 ++ List.replicate k1 .any)):=by
    funext z
    by_cases e1:z = x
    · subst e1;rw [Qe,Qe]
    · by_cases e2:z = p
      · subst e2;rw [Qc e1,Qe,Qc e1,Qe];rfl
      · rw [Qc e1,Qc e2,Qc e2,Qc e1,Qc e2]
  dsimp only at this ⊢
  rw [e]
  exact this
theorem AW_own1 (t:Nat) {x m1 cp:Nat} {X:List D} (hT:S.T t = .box [.sl x 1 0 m1 cp]) (hx:S.H x = some X) (h1:m1 ≤ X.length) (h2:cp ≤ X.length)
    (h:∀ r,S.H r = none → AW P B n c Q ⟨upd S.T t (.ptr r 0),upd (upd S.H x none) r (some [.fr 1 m1 (X.take m1)])⟩):AW P B n c Q S:=by
  refine zacz t hT fun r hr=>?_
  have rx:¬ r = x:=by rintro rfl;rw [hx] at hr;cases hr
  refine AW_unmatCell r 0 (b':=x) (sz:=1) (m:=m1) (cp:=cp) (all:=[.sl x 1 0 m1 cp]) (cs:=X) (Qe ..) rfl rx (by dsimp only;rw [Qc (Ne.symm rx),hx]) (by omega) (by omega) (by omega) ?_
  have:=h r hr
  have e:upd (upd (upd S.H r (some [.sl x 1 0 m1 cp])) x none) r (some ([D.sl x 1 0 m1 cp].set 0 (.fr 1 m1 (X.take (m1 * 1))))) = upd (upd S.H x none) r (some [.fr 1 m1 (X.take m1)]):=by
    funext z
    by_cases e0:z = r
    · subst e0;rw [Qe,Qe,Nat.mul_one];rfl
    · by_cases e2:z = x
      · subst e2;rw [Qc e0,Qe,Qc e0,Qe]
      · rw [Qc e0,Qc e2,Qc e0,Qc e0,Qc e2]
  dsimp only at this ⊢
  rw [e]
  exact this
end

@[go_sem] theorem mk11c (x:D):makeD [x] 1 = [x]:=by rw [makeD_one];rfl
@[go_sem] def Γpc0:FuncId → Con:=Γg8
theorem zada:∀ g,ConOk Tryd.prog g (Γpc0 g):=Γg8_ok

theorem eqCert_pure (a:List Int) (b:List Int)  : Pure Tryd.prog 6 [.st [li cI a],.st [li cI b]] (.bool (decide (a = b))):=by
  refine Pure.of_walk Tryd.func6 rfl (by simp [Tryd.f6]) (by simp [-zd,go_sem]) fun B hK=>?_
  (repeat' (first
 | refine Xe ?_
 | refine Qd (id:=0) zada [] (by kernel_rfl) ?_;simp [-zg,-zd,↓Qb,↓Qa,go_sem];try (refine zaed hK 2 ?_;simp [go_sem];refine zaed hK 3 ?_;simp [go_sem])
 | refine Qd (id:=1) zada [] (by kernel_rfl) ?_;simp [-zg,-zd,↓Qb,↓Qa,go_sem]
 | refine Qd (id:=2) zada [] (by kernel_rfl) ?_;simp [-zg,-zd,↓Qb,↓Qa,go_sem]
 | refine Qd (id:=3) zada [] (by kernel_rfl) ?_;simp [-zg,-zd,↓Qb,↓Qa,go_sem]
 | refine Qm (c:=.tmp 10) ?_;simp [-zg,-zd,↓Qb,↓Qa,go_sem];try first | (refine ⟨?_,?_⟩ <;> refine zA ?_) | (refine ⟨fun c10=>?_,fun c10=>?_⟩ <;> (try simp [B_iff,B_not] at c10))
 | (refine Qq ?_)
 | (refine Xd ?_;simp [-zg,-zd,↓Qb,↓Qa,go_sem])
 | (refine Xc ?_;simp [-zg,-zd,↓Qb,↓Qa,go_sem])
 | (refine Xf ?_;simp [-zg,-zd,↓Qb,↓Qa,go_sem,Tryd.results6])
 | (intro hx;refine zA ?_)
 | (refine ⟨?_,?_⟩ <;> refine zA ?_)
 | (intro hx;constructor <;> intro hs)
 | (constructor <;> intro hs)
 | (refine ⟨?_,fun hs=>?_⟩;refine zA ?_)
 | (refine ⟨fun hs=>?_,?_⟩;rotate_left;refine zA ?_;rotate_left)))
  all_goals (first
 | (simp_all;done)
 | (intros;simp_all;done)
 | skip)
@[go_sem] def zabt:Con:=.pure fun
  | [.st [.list n_a c_a],.st [.list n_b c_b]]=>((Is cI n_a c_a) ∧ (Is cI n_b c_b),.bool (decide ((de cI c_a) = (de cI c_b))))
  | _=>(False,.any)
theorem zaen:ConOk Tryd.prog 6 zabt:=by
  refine ⟨Qz Tryd.func6 (by decide) rfl,fun args h=>?_⟩
  revert h
  dsimp only
  split
  · intro h
    obtain ⟨⟨a,rfl,rfl⟩,⟨b,rfl,rfl⟩⟩:=h
    try simp only [Xt] at *
    exact ⟨eqCert_pure a b,by simp [go_sem]⟩
  · intro h
    exact h.elim
@[go_sem] def Γpc1:FuncId → Con:=ext Γpc0 6 zabt
theorem Γpc1_ok:∀ g,ConOk Tryd.prog g (Γpc1 g):=Xn zada zaen

theorem markC_spec (a:List Int) (k:Int) (b1 c1:Nat) (j1:List D) (H:Hp) (h1:H b1 = some (cat cI a ++ j1)) (h0:0 ≤ k) (hk:k + a.length ≤ 1099511627776) :
    Spec Tryd.prog 7 [.st [.sl b1 1 0 a.length c1],.int .i64 k] H (.int .i64 (k + a.length)) (upd H b1 (some (cat cI (marks k a.length) ++ j1))):=by
  refine Spec.of_walk Tryd.func7 rfl (by simp [Tryd.f7]) fun B=>?_
  (repeat' (first
 | refine Xe ?_
 | refine Qd (id:=0) Γpc1_ok [] (by kernel_rfl) ?_;simp [-zg,-zd,↓Qb,↓Qa,go_sem];try (refine zacz 2 rfl fun b0 hb0=>?_;have n1:¬ b1 = b0:=(by rintro rfl;dsimp only at hb0;rw [h1] at hb0;cases hb0))
 | refine Qd (id:=1) Γpc1_ok [] (by kernel_rfl) ?_;simp [-zg,-zd,↓Qb,↓Qa,go_sem,n1,h1,h0,hk]
 | refine Qd (id:=2) Γpc1_ok [] (by kernel_rfl) ?_;simp [-zg,-zd,↓Qb,↓Qa,go_sem]
 | (refine Qq ?_)
 | (refine Xd ?_;simp [-zg,-zd,↓Qb,↓Qa,go_sem])
 | (refine Xc ?_;simp [-zg,-zd,↓Qb,↓Qa,go_sem])
 | (refine Xf ?_;simp [-zg,-zd,↓Qb,↓Qa,go_sem,Tryd.results7])
 | (intro hx;refine zA ?_)
 | (refine ⟨?_,?_⟩ <;> refine zA ?_)
 | (intro hx;constructor <;> intro hs)
 | (constructor <;> intro hs)
 | (refine ⟨?_,fun hs=>?_⟩;refine zA ?_)
 | (refine ⟨fun hs=>?_,?_⟩;rotate_left;refine zA ?_;rotate_left)))
  all_goals (first
 | (intro b' cs' h;dsimp only at hb0;by_cases e1:b' = b1 <;> by_cases e0:b' = b0 <;> simp_all)
 | skip)
@[go_sem] def markCC:Con:=.gen fun args H=>match args with
  | [.st [.sl b1 1 0 n _],.int .i64 k]=>match H b1 with
    | some a1=>(n ≤ a1.length ∧ Is cI n (a1.take n) ∧ 0 ≤ k ∧ k + n ≤ 1099511627776,.int .i64 (k + n),upd H b1 (some (cat cI (marks k n) ++ a1.drop n)))
    | _=>(False,.any,H)
  | _=>(False,.any,H)
theorem markCC_ok:ConOk Tryd.prog 7 markCC:=by
  refine ⟨Qz Tryd.func7 (by decide) rfl,fun args H h=>?_⟩
  revert h
  dsimp only
  split
  · rename_i b1 n c1 k
    split
    · rename_i a1 hH1
      rintro ⟨g1,⟨xs,hn,he⟩,g5,g6⟩
      subst hn
      have e1:a1 = cat cI xs ++ a1.drop xs.length:=by rw [← he,List.take_append_drop]
      rw [e1] at hH1
      exact markC_spec xs k b1 c1 _ H hH1 g5 g6
    · intro h;exact h.elim
  · intro h
    exact h.elim
@[go_sem] def Γpc2:FuncId → Con:=ext Γpc1 7 markCC
theorem zaca:∀ g,ConOk Tryd.prog g (Γpc2 g):=Xn Γpc1_ok markCC_ok

def heldC (k:Int) (a:List Int):Int:=if heldI k a < 0 then -1 else heldI k a
@[go_sem] theorem heldC_marks (k:Int) (n:Nat) (h:0 ≤ k):heldC k (marks k n) = k + n:=by
  rw [heldC,zabl,if_neg (by omega)]
@[go_sem] theorem heldC_nil (k:Int) (h:0 ≤ k):heldC k [] = k:=by rw [heldC,zacu,if_neg (by omega)]

theorem heldC_pure (a:List Int) (k:Int) (h0:0 ≤ k) (h1:k + a.length ≤ 1099511627776):Pure Tryd.prog 8 [.st [li cI a],.int .i64 k] (.int .i64 (heldC k a)):=by
  refine Pure.of_walk Tryd.func8 rfl (by simp [Tryd.f8]) (by simp [-zd,go_sem]) fun B hK=>?_
  (repeat' (first
 | refine Xe ?_
 | refine Qd (id:=0) zaca [] (by kernel_rfl) ?_;simp [-zg,-zd,↓Qb,↓Qa,go_sem];try (refine zaed hK 2 ?_;simp [go_sem])
 | refine Qd (id:=1) zaca [] (by kernel_rfl) ?_;simp [-zg,-zd,↓Qb,↓Qa,go_sem,h0,h1]
 | refine Qd (id:=2) zaca [] (by kernel_rfl) ?_;simp [-zg,-zd,↓Qb,↓Qa,go_sem]
 | refine Qd (id:=3) zaca [] (by kernel_rfl) ?_;simp [-zg,-zd,↓Qb,↓Qa,go_sem]
 | refine Qd (id:=4) zaca [] (by kernel_rfl) ?_;simp [-zg,-zd,↓Qb,↓Qa,go_sem]
 | refine Qm (c:=.tmp 10) ?_;simp [-zg,-zd,↓Qb,↓Qa,go_sem];try first | (refine ⟨?_,?_⟩ <;> refine zA ?_) | (refine ⟨fun c10=>?_,fun c10=>?_⟩ <;> (try simp [B_iff,B_not] at c10))
 | (refine Qq ?_)
 | (refine Xd ?_;simp [-zg,-zd,↓Qb,↓Qa,go_sem])
 | (refine Xc ?_;simp [-zg,-zd,↓Qb,↓Qa,go_sem])
 | (refine Xf ?_;simp [-zg,-zd,↓Qb,↓Qa,go_sem,Tryd.results8])
 | (intro hx;refine zA ?_)
 | (refine ⟨?_,?_⟩ <;> refine zA ?_)
 | (intro hx;constructor <;> intro hs)
 | (constructor <;> intro hs)
 | (refine ⟨?_,fun hs=>?_⟩;refine zA ?_)
 | (refine ⟨fun hs=>?_,?_⟩;rotate_left;refine zA ?_;rotate_left)))
  all_goals (first
 | (rw [heldC,if_pos (by assumption)])
 | (rw [heldC,if_neg (by omega)])
 | skip)
@[go_sem] def zacg:Con:=.pure fun
  | [.st [.list n_a c_a],.int .i64 k]=>((Is cI n_a c_a) ∧ (0 ≤ k) ∧ (k + (de cI c_a).length ≤ 1099511627776),.int .i64 (heldC k (de cI c_a)))
  | _=>(False,.any)
theorem heldC_pureC_ok:ConOk Tryd.prog 8 zacg:=by
  refine ⟨Qz Tryd.func8 (by decide) rfl,fun args h=>?_⟩
  revert h
  dsimp only
  split
  · intro h
    obtain ⟨⟨a,rfl,rfl⟩,h0,h1⟩:=h
    try simp only [Xt] at *
    exact ⟨heldC_pure a _ h0 h1,by simp [go_sem]⟩
  · intro h
    exact h.elim
@[go_sem] def Γpc3:FuncId → Con:=ext Γpc2 8 zacg
theorem Xq:∀ g,ConOk Tryd.prog g (Γpc3 g):=Xn zaca heldC_pureC_ok

end
end Go.Proofs.YtiilmjojffjhlaaDoor.Vm

