import Derived.Test.YtmiimodggpjkmaaF7
import Derived.Test.YtmiimodggpjkmaaVm15
/-
  Traces' kit; lists cloned; marks of lists. No conditions.
-/
namespace Go.Proofs.Ytmiimodggpjkmaa.Vm
open Go
open Nat renaming sub_pos_of_lt → zsP
open List renaming getD_eq_getElem?_getD → zg,drop_one → zd,replicate → zrP
open Ne renaming symm → zS
noncomputable section
set_option linter.unusedVariables false
set_option linter.unusedSimpArgs false
set_option maxRecDepth 200000

@[go_sem] def Γg1:FuncId → Con:=Γ50
theorem Γg1_ok:∀ g,ConOk Try.prog g (Γg1 g):=Γ50_ok

@[go_sem] def Γg2:FuncId → Con:=Γg1
theorem Γg2_ok:∀ g,ConOk Try.prog g (Γg2 g):=Γg1_ok

@[go_sem] def Γg3:FuncId → Con:=Γg2
theorem Γg3_ok:∀ g,ConOk Try.prog g (Γg3 g):=Γg2_ok

theorem clip_spec (xs:List Int) (H:Hp):Spec Try.prog 40 [fr 1 cI xs] H (fr 1 cI xs) H:=by
  refine Spec.of_walk Try.func40 rfl (by simp [Try.f40]) fun B=>?_
  refine Zq 0 rfl fun b cp j hb hcp hj=>?_
  (repeat' (first
 | refine Qr ?_
 | refine Qc (id:=0) Γg3_ok [] (by kernel_rfl) ?_;simp [-zg,-zd,↓Qb,↓Qa,go_sem]
 | refine Qc (id:=1) Γg3_ok [] (by kernel_rfl) ?_;simp [-zg,-zd,↓Qb,↓Qa,go_sem,hcp];try (refine Jd 2 (b:=b) (all:=cat cI xs ++ zrP j .any) rfl (by simp [go_sem]) (by omega) (by simp [Qu]) (by simp [Qu]) ?_)
 | (refine Qf ?_)
 | (refine Qq ?_;simp [-zg,-zd,↓Qb,↓Qa,go_sem])
 | (refine Qp ?_;simp [-zg,-zd,↓Qb,↓Qa,go_sem])
 | (refine Qs ?_;simp [-zg,-zd,↓Qb,↓Qa,go_sem,Try.results40])
 | (intro hx;refine zA ?_)
 | (refine ⟨?_,?_⟩ <;> refine zA ?_)
 | (intro hx;constructor <;> intro hs)
 | (constructor <;> intro hs)
 | (refine ⟨?_,fun hs=>?_⟩;refine zA ?_)
 | (refine ⟨fun hs=>?_,?_⟩;rotate_left;refine zA ?_;rotate_left)))
  all_goals (intro b' cs' h;refine ⟨?_,h⟩;rintro rfl;dsimp only at hb;rw [h] at hb;cases hb)
@[go_sem] def clipC:Con:=.gen fun args H=>match args with
  | [.fr 1 n cs]=>(Is cI n cs,fr 1 cI (de cI cs),H)
  | _=>(False,.any,H)
theorem clipC_ok:ConOk Try.prog 40 clipC:=by
  refine ⟨Qn Try.func40 (by decide) rfl,fun args H h=>?_⟩
  revert h
  dsimp only
  split
  · rintro ⟨xs,rfl,rfl⟩
    rw [Qt]
    exact clip_spec xs H
  · intro h
    exact h.elim
@[go_sem] def Γg4:FuncId → Con:=ext Γg3 40 clipC
theorem Γg4_ok:∀ g,ConOk Try.prog g (Γg4 g):=Qo Γg3_ok clipC_ok

@[go_sem] theorem cat_isEmpty {α:Type} {f:α → List D} {sz:Nat} [Wide f sz] (xs:List α):(cat f xs).isEmpty = xs.isEmpty:=by
  rw [Bool.eq_iff_iff,List.isEmpty_iff,List.isEmpty_iff]
  have:=cat_nil_iff (f:=f) xs
  rw [this]
@[go_sem] def Γg5:FuncId → Con:=Γg4
theorem Γg5_ok:∀ g,ConOk Try.prog g (Γg5 g):=Γg4_ok

@[go_sem] def Γg6:FuncId → Con:=Γg5
theorem Xw:∀ g,ConOk Try.prog g (Γg6 g):=Γg5_ok

def marks (k:Int) (n:Nat):List Int:=(List.range n).map fun (i:Nat)=>k + i
theorem Xd (k:Int) (n:Nat):(marks k n).length = n:=by simp [marks]
theorem nth_marks {k:Int} {n i:Nat} (h:i < n):nth (marks k n) i = k + i:=by rw [Qw (by rw [Xd];exact h)];simp [marks]
def mk (k:Int) (xs:List Int) (i:Nat):List Int:=marks k i ++ xs.drop i
theorem mk_zero (k:Int) (xs:List Int):mk k xs 0 = xs:=by simp [mk,marks]
theorem mk_all (k:Int) (xs:List Int):mk k xs xs.length = marks k xs.length:=by simp [mk]
theorem mk_len {k:Int} {xs:List Int} {i:Nat} (h:i < xs.length):(mk k xs i).length = xs.length:=by simp [mk,Xd];omega
theorem mk_store {k:Int} {xs:List Int} {i:Nat} (h:i < xs.length) (junk:List D):stSeg (cat cI (mk k xs i) ++ junk) i [.int .i64 (k + i)] = cat cI (mk k xs (i + 1)) ++ junk:=by
  unfold stSeg
  have e:cat cI (mk k xs i) ++ junk = cat cI (marks k i) ++ (cat cI (xs.drop i) ++ junk):=by rw [mk,zabe,List.append_assoc]
  have l:(cat cI (marks k i)).length = i:=by rw [Qu,Xd];omega
  have q:=zafy (cat cI (marks k i)) [.int .i64 (k + i)] (cat cI (xs.drop i) ++ junk) (by rw [List.length_append,Qu];simp;omega)
  rw [l] at q
  rw [e,q,zacq h,mk]
  have m:marks k (i + 1) = marks k i ++ [k + i]:=by simp [marks,List.range_succ]
  rw [m,zabe,zabe,Jr]
  simp [cI]
@[go_sem] theorem cat_drop_app1 {α:Type} {f:α → List D} [Wide f 1] (xs:List α) (ys:List D):(cat f xs ++ ys).drop xs.length = ys:=by
  have:=Qu (f:=f) xs
  rw [Nat.mul_one] at this
  rw [← this,List.drop_left'];rfl

theorem markI_spec (xs:List Int) (k:Int) (b cp:Nat) (junk:List D) (H:Hp) (hH:H b = some (cat cI xs ++ junk)) (h0:0 ≤ k) (h1:k + xs.length ≤ 1099511627776) :
    Spec Try.prog 21 [.sl b 1 0 xs.length cp,.int .i64 k] H (.int .i64 (k + xs.length)) (upd H b (some (cat cI (marks k xs.length) ++ junk))):=by
  refine Spec.of_walk Try.func21 rfl (by simp [Try.f21]) fun B=>?_
  (repeat' (first
 | refine Qr ?_
 | refine Qc (id:=0) Xw [] (by kernel_rfl) ?_;simp [-zg,-zd,↓Qb,↓Qa,go_sem]
 | refine Qc (id:=1) Xw [] (by kernel_rfl) ?_;simp [-zg,-zd,↓Qb,↓Qa,go_sem]
 | refine Qc (id:=2) Xw [] (by kernel_rfl) ?_;simp [-zg,-zd,↓Qb,↓Qa,go_sem]
 | refine Qc (id:=4) Xw [] (by kernel_rfl) ?_;simp [-zg,-zd,↓Qb,↓Qa,go_sem,c9,Qh c9,zsP c9,mk_len c9,mk_store c9,(show i + 1 ≤ xs.length + junk.length by omega),(show i < xs.length + junk.length by omega)]
 | refine Qc (id:=5) Xw [] (by kernel_rfl) ?_;simp [-zg,-zd,↓Qb,↓Qa,go_sem,Zx (x:=k + (i:Int) + 1) (by omega) (by omega)]
 | refine Qc (id:=3) Xw [] (by kernel_rfl) ?_;simp [-zg,-zd,↓Qb,↓Qa,go_sem,wrapS (k:=i) (by omega)]
 | refine Qc (id:=6) Xw [] (by kernel_rfl) ?_;simp [-zg,-zd,↓Qb,↓Qa,go_sem]
 | refine Qe (c:=.tmp 9) ?_;simp [-zg,-zd,↓Qb,↓Qa,go_sem];try first | (refine ⟨?_,?_⟩ <;> refine zA ?_) | (refine ⟨fun c9=>?_,fun c9=>?_⟩ <;> (try simp [B_iff,B_not] at c9))
 | (refine Qf (id:=0) (Xc (ι:=Nat) (fun i:Nat=>⟨(upd (upd (upd (fun _=>.any) 0 (.sl b 1 0 xs.length cp)) 1 (.int .i64 (k + i))) 5 (.int .i64 i)),upd H b (some (cat cI (mk k xs i) ++ junk))⟩) (fun i=>i ≤ xs.length) (fun i=>xs.length - i) (0) ?_ ?_ ?_);exact Nat.zero_le _;((repeat' (first | exact Qi (by assumption) | exact Qk | refine Ql ?_ ?_ | refine Qj ?_)) <;> simp [-zg,-zd,↓Qb,↓Qa,go_sem,mk_zero,Jc hH]);rintro i hi)
 | (refine ⟨i + 1,by omega,by first | omega | (simp;done) | (simp;omega),?_⟩;((repeat' (first | exact Qi (by assumption) | exact Qk | refine Ql ?_ ?_ | refine Qj ?_)) <;> simp [-zg,-zd,↓Qb,↓Qa,go_sem,(show k + ((i:Int) + 1) = k + (i:Int) + 1 by omega),(show k + ((i + 1:Nat):Int) = k + (i:Int) + 1 by omega)]))
 | (refine Qf ?_)
 | (refine Qq ?_;simp [-zg,-zd,↓Qb,↓Qa,go_sem])
 | (refine Qp ?_;simp [-zg,-zd,↓Qb,↓Qa,go_sem])
 | (refine Qs ?_;simp [-zg,-zd,↓Qb,↓Qa,go_sem,Try.results21])
 | (intro hx;refine zA ?_)
 | (refine ⟨?_,?_⟩ <;> refine zA ?_)
 | (intro hx;constructor <;> intro hs)
 | (constructor <;> intro hs)
 | (refine ⟨?_,fun hs=>?_⟩;refine zA ?_)
 | (refine ⟨fun hs=>?_,?_⟩;rotate_left;refine zA ?_;rotate_left)))
  all_goals (first
 | (obtain rfl:i = xs.length:=(by omega);rw [mk_all];exact ⟨rfl,fun _ _ h=>h⟩)
 | skip)
theorem markNil_spec (k:Int) (H:Hp):Spec Try.prog 21 [.nil,.int .i64 k] H (.int .i64 k) H:=by
  refine Spec.of_walk Try.func21 rfl (by simp [Try.f21]) fun B=>?_
  (repeat' (first
 | refine Qr ?_
 | refine Qc (id:=0) Xw [] (by kernel_rfl) ?_;simp [-zg,-zd,↓Qb,↓Qa,go_sem]
 | refine Qc (id:=1) Xw [] (by kernel_rfl) ?_;simp [-zg,-zd,↓Qb,↓Qa,go_sem]
 | refine Qc (id:=2) Xw [] (by kernel_rfl) ?_;simp [-zg,-zd,↓Qb,↓Qa,go_sem]
 | refine Qc (id:=4) Xw [] (by kernel_rfl) ?_;simp [-zg,-zd,↓Qb,↓Qa,go_sem]
 | refine Qc (id:=5) Xw [] (by kernel_rfl) ?_;simp [-zg,-zd,↓Qb,↓Qa,go_sem]
 | refine Qc (id:=3) Xw [] (by kernel_rfl) ?_;simp [-zg,-zd,↓Qb,↓Qa,go_sem]
 | refine Qc (id:=6) Xw [] (by kernel_rfl) ?_;simp [-zg,-zd,↓Qb,↓Qa,go_sem]
 | refine Qe (c:=.tmp 9) ?_;simp [-zg,-zd,↓Qb,↓Qa,go_sem];try first | (refine ⟨?_,?_⟩ <;> refine zA ?_) | (refine ⟨fun c9=>?_,fun c9=>?_⟩ <;> (try simp [B_iff,B_not] at c9))
 | (refine Qf (id:=0) (Xc (ι:=Unit) (fun i:Unit=>⟨(upd (upd (upd (fun _=>.any) 0 (.nil)) 1 (.int .i64 k)) 5 (.int .i64 0)),H⟩) (fun i=>True) (fun i=>0) (()) ?_ ?_ ?_);exact trivial;((repeat' (first | exact Qi (by assumption) | exact Qk | refine Ql ?_ ?_ | refine Qj ?_)) <;> simp [-zg,-zd,↓Qb,↓Qa,go_sem]);rintro i hi)
 | (refine ⟨(),trivial,by first | omega | (simp;done) | (simp;omega),?_⟩;((repeat' (first | exact Qi (by assumption) | exact Qk | refine Ql ?_ ?_ | refine Qj ?_)) <;> simp [-zg,-zd,↓Qb,↓Qa,go_sem]))
 | (refine Qf ?_)
 | (refine Qq ?_;simp [-zg,-zd,↓Qb,↓Qa,go_sem])
 | (refine Qp ?_;simp [-zg,-zd,↓Qb,↓Qa,go_sem])
 | (refine Qs ?_;simp [-zg,-zd,↓Qb,↓Qa,go_sem,Try.results21])
 | (intro hx;refine zA ?_)
 | (refine ⟨?_,?_⟩ <;> refine zA ?_)
 | (intro hx;constructor <;> intro hs)
 | (constructor <;> intro hs)
 | (refine ⟨?_,fun hs=>?_⟩;refine zA ?_)
 | (refine ⟨fun hs=>?_,?_⟩;rotate_left;refine zA ?_;rotate_left)
 | (exfalso;omega)))
@[go_sem] def markIC:Con:=.gen fun args H=>match args with
  | [.sl b 1 0 n _,.int .i64 k]=>match H b with
    | some all=>(n ≤ all.length ∧ Is cI n (all.take n) ∧ 0 ≤ k ∧ k + n ≤ 1099511627776,.int .i64 (k + n),upd H b (some (cat cI (marks k n) ++ all.drop n)))
    | none=>(False,.any,H)
  | [.nil,.int .i64 k]=>(True,.int .i64 k,H)
  | _=>(False,.any,H)
theorem markIC_ok:ConOk Try.prog 21 markIC:=by
  refine ⟨Qn Try.func21 (by decide) rfl,fun args H h=>?_⟩
  revert h
  dsimp only
  split
  · rename_i b n cp k
    split
    · rename_i all hH
      rintro ⟨g1,⟨xs,hn,he⟩,g2,g3⟩
      subst hn
      have:all = cat cI xs ++ all.drop xs.length:=by rw [← he,List.take_append_drop]
      rw [this] at hH
      have:=markI_spec xs k b cp _ H hH g2 g3
      exact this
    · intro h;exact h.elim
  · intro _
    exact markNil_spec _ H
  · intro h
    exact h.elim
@[go_sem] def Γg7:FuncId → Con:=ext Γg6 21 markIC
theorem Je:∀ g,ConOk Try.prog g (Γg7 g):=Qo Xw markIC_ok

def heldI (k:Int) (xs:List Int):Int:=if xs = marks k xs.length then k + xs.length else -1
@[go_sem] theorem zaej (k:Int) (n:Nat):heldI k (marks k n) = k + n:=by simp [heldI,Xd]
@[go_sem] theorem heldI_nil (k:Int):heldI k [] = k:=by simp [heldI,marks]

theorem heldI_pure (xs:List Int) (k:Int) (h0:0 ≤ k) (h1:k + xs.length ≤ 1099511627776):Pure Try.prog 22 [li cI xs,.int .i64 k] (.int .i64 (heldI k xs)):=by
  refine Pure.of_walk Try.func22 rfl (by simp [Try.f22]) (by simp [-zd,go_sem]) fun B hK=>?_
  (repeat' (first
 | refine Qr ?_
 | refine Qc (id:=0) Je [] (by kernel_rfl) ?_;simp [-zg,-zd,↓Qb,↓Qa,go_sem]
 | refine Qc (id:=1) Je [] (by kernel_rfl) ?_;simp [-zg,-zd,↓Qb,↓Qa,go_sem]
 | refine Qc (id:=2) Je [] (by kernel_rfl) ?_;simp [-zg,-zd,↓Qb,↓Qa,go_sem]
 | refine Qc (id:=4) Je [] (by kernel_rfl) ?_;simp [-zg,-zd,↓Qb,↓Qa,go_sem,c9,Qh c9,zsP c9]
 | refine Qc (id:=5) Je [] (by kernel_rfl) ?_;simp [-zg,-zd,↓Qb,↓Qa,go_sem]
 | refine Qc (id:=6) Je [] (by kernel_rfl) ?_;simp [-zg,-zd,↓Qb,↓Qa,go_sem,Zx (x:=k + (i:Int) + 1) (by omega) (by omega)]
 | refine Qc (id:=3) Je [] (by kernel_rfl) ?_;simp [-zg,-zd,↓Qb,↓Qa,go_sem,wrapS (k:=i) (by omega)]
 | refine Qc (id:=7) Je [] (by kernel_rfl) ?_;simp [-zg,-zd,↓Qb,↓Qa,go_sem]
 | refine Qe (c:=.tmp 9) ?_;simp [-zg,-zd,↓Qb,↓Qa,go_sem];try first | (refine ⟨?_,?_⟩ <;> refine zA ?_) | (refine ⟨fun c9=>?_,fun c9=>?_⟩ <;> (try simp [B_iff,B_not] at c9))
 | refine Qe (c:=.tmp 17) ?_;simp [-zg,-zd,↓Qb,↓Qa,go_sem];try first | (refine ⟨?_,?_⟩ <;> refine zA ?_) | (refine ⟨fun c17=>?_,fun c17=>?_⟩ <;> (try simp [B_iff,B_not] at c17))
 | (refine Qf (id:=0) (Xc (ι:=Nat) (fun i:Nat=>⟨(upd (upd (upd (fun _=>.any) 0 (li cI xs)) 1 (.int .i64 (k + i))) 5 (.int .i64 i)),fun _=>none⟩) (fun i=>i ≤ xs.length ∧ NoneTill (fun j=>!decide (nth xs j = k + j)) i) (fun i=>xs.length - i) (0) ?_ ?_ ?_);exact ⟨Nat.zero_le _,.zero _⟩;((repeat' (first | exact Qi (by assumption) | exact Qk | refine Ql ?_ ?_ | refine Qj ?_)) <;> simp [-zg,-zd,↓Qb,↓Qa,go_sem]);rintro i ⟨hi,ht⟩)
 | (refine ⟨i + 1,⟨by omega,ht.succ (by simp [c17])⟩,by first | omega | (simp;done) | (simp;omega),?_⟩;((repeat' (first | exact Qi (by assumption) | exact Qk | refine Ql ?_ ?_ | refine Qj ?_)) <;> simp [-zg,-zd,↓Qb,↓Qa,go_sem,(show k + ((i:Int) + 1) = k + (i:Int) + 1 by omega),(show k + ((i + 1:Nat):Int) = k + (i:Int) + 1 by omega)]))
 | (refine Qf ?_)
 | (refine Qq ?_;simp [-zg,-zd,↓Qb,↓Qa,go_sem])
 | (refine Qp ?_;simp [-zg,-zd,↓Qb,↓Qa,go_sem])
 | (refine Qs ?_;simp [-zg,-zd,↓Qb,↓Qa,go_sem,Try.results22])
 | (intro hx;refine zA ?_)
 | (refine ⟨?_,?_⟩ <;> refine zA ?_)
 | (intro hx;constructor <;> intro hs)
 | (constructor <;> intro hs)
 | (refine ⟨?_,fun hs=>?_⟩;refine zA ?_)
 | (refine ⟨fun hs=>?_,?_⟩;rotate_left;refine zA ?_;rotate_left)))
  all_goals (first
 | (rw [heldI,if_neg];intro e;apply c17;have:=nth_marks (k:=k) c9;rw [← e] at this;exact this)
 | (obtain rfl:i = xs.length:=(by omega);rw [heldI,if_pos];apply List.ext_getElem (by rw [Xd]);intro j h1 h2;have:=ht j h1;simp at this;rw [← Qw h1,← Qw h2,nth_marks h1,this])
 | skip)
@[go_sem] def zaei:Con:=.pure fun
  | [.list n_xs c_xs,.int .i64 k]=>((Is cI n_xs c_xs) ∧ (0 ≤ k) ∧ (k + (de cI c_xs).length ≤ 1099511627776),.int .i64 (heldI k (de cI c_xs)))
  | _=>(False,.any)
theorem heldI_pureC_ok:ConOk Try.prog 22 zaei:=by
  refine ⟨Qn Try.func22 (by decide) rfl,fun args h=>?_⟩
  revert h
  dsimp only
  split
  · intro h
    obtain ⟨⟨xs,rfl,rfl⟩,h0,h1⟩:=h
    try simp only [Qt] at *
    exact ⟨heldI_pure xs _ h0 h1,by simp [go_sem]⟩
  · intro h
    exact h.elim
@[go_sem] def Γg8:FuncId → Con:=ext Γg7 22 zaei
theorem Γg8_ok:∀ g,ConOk Try.prog g (Γg8 g):=Qo Je heldI_pureC_ok


section
variable {P:Program} {B:Base} {n:Nat} {c:Code} {Q:Exit → St → Prop} {S:St}
theorem AW_box2z (t:Nat) {z1 z2 m1 m2:Nat} {c1 c2:List D} (hT:S.T t = .box [.fr z1 m1 c1,.fr z2 m2 c2])
    (h:∀ p x y k1 k2 cp1 cp2,S.H p = none → S.H x = none → S.H y = none → ¬ p = x → ¬ p = y → ¬ x = y → m1 ≤ cp1 → cp1 * z1 ≤ m1 * z1 + k1 → m2 ≤ cp2 → cp2 * z2 ≤ m2 * z2 + k2 →
      AW P B n c Q ⟨upd S.T t (.ptr p 0),upd (upd (upd S.H p (some [.sl x z1 0 m1 cp1,.sl y z2 0 m2 cp2])) x (some (c1 ++ zrP k1 .any))) y (some (c2 ++ zrP k2 .any))⟩):AW P B n c Q S:=by
  refine zadw t hT fun p hp=>?_
  refine zabg p 0 (all:=[.fr z1 m1 c1,.fr z2 m2 c2]) (Qg ..) rfl fun x cp1 k1 hx hc1 hd1=>?_
  have hxp:¬ p = x:=by
    intro e;subst e;dsimp only at hx;rw [Qg] at hx;cases hx
  refine zabg p 1 (all:=[.sl x z1 0 m1 cp1,.fr z2 m2 c2]) ?_ rfl fun y cp2 k2 hy hc2 hd2=>?_
  · dsimp only;rw [Qd hxp,Qg];rfl
  · have hyx:¬ x = y:=by
      intro e;subst e;dsimp only at hy;rw [Qg] at hy;cases hy
    have hyp:¬ p = y:=by
      intro e;subst e;dsimp only at hy;rw [Qd hxp,Qg] at hy;cases hy
    have hx0:S.H x = none:=by dsimp only at hx;rw [Qd (fun e=>hxp e.symm)] at hx;exact hx
    have hy0:S.H y = none:=by dsimp only at hy;rw [Qd (fun e=>hyx e.symm),Qd (fun e=>hyp e.symm),Qd (fun e=>hyp e.symm)] at hy;exact hy
    have:=h p x y k1 k2 cp1 cp2 hp hx0 hy0 hxp hyp hyx hc1 hd1 hc2 hd2
    have e:upd (upd (upd (upd (upd S.H p (some [.fr z1 m1 c1,.fr z2 m2 c2])) p (some ([D.fr z1 m1 c1,.fr z2 m2 c2].set 0 (.sl x z1 0 m1 cp1)))) x (some (c1 ++ zrP k1 .any))) p (some ([D.sl x z1 0 m1 cp1,.fr z2 m2 c2].set 1 (.sl y z2 0 m2 cp2)))) y (some (c2 ++ zrP k2 .any))
        = upd (upd (upd S.H p (some [.sl x z1 0 m1 cp1,.sl y z2 0 m2 cp2])) x (some (c1 ++ zrP k1 .any))) y (some (c2 ++ zrP k2 .any)):=by
      funext z
      by_cases e1:z = y
      · subst e1;rw [Qg,Qg]
      · by_cases e2:z = p
        · subst e2;rw [Qd e1,Qg,Qd e1,Qd hxp,Qg];rfl
        · by_cases e3:z = x
          · subst e3;rw [Qd e1,Qd e2,Qg,Qd e1,Qg]
          · rw [Qd e1,Qd e2,Qd e3,Qd e2,Qd e2,Qd e1,Qd e3,Qd e2]
    dsimp only at this ⊢
    rw [e]
    exact this
end

@[go_sem] def Γg9:FuncId → Con:=Γg8
theorem Γg9_ok:∀ g,ConOk Try.prog g (Γg9 g):=Γg8_ok

def heldL (k:Int) (a b:List Int):Int:=if heldI k a < 0 then -1 else if heldI (heldI k a) b < 0 then -1 else heldI (heldI k a) b
@[go_sem] theorem heldL_marks (k:Int) (n m:Nat) (h:0 ≤ k):heldL k (marks k n) (marks (k + n) m) = k + n + m:=by
  rw [heldL,zaej,if_neg (by omega),zaej,if_neg (by omega)]
@[go_sem] theorem heldL_nn (k:Int) (h:0 ≤ k):heldL k [] [] = k:=by rw [heldL,heldI_nil,if_neg (by omega),heldI_nil,if_neg (by omega)]
@[go_sem] theorem heldL_nm (k:Int) (m:Nat) (h:0 ≤ k):heldL k [] (marks k m) = k + m:=by rw [heldL,heldI_nil,if_neg (by omega),zaej,if_neg (by omega)]
@[go_sem] def Γg10:FuncId → Con:=Γg9
theorem Xy:∀ g,ConOk Try.prog g (Γg10 g):=Γg9_ok
@[go_sem] theorem Xo {α:Type} {f:α → List D} [Wide f 1] (xs:List α) (ys:List D) {n:Nat} (h:n = xs.length):(cat f xs ++ ys).take n = cat f xs:=by subst h;exact Xk xs ys
@[go_sem] theorem cat_drop_app1c {α:Type} {f:α → List D} [Wide f 1] (xs:List α) (ys:List D) {n:Nat} (h:n = xs.length):(cat f xs ++ ys).drop n = ys:=by subst h;exact cat_drop_app1 xs ys
attribute [go_sem] Xd

def mkLL (k:Int):List (List Int) → List (List Int)
  | []=>[]
  | x :: xs=>marks k x.length :: mkLL (k + x.length) xs
def mkPP (k:Int):List Ints2 → List Ints2
  | []=>[]
  | x :: xs=>(marks k x.1.length,marks (k + x.1.length) x.2.length) :: mkPP (k + (x.1.length + x.2.length:Nat)) xs
@[go_sem] theorem zaeb:∀ (k:Int) (xs:List (List Int)),(mkLL k xs).length = xs.length
  | _,[]=>rfl
  | k,x :: xs=>by simp [mkLL,zaeb _ xs]
@[go_sem] theorem zaea:∀ (k:Int) (xs:List Ints2),(mkPP k xs).length = xs.length
  | _,[]=>rfl
  | k,x :: xs=>by simp [mkPP,zaea _ xs]
theorem nth_zero {α:Type} [Inhabited α] (x:α) (xs:List α):nth (x :: xs) 0 = x:=rfl
theorem nth_succ {α:Type} [Inhabited α] (x:α) (xs:List α) (i:Nat):nth (x :: xs) (i + 1) = nth xs i:=rfl
theorem zacn {α:Type} (m:α → Nat) (x:α) (xs:List α) (i:Nat):msum m (x :: xs) (i + 1) = m x + msum m xs i:=by simp [msum]
theorem nth_mkLL:∀ {xs:List (List Int)} {k:Int} {i:Nat},i < xs.length → nth (mkLL k xs) i = marks (k + msum mL xs i) (nth xs i).length
  | [],k,i,h=>by simp at h
  | x :: xs,k,0,h=>by simp [mkLL,nth_zero,zafb]
  | x :: xs,k,i + 1,h=>by
    rw [mkLL,nth_succ,nth_succ,zacn,nth_mkLL (by simpa using h)]
    congr 1
    simp only [mL];omega
theorem nth_mkPP:∀ {xs:List Ints2} {k:Int} {i:Nat},i < xs.length → nth (mkPP k xs) i = (marks (k + msum mP xs i) (nth xs i).1.length,marks (k + msum mP xs i + (nth xs i).1.length) (nth xs i).2.length)
  | [],k,i,h=>by simp at h
  | x :: xs,k,0,h=>by simp [mkPP,nth_zero,zafb]
  | x :: xs,k,i + 1,h=>by
    rw [mkPP,nth_succ,nth_succ,zacn,nth_mkPP (by simpa using h)]
    have e:k + ((x.1.length + x.2.length:Nat):Int) + msum mP xs i = k + ((mP x + msum mP xs i:Nat):Int):=by simp only [mP];omega
    rw [e]
@[go_sem] theorem msum_mkLL:∀ (k:Int) (xs:List (List Int)) (i:Nat),msum mL (mkLL k xs) i = msum mL xs i
  | _,[],i=>rfl
  | k,x :: xs,0=>rfl
  | k,x :: xs,i + 1=>by rw [mkLL,zacn,zacn,msum_mkLL _ xs i];simp [mL,Xd]
@[go_sem] theorem msum_mkPP:∀ (k:Int) (xs:List Ints2) (i:Nat),msum mP (mkPP k xs) i = msum mP xs i
  | _,[],i=>rfl
  | k,x :: xs,0=>rfl
  | k,x :: xs,i + 1=>by rw [mkPP,zacn,zacn,msum_mkPP _ xs i];simp [mP,Xd]
def ptLL (k:Int) (xs:List (List Int)) (i:Nat):List (List Int):=(mkLL k xs).take i ++ xs.drop i
def ptPP (k:Int) (xs:List Ints2) (i:Nat):List Ints2:=(mkPP k xs).take i ++ xs.drop i
theorem ptLL_zero (k:Int) (xs:List (List Int)):ptLL k xs 0 = xs:=by simp [ptLL]
theorem ptPP_zero (k:Int) (xs:List Ints2):ptPP k xs 0 = xs:=by simp [ptPP]
theorem ptLL_all (k:Int) (xs:List (List Int)):ptLL k xs xs.length = mkLL k xs:=by simp [ptLL,List.take_of_length_le,zaeb]
theorem ptPP_all (k:Int) (xs:List Ints2):ptPP k xs xs.length = mkPP k xs:=by simp [ptPP,List.take_of_length_le,zaea]
theorem ptLL_len (k:Int) {xs:List (List Int)} {i:Nat} (h:i ≤ xs.length):(ptLL k xs i).length = xs.length:=by simp [ptLL,zaeb];omega
theorem ptPP_len (k:Int) {xs:List Ints2} {i:Nat} (h:i ≤ xs.length):(ptPP k xs i).length = xs.length:=by simp [ptPP,zaea];omega
theorem nth_app {α:Type} [Inhabited α] {l r:List α} {i:Nat} (h:i = l.length):nth (l ++ r) i = nth r 0:=by subst h;simp only [nth,List.getD_eq_getElem?_getD];rw [List.getElem?_append_right (Nat.le_refl _),Nat.sub_self]
theorem nth_ptLL (k:Int) {xs:List (List Int)} {i:Nat} (h:i < xs.length):nth (ptLL k xs i) i = nth xs i:=by
  rw [ptLL,nth_app (by simp [zaeb];omega),nth_drop];simp
theorem nth_ptPP (k:Int) {xs:List Ints2} {i:Nat} (h:i < xs.length):nth (ptPP k xs i) i = nth xs i:=by
  rw [ptPP,nth_app (by simp [zaea];omega),nth_drop];simp
theorem set_mid {α:Type} {l r:List α} {x y:α} {i:Nat} (h:i = l.length):(l ++ x :: r).set i y = l ++ y :: r:=by subst h;simp
theorem ptLL_set (k:Int) {xs:List (List Int)} {i:Nat} (h:i < xs.length):(ptLL k xs i).set i (marks (k + msum mL xs i) (nth xs i).length) = ptLL k xs (i + 1):=by
  have h2:i < (mkLL k xs).length:=by rw [zaeb];exact h
  rw [ptLL,ptLL,List.drop_eq_getElem_cons h,set_mid (by simp [zaeb];omega),List.take_succ_eq_append_getElem h2,← Qw h2,nth_mkLL h];simp
theorem ptPP_set (k:Int) {xs:List Ints2} {i:Nat} (h:i < xs.length):(ptPP k xs i).set i (marks (k + msum mP xs i) (nth xs i).1.length,marks (k + msum mP xs i + (nth xs i).1.length) (nth xs i).2.length) = ptPP k xs (i + 1):=by
  have h2:i < (mkPP k xs).length:=by rw [zaea];exact h
  rw [ptPP,ptPP,List.drop_eq_getElem_cons h,set_mid (by simp [zaea];omega),List.take_succ_eq_append_getElem h2,← Qw h2,nth_mkPP h];simp
theorem len_two {α:Type} {l:List α} (h:l.length = 2):∃ a b,l = [a,b]:=by
  match l,h with
  | [a,b],_=>exact ⟨a,b,rfl⟩
section
variable {α:Type} {f:α → List D}
theorem cat_set1 [Wide f 1]:∀ {xs:List α} {i:Nat} {ys:List D} {x:α} {d:D},i < xs.length → f x = [d] → (cat f xs ++ ys).set i d = cat f (xs.set i x) ++ ys
  | [],i,ys,x,d,h,hx=>by simp at h
  | z :: xs,0,ys,x,d,h,hx=>by
    rw [Xq,List.set_cons_zero,Xq,hx]
    obtain ⟨e,he⟩:∃ e,f z = [e]:=List.length_eq_one_iff.1 (by have:=Qu (f:=f) [z];rw [Jr] at this;simpa using this)
    rw [he];rfl
  | z :: xs,i + 1,ys,x,d,h,hx=>by
    rw [Xq,List.set_cons_succ,Xq]
    obtain ⟨e,he⟩:∃ e,f z = [e]:=List.length_eq_one_iff.1 (by have:=Qu (f:=f) [z];rw [Jr] at this;simpa using this)
    rw [he,List.append_assoc,List.append_assoc]
    have:=cat_set1 (xs:=xs) (i:=i) (ys:=ys) (by simpa using h) hx
    simp [this]
theorem cat_set2 [Wide f 2]:∀ {xs:List α} {i:Nat} {ys:List D} {x:α} {c d d':D},i < xs.length → f x = [c,d] → ((cat f xs ++ ys).set (i * 2) c).set (i * 2 + 1) d = cat f (xs.set i x) ++ ys
  | [],i,ys,x,c,d,d',h,hx=>by simp at h
  | z :: xs,0,ys,x,c,d,d',h,hx=>by
    rw [Xq,List.set_cons_zero,Xq,hx]
    obtain ⟨e,e',he⟩:∃ e e',f z = [e,e']:=len_two (by have:=Qu (f:=f) [z];rw [Jr] at this;simpa using this)
    rw [he];rfl
  | z :: xs,i + 1,ys,x,c,d,d',h,hx=>by
    rw [Xq,List.set_cons_succ,Xq]
    obtain ⟨e,e',he⟩:∃ e e',f z = [e,e']:=len_two (by have:=Qu (f:=f) [z];rw [Jr] at this;simpa using this)
    rw [he,List.append_assoc,List.append_assoc]
    have:=cat_set2 (xs:=xs) (i:=i) (ys:=ys) (d':=d') (by simpa using h) hx
    have e:(i + 1) * 2 = i * 2 + 1 + 1:=by omega
    rw [e]
    simp [this]
end

theorem cell_LL {xs:List (List Int)} {i:Nat} (h:i < xs.length) (junk:List D):(cat oL xs ++ junk)[i]? = some (.fr 1 (nth xs i).length (cat cI (nth xs i))):=by
  have e:(cat oL xs ++ junk).drop i = cat oL (xs.drop i) ++ junk:=by
    rw [List.drop_append_of_le_length (by rw [Qu];omega),cat_drop1]
  have e2:(cat oL xs ++ junk)[i]? = ((cat oL xs ++ junk).drop i)[0]?:=by rw [List.getElem?_drop];rfl
  rw [e2,e,zacq h]
  rfl
theorem cell_PP0 {xs:List Ints2} {i:Nat} (h:i < xs.length) (junk:List D):(cat oP xs ++ junk)[i * 2]? = some (.fr 1 (nth xs i).1.length (cat cI (nth xs i).1)):=by
  have e:(cat oP xs ++ junk).drop (i * 2) = cat oP (xs.drop i) ++ junk:=by
    rw [List.drop_append_of_le_length (by rw [Qu];omega),zahb]
  have e2:(cat oP xs ++ junk)[i * 2]? = ((cat oP xs ++ junk).drop (i * 2))[0]?:=by rw [List.getElem?_drop];rfl
  rw [e2,e,zacq h]
  rfl
theorem cell_PP1 {xs:List Ints2} {i:Nat} (h:i < xs.length) (junk:List D):(cat oP xs ++ junk)[i * 2 + 1]? = some (.fr 1 (nth xs i).2.length (cat cI (nth xs i).2)):=by
  have e:(cat oP xs ++ junk).drop (i * 2) = cat oP (xs.drop i) ++ junk:=by
    rw [List.drop_append_of_le_length (by rw [Qu];omega),zahb]
  have e2:(cat oP xs ++ junk)[i * 2 + 1]? = ((cat oP xs ++ junk).drop (i * 2))[1]?:=by rw [List.getElem?_drop]
  rw [e2,e,zacq h]
  rfl
theorem step_LL (k:Int) {xs:List (List Int)} {i:Nat} (h:i < xs.length) (junk:List D) (d:D) :
    ∃ A:List D,(cat oL (ptLL k xs i) ++ junk).set i d = A ∧ A.length = xs.length + junk.length ∧ A[i]? = some d ∧
      A.set i (.fr 1 (nth xs i).length (cat cI (marks (k + msum mL xs i) (nth xs i).length))) = cat oL (ptLL k xs (i + 1)) ++ junk:=by
  have l1:(cat oL (ptLL k xs i) ++ junk).length = xs.length + junk.length:=by rw [List.length_append,Qu,ptLL_len k (by omega)];omega
  refine ⟨_,rfl,by rw [List.length_set];exact l1,by rw [List.getElem?_set_self (by omega)],?_⟩
  rw [List.set_set,cat_set1 (f:=oL) (x:=marks (k + msum mL xs i) (nth xs i).length) (by rw [ptLL_len k (by omega)];exact h) (by simp [oL,fr,Xd]),ptLL_set k h]
theorem step_PP (k:Int) {xs:List Ints2} {i:Nat} (h:i < xs.length) (junk:List D) (c d:D) :
    ∃ A:List D,((cat oP (ptPP k xs i) ++ junk).set (i * 2) c).set (i * 2 + 1) d = A ∧ A.length = xs.length * 2 + junk.length ∧ A[i * 2]? = some c ∧ A[i * 2 + 1]? = some d ∧
      (A.set (i * 2) (.fr 1 (nth xs i).1.length (cat cI (marks (k + msum mP xs i) (nth xs i).1.length)))).set (i * 2 + 1) (.fr 1 (nth xs i).2.length (cat cI (marks (k + msum mP xs i + (nth xs i).1.length) (nth xs i).2.length))) = cat oP (ptPP k xs (i + 1)) ++ junk:=by
  have l1:(cat oP (ptPP k xs i) ++ junk).length = xs.length * 2 + junk.length:=by rw [List.length_append,Qu,ptPP_len k (by omega)]
  refine ⟨_,rfl,by rw [List.length_set,List.length_set];exact l1,?_,by rw [List.getElem?_set_self (by rw [List.length_set];omega)],?_⟩
  · rw [List.getElem?_set_ne (by omega),List.getElem?_set_self (by omega)]
  · have e:(((cat oP (ptPP k xs i) ++ junk).set (i * 2) c).set (i * 2 + 1) d).set (i * 2) (.fr 1 (nth xs i).1.length (cat cI (marks (k + msum mP xs i) (nth xs i).1.length)))
        = ((cat oP (ptPP k xs i) ++ junk).set (i * 2) (.fr 1 (nth xs i).1.length (cat cI (marks (k + msum mP xs i) (nth xs i).1.length)))).set (i * 2 + 1) d:=by
      rw [List.set_comm _ _ (by omega),List.set_set]
    rw [e,List.set_set,cat_set2 (f:=oP) (d':=d) (x:=(marks (k + msum mP xs i) (nth xs i).1.length,marks (k + msum mP xs i + (nth xs i).1.length) (nth xs i).2.length)) (by rw [ptPP_len k (by omega)];exact h) (by simp [oP,fr,Xd]),ptPP_set k h]

set_option maxHeartbeats 1000000 in
theorem markLL_spec (xs:List (List Int)) (k:Int) (b cp:Nat) (junk:List D) (H:Hp) (hH:H b = some (cat oL xs ++ junk)) (h0:0 ≤ k) (h1:k + msum mL xs xs.length ≤ 1099511627776) (hx:xs.length ≤ 1048576) :
    Spec Try.prog 66 [.sl b 1 0 xs.length cp,.int .i64 k] H (.int .i64 (k + msum mL xs xs.length)) (upd H b (some (cat oL (mkLL k xs) ++ junk))):=by
  refine Spec.of_walk Try.func66 rfl (by simp [Try.f66]) fun B=>?_
  (repeat' (first
 | refine Qr ?_
 | refine Qc (id:=0) Xy [] (by kernel_rfl) ?_;simp [-zg,-zd,↓Qb,↓Qa,go_sem]
 | refine Qc (id:=1) Xy [] (by kernel_rfl) ?_;simp [-zg,-zd,↓Qb,↓Qa,go_sem]
 | refine Qc (id:=2) Xy [] (by kernel_rfl) ?_;simp [-zg,-zd,↓Qb,↓Qa,go_sem]
 | ((refine zabg b q.1 (sz:=1) (m:=(nth xs q.1).length) (cs:=cat cI (nth xs q.1)) (all:=cat oL (ptLL k xs q.1) ++ junk) g2 (by rw [cell_LL (by rw [ptLL_len k (by omega)];exact c9),nth_ptLL k c9]) fun u cu ju hu hcu hdu=>?_);(have ub:¬ u = b:=(by rintro rfl;dsimp only at hu;rw [g2] at hu;cases hu));(have u0:H u = none:=(by cases hh:H u with | none=>rfl | some cs=>(have:=g3 u cs ub hh;dsimp only at hu;rw [this] at hu;cases hu)));(obtain ⟨A,hA1,hA2,hA3,hA4⟩:=step_LL k c9 junk (.sl u 1 0 (nth xs q.1).length cu));(rw [hA1]);have hms:=zabl (m:=mL) c9;have hmm:=zadp (m:=mL) (xs:=xs) (show q.1 + 1 ≤ xs.length from c9);(have hsum:k + ((msum mL xs (q.1 + 1):Nat):Int) = k + (msum mL xs q.1:Int) + ((nth xs q.1).length:Int):=(by rw [hms];simp only [mL];omega));(have hA5:A.getD q.1 .any = .sl u 1 0 (nth xs q.1).length cu:=(by rw [List.getD_eq_getElem?_getD,hA3];rfl));simp only [mL] at hms;clear hA1);refine Qc (id:=4) Xy [] (by kernel_rfl) ?_;simp [-zg,-zd,↓Qb,↓Qa,go_sem,c9,Qh c9,zsP c9,ub,zS ub,hA2,hA5,(show q.1 < xs.length + junk.length by omega),(show q.1 + 1 ≤ xs.length + junk.length by omega),(show 0 ≤ k + (msum mL xs q.1:Int) by omega),(show k + (msum mL xs q.1:Int) + ((nth xs q.1).length:Int) ≤ 1099511627776 by omega)];try ((refine zadk b q.1 (b':=u) (sz:=1) (m:=(nth xs q.1).length) (cp:=cu) (all:=A) (cs:=cat cI (marks (k + msum mL xs q.1) (nth xs q.1).length) ++ zrP ju .any) (by simp [upd,ub,zS ub]) hA3 (zS ub) (by simp [upd,ub,zS ub]) (by omega) (by simp [Qu,Xd]) (by simp [Qu,Xd];omega) ?_);(refine Zr (fun H1=>H1 b = some (cat oL (ptLL k xs (q.1 + 1)) ++ junk) ∧ ∀ z cs,¬ z = b → H z = some cs → H1 z = some cs) ⟨by dsimp only;rw [Qg,← hA4,Nat.mul_one,Xo _ _ (Xd _ _).symm],fun z cs hz h=>by dsimp only;(have z2:¬ z = u:=(by rintro rfl;rw [u0] at h;cases h));have:=g3 z cs hz h;simp [upd,hz,z2,this]⟩ fun H1 ⟨w1,w2⟩=>?_);clear hA2 hA3 hA4 hA5)
 | refine Qc (id:=3) Xy [] (by kernel_rfl) ?_;simp [-zg,-zd,↓Qb,↓Qa,go_sem,wrapS (k:=q.1) (by omega)]
 | refine Qc (id:=5) Xy [] (by kernel_rfl) ?_;simp [-zg,-zd,↓Qb,↓Qa,go_sem]
 | refine Qe (c:=.tmp 9) ?_;simp [-zg,-zd,↓Qb,↓Qa,go_sem];try first | (refine ⟨?_,?_⟩ <;> refine zA ?_) | (refine ⟨fun c9=>?_,fun c9=>?_⟩ <;> (try simp [B_iff,B_not] at c9))
 | (refine Qf (id:=0) (Xc (ι:=Nat × Hp) (fun q:Nat × Hp=>⟨(upd (upd (upd (fun _=>.any) 0 (.sl b 1 0 xs.length cp)) 1 (.int .i64 (k + msum mL xs q.1))) 5 (.int .i64 q.1)),q.2⟩) (fun q=>q.1 ≤ xs.length ∧ q.2 b = some (cat oL (ptLL k xs q.1) ++ junk) ∧ ∀ z cs,¬ z = b → H z = some cs → q.2 z = some cs) (fun q=>xs.length - q.1) ((0,H)) ?_ ?_ ?_);exact ⟨Nat.zero_le _,by rw [ptLL_zero];exact hH,fun z cs hz h=>h⟩;((repeat' (first | exact Qi (by assumption) | exact Qk | refine Ql ?_ ?_ | refine Qj ?_)) <;> simp [-zg,-zd,↓Qb,↓Qa,go_sem,zafb]);rintro q ⟨g1,g2,g3⟩)
 | (refine ⟨(q.1 + 1,H1),⟨by omega,w1,w2⟩,by first | omega | (simp;done) | (simp;omega),?_⟩;((repeat' (first | exact Qi (by assumption) | exact Qk | refine Ql ?_ ?_ | refine Qj ?_)) <;> simp [-zg,-zd,↓Qb,↓Qa,go_sem,hsum]))
 | (refine Qf ?_)
 | (refine Qq ?_;simp [-zg,-zd,↓Qb,↓Qa,go_sem])
 | (refine Qp ?_;simp [-zg,-zd,↓Qb,↓Qa,go_sem])
 | (refine Qs ?_;simp [-zg,-zd,↓Qb,↓Qa,go_sem,Try.results66])
 | (intro hx;refine zA ?_)
 | (refine ⟨?_,?_⟩ <;> refine zA ?_)
 | (intro hx;constructor <;> intro hs)
 | (constructor <;> intro hs)
 | (refine ⟨?_,fun hs=>?_⟩;refine zA ?_)
 | (refine ⟨fun hs=>?_,?_⟩;rotate_left;refine zA ?_;rotate_left)))
  all_goals (first
 | (have e:q.1 = xs.length:=(by omega);rw [e,ptLL_all] at g2;refine ⟨by rw [e],fun z cs h=>?_⟩;by_cases ez:z = b;(subst ez;(first | rw [Qg] at h | rw [if_pos rfl] at h);rw [g2];exact h);((first | rw [Qd ez] at h | rw [if_neg ez] at h);exact g3 z cs ez h))
 | skip)

set_option maxHeartbeats 2000000 in
theorem markPP_spec (xs:List Ints2) (k:Int) (b cp:Nat) (junk:List D) (H:Hp) (hH:H b = some (cat oP xs ++ junk)) (h0:0 ≤ k) (h1:k + msum mP xs xs.length ≤ 1099511627776) (hx:xs.length ≤ 1048576) :
    Spec Try.prog 65 [.sl b 2 0 xs.length cp,.int .i64 k] H (.int .i64 (k + msum mP xs xs.length)) (upd H b (some (cat oP (mkPP k xs) ++ junk))):=by
  refine Spec.of_walk Try.func65 rfl (by simp [Try.f65]) fun B=>?_
  (repeat' (first
 | refine Qr ?_
 | refine Qc (id:=0) Xy [] (by kernel_rfl) ?_;simp [-zg,-zd,↓Qb,↓Qa,go_sem]
 | refine Qc (id:=1) Xy [] (by kernel_rfl) ?_;simp [-zg,-zd,↓Qb,↓Qa,go_sem]
 | refine Qc (id:=2) Xy [] (by kernel_rfl) ?_;simp [-zg,-zd,↓Qb,↓Qa,go_sem]
 | ((refine zabg b (q.1 * 2) (sz:=1) (m:=(nth xs q.1).1.length) (cs:=cat cI (nth xs q.1).1) (all:=cat oP (ptPP k xs q.1) ++ junk) g2 (by rw [cell_PP0 (by rw [ptPP_len k (by omega)];exact c9),nth_ptPP k c9]) fun u cu ju hu hcu hdu=>?_);(have ub:¬ u = b:=(by rintro rfl;dsimp only at hu;rw [g2] at hu;cases hu));(have u0:H u = none:=(by cases hh:H u with | none=>rfl | some cs=>(have:=g3 u cs ub hh;dsimp only at hu;rw [this] at hu;cases hu)));(refine zabg b (q.1 * 2 + 1) (sz:=1) (m:=(nth xs q.1).2.length) (cs:=cat cI (nth xs q.1).2) (all:=(cat oP (ptPP k xs q.1) ++ junk).set (q.1 * 2) (.sl u 1 0 (nth xs q.1).1.length cu)) (by dsimp only;rw [Qd (zS ub),Qg]) (by rw [List.getElem?_set_ne (by omega),cell_PP1 (by rw [ptPP_len k (by omega)];exact c9),nth_ptPP k c9]) fun v cv jv hv hcv hdv=>?_);(have vu:¬ v = u:=(by rintro rfl;dsimp only at hv;rw [Qg] at hv;cases hv));(have vb:¬ v = b:=(by rintro rfl;dsimp only at hv;rw [Qd vu,Qg] at hv;cases hv));(have v0:H v = none:=(by cases hh:H v with | none=>rfl | some cs=>(have:=g3 v cs vb hh;dsimp only at hv;rw [Qd vu,Qd vb,this] at hv;cases hv)));(obtain ⟨A,hA1,hA2,hA3,hA6,hA4⟩:=step_PP k c9 junk (.sl u 1 0 (nth xs q.1).1.length cu) (.sl v 1 0 (nth xs q.1).2.length cv));(rw [hA1]);have hms:=zabl (m:=mP) c9;have hmm:=zadp (m:=mP) (xs:=xs) (show q.1 + 1 ≤ xs.length from c9);(have hsum:k + ((msum mP xs (q.1 + 1):Nat):Int) = k + (msum mP xs q.1:Int) + ((nth xs q.1).1.length:Int) + ((nth xs q.1).2.length:Int):=(by rw [hms];simp only [mP];omega));(have hA5:A.getD (q.1 * 2) .any = .sl u 1 0 (nth xs q.1).1.length cu:=(by rw [List.getD_eq_getElem?_getD,hA3];rfl));(have hA7:A.getD (q.1 * 2 + 1) .any = .sl v 1 0 (nth xs q.1).2.length cv:=(by rw [List.getD_eq_getElem?_getD,hA6];rfl));simp only [mP] at hms;clear hA1);refine Qc (id:=4) Xy [] (by kernel_rfl) ?_;simp [-zg,-zd,↓Qb,↓Qa,go_sem,c9,Qh c9,zsP c9,ub,zS ub,vb,zS vb,vu,zS vu,hA2,hA5,(show q.1 * 2 < xs.length * 2 + junk.length by omega),(show q.1 * 2 + 1 ≤ xs.length * 2 + junk.length by omega),(show q.1 * 2 + 2 ≤ xs.length * 2 + junk.length by omega),(show 0 ≤ k + (msum mP xs q.1:Int) by omega),(show k + (msum mP xs q.1:Int) + ((nth xs q.1).1.length:Int) ≤ 1099511627776 by omega)]
 | refine Qc (id:=5) Xy [] (by kernel_rfl) ?_;simp [-zg,-zd,↓Qb,↓Qa,go_sem,c9,Qh c9,zsP c9,ub,zS ub,vb,zS vb,vu,zS vu,hA2,hA7,(show q.1 * 2 + 1 < xs.length * 2 + junk.length by omega),(show q.1 * 2 + 1 + 1 ≤ xs.length * 2 + junk.length by omega),(show 0 ≤ k + (msum mP xs q.1:Int) + ((nth xs q.1).1.length:Int) by omega),(show k + (msum mP xs q.1:Int) + ((nth xs q.1).1.length:Int) + ((nth xs q.1).2.length:Int) ≤ 1099511627776 by omega)];try ((refine zadk b (q.1 * 2) (b':=u) (sz:=1) (m:=(nth xs q.1).1.length) (cp:=cu) (all:=A) (cs:=cat cI (marks (k + msum mP xs q.1) (nth xs q.1).1.length) ++ zrP ju .any) (by simp [upd,ub,zS ub,vb,zS vb]) hA3 (zS ub) (by simp [upd,ub,zS ub,vu,zS vu]) (by omega) (by simp [Qu,Xd]) (by simp [Qu,Xd];omega) ?_);(refine zadk b (q.1 * 2 + 1) (b':=v) (sz:=1) (m:=(nth xs q.1).2.length) (cp:=cv) (all:=A.set (q.1 * 2) (.fr 1 (nth xs q.1).1.length (cat cI (marks (k + msum mP xs q.1) (nth xs q.1).1.length)))) (cs:=cat cI (marks (k + msum mP xs q.1 + (nth xs q.1).1.length) (nth xs q.1).2.length) ++ zrP jv .any) (by dsimp only;rw [Qg,Nat.mul_one,Xo _ _ (Xd _ _).symm]) (by rw [List.getElem?_set_ne (by omega)];exact hA6) (zS vb) (by simp [upd,vb,zS vb,vu,zS vu]) (by omega) (by simp [Qu,Xd]) (by simp [Qu,Xd];omega) ?_);(refine Zr (fun H1=>H1 b = some (cat oP (ptPP k xs (q.1 + 1)) ++ junk) ∧ ∀ z cs,¬ z = b → H z = some cs → H1 z = some cs) ⟨by dsimp only;rw [Qg,← hA4,Nat.mul_one,Xo _ _ (Xd _ _).symm],fun z cs hz h=>by dsimp only;(have z2:¬ z = u:=(by rintro rfl;rw [u0] at h;cases h));(have z3:¬ z = v:=(by rintro rfl;rw [v0] at h;cases h));have:=g3 z cs hz h;simp [upd,hz,z2,z3,this]⟩ fun H1 ⟨w1,w2⟩=>?_);clear hA2 hA3 hA4 hA5 hA6 hA7)
 | refine Qc (id:=3) Xy [] (by kernel_rfl) ?_;simp [-zg,-zd,↓Qb,↓Qa,go_sem,wrapS (k:=q.1) (by omega)]
 | refine Qc (id:=6) Xy [] (by kernel_rfl) ?_;simp [-zg,-zd,↓Qb,↓Qa,go_sem]
 | refine Qe (c:=.tmp 9) ?_;simp [-zg,-zd,↓Qb,↓Qa,go_sem];try first | (refine ⟨?_,?_⟩ <;> refine zA ?_) | (refine ⟨fun c9=>?_,fun c9=>?_⟩ <;> (try simp [B_iff,B_not] at c9))
 | (refine Qf (id:=0) (Xc (ι:=Nat × Hp) (fun q:Nat × Hp=>⟨(upd (upd (upd (fun _=>.any) 0 (.sl b 2 0 xs.length cp)) 1 (.int .i64 (k + msum mP xs q.1))) 5 (.int .i64 q.1)),q.2⟩) (fun q=>q.1 ≤ xs.length ∧ q.2 b = some (cat oP (ptPP k xs q.1) ++ junk) ∧ ∀ z cs,¬ z = b → H z = some cs → q.2 z = some cs) (fun q=>xs.length - q.1) ((0,H)) ?_ ?_ ?_);exact ⟨Nat.zero_le _,by rw [ptPP_zero];exact hH,fun z cs hz h=>h⟩;((repeat' (first | exact Qi (by assumption) | exact Qk | refine Ql ?_ ?_ | refine Qj ?_)) <;> simp [-zg,-zd,↓Qb,↓Qa,go_sem,zafb]);rintro q ⟨g1,g2,g3⟩)
 | (refine ⟨(q.1 + 1,H1),⟨by omega,w1,w2⟩,by first | omega | (simp;done) | (simp;omega),?_⟩;((repeat' (first | exact Qi (by assumption) | exact Qk | refine Ql ?_ ?_ | refine Qj ?_)) <;> simp [-zg,-zd,↓Qb,↓Qa,go_sem,hsum]))
 | (refine Qf ?_)
 | (refine Qq ?_;simp [-zg,-zd,↓Qb,↓Qa,go_sem])
 | (refine Qp ?_;simp [-zg,-zd,↓Qb,↓Qa,go_sem])
 | (refine Qs ?_;simp [-zg,-zd,↓Qb,↓Qa,go_sem,Try.results65])
 | (intro hx;refine zA ?_)
 | (refine ⟨?_,?_⟩ <;> refine zA ?_)
 | (intro hx;constructor <;> intro hs)
 | (constructor <;> intro hs)
 | (refine ⟨?_,fun hs=>?_⟩;refine zA ?_)
 | (refine ⟨fun hs=>?_,?_⟩;rotate_left;refine zA ?_;rotate_left)))
  all_goals (first
 | (have e:q.1 = xs.length:=(by omega);rw [e,ptPP_all] at g2;refine ⟨by rw [e],fun z cs h=>?_⟩;by_cases ez:z = b;(subst ez;(first | rw [Qg] at h | rw [if_pos rfl] at h);rw [g2];exact h);((first | rw [Qd ez] at h | rw [if_neg ez] at h);exact g3 z cs ez h))
 | skip)

section
variable {α:Type} {f g:α → List D} {lv sz:Nat}
theorem catO_inj [Own f g lv] [Wide g sz] [Plain g] {xs ys:List α} (h:cat f xs = cat f ys):xs = ys:=by
  have h1:=congrArg (List.map dat) h
  rw [cat_dat (f:=f) (g:=g),cat_dat (f:=f) (g:=g)] at h1
  exact cat_inj h1
theorem isO_cat [Own f g lv] [Wide g sz] [Plain g] (n:Nat) (xs:List α):Is f n (cat f xs) ↔ n = xs.length :=
  ⟨fun ⟨ys,h,e⟩=>by rw [catO_inj (f:=f) (g:=g) e,h],fun h=>⟨xs,h,rfl⟩⟩
theorem deO_cat [Own f g lv] [Wide g sz] [Plain g] (xs:List α):de f (cat f xs) = xs:=by
  unfold de
  rw [dif_pos ⟨xs,rfl⟩]
  have:∃ ys:List α,cat f xs = cat f ys:=⟨xs,rfl⟩
  exact (catO_inj (f:=f) (g:=g) (Classical.choose_spec this)).symm
theorem cat_drop_app [Wide f sz] (xs:List α) (ys:List D):(cat f xs ++ ys).drop (xs.length * sz) = ys:=by
  rw [← Qu (f:=f),List.drop_left'];rfl
end
@[go_sem] theorem isO_oL (n:Nat) (xs:List (List Int)):Is oL n (cat oL xs) ↔ n = xs.length:=isO_cat n xs
@[go_sem] theorem isO_oP (n:Nat) (xs:List Ints2):Is oP n (cat oP xs) ↔ n = xs.length:=isO_cat n xs
@[go_sem] theorem deO_oL (xs:List (List Int)):de oL (cat oL xs) = xs:=deO_cat xs
@[go_sem] theorem deO_oP (xs:List Ints2):de oP (cat oP xs) = xs:=deO_cat xs
@[go_sem] theorem cat_drop_app_oP (xs:List Ints2) (ys:List D):(cat oP xs ++ ys).drop (xs.length * 2) = ys:=cat_drop_app xs ys
@[go_sem] theorem Xl (xs:List Ints2) (ys:List D):(cat oP xs ++ ys).take (xs.length * 2) = cat oP xs:=zaha xs ys

@[go_sem] def markLLC:Con:=.gen fun args H=>match args with
  | [.sl b 1 0 n _,.int .i64 k]=>match H b with
    | some all=>(n ≤ 1048576 ∧ n ≤ all.length ∧ Is oL n (all.take n) ∧ 0 ≤ k ∧ k + msum mL (de oL (all.take n)) n ≤ 1099511627776,.int .i64 (k + msum mL (de oL (all.take n)) n),upd H b (some (cat oL (mkLL k (de oL (all.take n))) ++ all.drop n)))
    | none=>(False,.any,H)
  | _=>(False,.any,H)
theorem markLLC_ok:ConOk Try.prog 66 markLLC:=by
  refine ⟨Qn Try.func66 (by decide) rfl,fun args H h=>?_⟩
  revert h
  dsimp only
  split
  · rename_i b n cp k
    split
    · rename_i all hH
      rintro ⟨g0,g1,⟨xs,hn,he⟩,g2,g3⟩
      subst hn
      have e:all = cat oL xs ++ all.drop xs.length:=by rw [← he,List.take_append_drop]
      rw [he,deO_oL] at *
      rw [e] at hH
      exact markLL_spec xs k b cp _ H hH g2 g3 g0
    · intro h;exact h.elim
  · intro h
    exact h.elim
@[go_sem] def Γg11:FuncId → Con:=ext Γg10 66 markLLC
theorem Γg11_ok:∀ g,ConOk Try.prog g (Γg11 g):=Qo Xy markLLC_ok

@[go_sem] def markPPC:Con:=.gen fun args H=>match args with
  | [.sl b 2 0 n _,.int .i64 k]=>match H b with
    | some all=>(n ≤ 1048576 ∧ n * 2 ≤ all.length ∧ Is oP n (all.take (n * 2)) ∧ 0 ≤ k ∧ k + msum mP (de oP (all.take (n * 2))) n ≤ 1099511627776,.int .i64 (k + msum mP (de oP (all.take (n * 2))) n),upd H b (some (cat oP (mkPP k (de oP (all.take (n * 2)))) ++ all.drop (n * 2))))
    | none=>(False,.any,H)
  | _=>(False,.any,H)
theorem markPPC_ok:ConOk Try.prog 65 markPPC:=by
  refine ⟨Qn Try.func65 (by decide) rfl,fun args H h=>?_⟩
  revert h
  dsimp only
  split
  · rename_i b n cp k
    split
    · rename_i all hH
      rintro ⟨g0,g1,⟨xs,hn,he⟩,g2,g3⟩
      subst hn
      have e:all = cat oP xs ++ all.drop (xs.length * 2):=by rw [← he,List.take_append_drop]
      rw [he,deO_oP] at *
      rw [e] at hH
      exact markPP_spec xs k b cp _ H hH g2 g3 g0
    · intro h;exact h.elim
  · intro h
    exact h.elim
@[go_sem] def Γg12:FuncId → Con:=ext Γg11 65 markPPC
theorem zafl:∀ g,ConOk Try.prog g (Γg12 g):=Qo Γg11_ok markPPC_ok

set_option maxHeartbeats 1000000 in
theorem markG_spec (a:List Ints2) (b:List (List Int)) (k:Int) (b1 b2 c1 c2:Nat) (j1 j2:List D) (H:Hp) (h1:H b1 = some (cat oP a ++ j1)) (h2:H b2 = some (cat oL b ++ j2)) (hne:¬ b1 = b2) (ha:a.length ≤ 1048576) (hb:b.length ≤ 1048576) (h0:0 ≤ k) (hk:k + msum mP a a.length + msum mL b b.length ≤ 1099511627776) :
    Spec Try.prog 20 [.st [.sl b1 2 0 a.length c1,.sl b2 1 0 b.length c2],.int .i64 k] H (.int .i64 (k + msum mP a a.length + msum mL b b.length)) (upd (upd H b1 (some (cat oP (mkPP k a) ++ j1))) b2 (some (cat oL (mkLL (k + msum mP a a.length) b) ++ j2))):=by
  refine Spec.of_walk Try.func20 rfl (by simp [Try.f20]) fun B=>?_
  (repeat' (first
 | refine Qr ?_
 | refine Qc (id:=0) zafl [] (by kernel_rfl) ?_;simp [-zg,-zd,↓Qb,↓Qa,go_sem];try (refine zadw 2 rfl fun b0 hb0=>?_;have n1:¬ b1 = b0:=(by rintro rfl;dsimp only at hb0;rw [h1] at hb0;cases hb0);have n2:¬ b2 = b0:=(by rintro rfl;dsimp only at hb0;rw [h2] at hb0;cases hb0))
 | refine Qc (id:=1) zafl [] (by kernel_rfl) ?_;simp [-zg,-zd,↓Qb,↓Qa,go_sem,n1,h1,h0,ha,(show k + (msum mP a a.length:Int) ≤ 1099511627776 by omega),(show a.length * 2 ≤ a.length * 2 + j1.length by omega)]
 | refine Qc (id:=2) zafl [] (by kernel_rfl) ?_;simp [-zg,-zd,↓Qb,↓Qa,go_sem,n1,n2,zS n1,zS n2,hne,zS hne,h2,hb,(show 0 ≤ k + (msum mP a a.length:Int) by omega),hk,(show b.length ≤ b.length + j2.length by omega)]
 | refine Qc (id:=3) zafl [] (by kernel_rfl) ?_;simp [-zg,-zd,↓Qb,↓Qa,go_sem]
 | (refine Qf ?_)
 | (refine Qq ?_;simp [-zg,-zd,↓Qb,↓Qa,go_sem])
 | (refine Qp ?_;simp [-zg,-zd,↓Qb,↓Qa,go_sem])
 | (refine Qs ?_;simp [-zg,-zd,↓Qb,↓Qa,go_sem,Try.results20])
 | (intro hx;refine zA ?_)
 | (refine ⟨?_,?_⟩ <;> refine zA ?_)
 | (intro hx;constructor <;> intro hs)
 | (constructor <;> intro hs)
 | (refine ⟨?_,fun hs=>?_⟩;refine zA ?_)
 | (refine ⟨fun hs=>?_,?_⟩;rotate_left;refine zA ?_;rotate_left)))
  all_goals (first
 | (intro b' cs' h;dsimp only at hb0;by_cases e2:b' = b2 <;> by_cases e1:b' = b1 <;> by_cases e0:b' = b0 <;> simp_all)
 | skip)
@[go_sem] def markGC:Con:=.gen fun args H=>match args with
  | [.st [.sl b1 2 0 n _,.sl b2 1 0 m _],.int .i64 k]=>match H b1,H b2 with
    | some a1,some a2=>(¬ b1 = b2 ∧ n ≤ 1048576 ∧ m ≤ 1048576 ∧ n * 2 ≤ a1.length ∧ m ≤ a2.length ∧ Is oP n (a1.take (n * 2)) ∧ Is oL m (a2.take m) ∧ 0 ≤ k ∧ k + msum mP (de oP (a1.take (n * 2))) n + msum mL (de oL (a2.take m)) m ≤ 1099511627776,
        .int .i64 (k + msum mP (de oP (a1.take (n * 2))) n + msum mL (de oL (a2.take m)) m),
        upd (upd H b1 (some (cat oP (mkPP k (de oP (a1.take (n * 2)))) ++ a1.drop (n * 2)))) b2 (some (cat oL (mkLL (k + msum mP (de oP (a1.take (n * 2))) n) (de oL (a2.take m))) ++ a2.drop m)))
    | _,_=>(False,.any,H)
  | _=>(False,.any,H)
theorem markGC_ok:ConOk Try.prog 20 markGC:=by
  refine ⟨Qn Try.func20 (by decide) rfl,fun args H h=>?_⟩
  revert h
  dsimp only
  split
  · rename_i b1 n c1 b2 m c2 k
    split
    · rename_i a1 a2 hH1 hH2
      rintro ⟨g0,ga,gb,g1,g2,⟨xs,hn,he⟩,⟨ys,hm,hf⟩,g5,g6⟩
      subst hn hm
      have e1:a1 = cat oP xs ++ a1.drop (xs.length * 2):=by rw [← he,List.take_append_drop]
      have e2:a2 = cat oL ys ++ a2.drop ys.length:=by rw [← hf,List.take_append_drop]
      rw [he,hf,deO_oP,deO_oL] at *
      rw [e1] at hH1
      rw [e2] at hH2
      exact markG_spec xs ys k b1 b2 c1 c2 _ _ H hH1 hH2 g0 ga gb g5 g6
    · intro h;exact h.elim
  · intro h
    exact h.elim
@[go_sem] def Γg13:FuncId → Con:=ext Γg12 20 markGC
theorem Jb:∀ g,ConOk Try.prog g (Γg13 g):=Qo zafl markGC_ok

@[go_sem] theorem makeD_1 (x:D):makeD [x] 1 = [x]:=by rw [zafd];rfl
def pickL (xs ys:List Int):List Int:=ys.map fun y=>nth xs y.toNat
@[go_sem] theorem pickL_len (xs ys:List Int):(pickL xs ys).length = ys.length:=by simp [pickL]
theorem nth_pickL {xs ys:List Int} {i:Nat} (h:i < ys.length):nth (pickL xs ys) i = nth xs (nth ys i).toNat:=by
  rw [Qw (by rw [pickL_len];exact h),Qw h];simp [pickL]
def Places (n:Nat) (ys:List Int):Prop:=∀ i,i < ys.length → 0 ≤ nth ys i ∧ nth ys i < n
theorem Places.at {n:Nat} {ys:List Int} (h:Places n ys) {i:Nat} (hi:i < ys.length):0 ≤ nth ys i ∧ nth ys i < n ∧ (nth ys i).toNat < n:=by
  obtain ⟨h1,h2⟩:=h i hi
  omega

theorem picked_pure (xs:List Int) (ys:List Int) (h0:ys.length ≤ 1048576) (h1:Places xs.length ys):Pure Try.prog 37 [li cI xs,li cI ys] (fr 1 cI (pickL xs ys)):=by
  refine Pure.of_walk Try.func37 rfl (by simp [Try.f37]) (by simp [-zd,go_sem]) fun B hK=>?_
  have hd:=pickL_len xs ys
  all_goals (repeat' (first
 | refine Qr ?_
 | refine Qc (id:=0) Jb [] (by kernel_rfl) ?_;simp [-zg,-zd,↓Qb,↓Qa,go_sem]
 | refine Qc (id:=1) Jb [] (by kernel_rfl) ?_;simp [-zg,-zd,↓Qb,↓Qa,go_sem,(by omega:8 * (ys.length:Int) ≤ 281474976710656),(by omega:(ys.length:Int) ≤ 9223372036854775807)];try ((refine Zq 5 rfl fun b cp j _ hcp hj=>?_))
 | refine Qc (id:=2) Jb [] (by kernel_rfl) ?_;simp [-zg,-zd,↓Qb,↓Qa,go_sem]
 | refine Qc (id:=3) Jb [] (by kernel_rfl) ?_;simp [-zg,-zd,↓Qb,↓Qa,go_sem]
 | refine Qc (id:=4) Jb [] (by kernel_rfl) ?_;simp [-zg,-zd,↓Qb,↓Qa,go_sem,c14,Qh c14,zsP c14]
 | (obtain ⟨p1,p2,p3⟩:=h1.at c14);refine Qc (id:=5) Jb [] (by kernel_rfl) ?_;simp [-zg,-zd,↓Qb,↓Qa,go_sem,c14,Qh c14,zsP c14,p1,p2,p3,Qh p3,zsP p3,fill_len (f:=cI) (sz:=1) [.int .i64 0] (xs:=pickL xs ys) (k:=k) (by omega),hd,(show k < ys.length + j by omega),(show k + 1 ≤ ys.length + j by omega),(show stSeg (fillC cI [.int .i64 0] 1 (pickL xs ys) k (zrP j D.any)) k [.int .i64 (nth xs (nth ys k).toNat)] = fillC cI [.int .i64 0] 1 (pickL xs ys) (k + 1) (zrP j D.any) by rw [← nth_pickL c14];exact fill_cI (by omega))]
 | refine Qc (id:=6) Jb [] (by kernel_rfl) ?_;simp [-zg,-zd,↓Qb,↓Qa,go_sem,wrapS (k:=k) (by omega)]
 | ((obtain rfl:k = ys.length:=by omega);refine Jd 5 (b:=b) (all:=cat cI (pickL xs ys) ++ zrP j .any) rfl (by have:=zagu (f:=cI) (sz:=1) (z:=[.int .i64 0]) (pickL xs ys) (zrP j D.any);rw [hd] at this;simp [go_sem,this]) (by omega) (by simp [Qu];omega) (by simp [Qu];omega) ?_);refine Qc (id:=7) Jb [] (by kernel_rfl) ?_;simp [-zg,-zd,↓Qb,↓Qa,go_sem,hd,(show (cat cI (pickL xs ys) ++ zrP j D.any).take ys.length = cat cI (pickL xs ys) from Xo _ _ hd.symm)]
 | refine Qe (c:=.tmp 14) ?_;simp [-zg,-zd,↓Qb,↓Qa,go_sem];try first | (refine ⟨?_,?_⟩ <;> refine zA ?_) | (refine ⟨fun c14=>?_,fun c14=>?_⟩ <;> (try simp [B_iff,B_not] at c14))
 | (refine Qf (id:=0) (Xc (ι:=Nat) (fun k:Nat=>⟨(upd (upd (upd (upd (upd (upd (fun _=>.any) 0 (li cI xs)) 1 (li cI ys)) 5 (.sl b 1 0 ys.length cp)) 11 (li cI ys)) 12 (.int .i64 ys.length)) 13 (.int .i64 k)),upd (fun _=>none) b (some (fillC cI [.int .i64 0] 1 (pickL xs ys) k (zrP j .any)))⟩) (fun k=>k ≤ ys.length) (fun k=>ys.length - k) (0) ?_ ?_ ?_);exact Nat.zero_le _;((repeat' (first | exact Qi (by assumption) | exact Qk | refine Ql ?_ ?_ | refine Qj ?_)) <;> simp [-zg,-zd,↓Qb,↓Qa,go_sem,Ja]);rintro k hk)
 | (refine ⟨k + 1,by omega,by first | omega | (simp;done) | (simp;omega),?_⟩;((repeat' (first | exact Qi (by assumption) | exact Qk | refine Ql ?_ ?_ | refine Qj ?_)) <;> simp [-zg,-zd,↓Qb,↓Qa,go_sem,Ja]))
 | (refine Qf ?_)
 | (refine Qq ?_;simp [-zg,-zd,↓Qb,↓Qa,go_sem])
 | (refine Qp ?_;simp [-zg,-zd,↓Qb,↓Qa,go_sem])
 | (refine Qs ?_;simp [-zg,-zd,↓Qb,↓Qa,go_sem,Try.results37])
 | (intro hx;refine zA ?_)
 | (refine ⟨?_,?_⟩ <;> refine zA ?_)
 | (intro hx;constructor <;> intro hs)
 | (constructor <;> intro hs)
 | (refine ⟨?_,fun hs=>?_⟩;refine zA ?_)
 | (refine ⟨fun hs=>?_,?_⟩;rotate_left;refine zA ?_;rotate_left)))
@[go_sem] def zada:Con:=.pure fun
  | [.list n_xs c_xs,.list n_ys c_ys]=>((Is cI n_xs c_xs) ∧ (Is cI n_ys c_ys) ∧ ((de cI c_ys).length ≤ 1048576) ∧ (Places (de cI c_xs).length (de cI c_ys)),fr 1 cI (pickL (de cI c_xs) (de cI c_ys)))
  | _=>(False,.any)
theorem zahp:ConOk Try.prog 37 zada:=by
  refine ⟨Qn Try.func37 (by decide) rfl,fun args h=>?_⟩
  revert h
  dsimp only
  split
  · intro h
    obtain ⟨⟨xs,rfl,rfl⟩,⟨ys,rfl,rfl⟩,h0,h1⟩:=h
    try simp only [Qt] at *
    exact ⟨picked_pure xs ys h0 h1,by simp [go_sem]⟩
  · intro h
    exact h.elim
@[go_sem] def Γg14:FuncId → Con:=ext Γg13 37 zada
theorem Γg14_ok:∀ g,ConOk Try.prog g (Γg14 g):=Qo Jb zahp

@[go_sem] def Γg15:FuncId → Con:=Γg14
theorem Γg15_ok:∀ g,ConOk Try.prog g (Γg15 g):=Γg14_ok

@[go_sem] def Γg16:FuncId → Con:=Γg15
theorem Γg16_ok:∀ g,ConOk Try.prog g (Γg16 g):=Γg15_ok

@[go_sem] def Γg17:FuncId → Con:=Γg16
theorem Γg17_ok:∀ g,ConOk Try.prog g (Γg17 g):=Γg16_ok
end
end Go.Proofs.Ytmiimodggpjkmaa.Vm

