/-
  Traces' kit; lists cloned; marks of lists. No conditions.
-/
import Derived.Test.YtiilmjojffjhlaaDoorF7
namespace Go.Proofs.YtiilmjojffjhlaaDoor.Vm
open Go
open List renaming getD_eq_getElem?_getD → zg,drop_one → zd
noncomputable section
set_option linter.unusedVariables false
set_option linter.unusedSimpArgs false
set_option maxRecDepth 200000

@[go_sem] def Γg1:FuncId → Con:=Γ50
theorem Γg1_ok:∀ g,ConOk Tryd.prog g (Γg1 g):=Γ50_ok

@[go_sem] def Γg2:FuncId → Con:=Γg1
theorem Γg2_ok:∀ g,ConOk Tryd.prog g (Γg2 g):=Γg1_ok

@[go_sem] def Γg3:FuncId → Con:=Γg2
theorem Γg3_ok:∀ g,ConOk Tryd.prog g (Γg3 g):=Γg2_ok

theorem clip_spec (xs:List Int) (H:Hp):Spec Tryd.prog 22 [fr 1 cI xs] H (fr 1 cI xs) H:=by
  refine Spec.of_walk Tryd.func22 rfl (by simp [Tryd.f22]) fun B=>?_
  refine AW_mat 0 rfl fun b cp j hb hcp hj=>?_
  (repeat' (first
 | refine Xe ?_
 | refine Qd (id:=0) Γg3_ok [] (by kernel_rfl) ?_;simp [-zg,-zd,↓Qb,↓Qa,go_sem]
 | refine Qd (id:=1) Γg3_ok [] (by kernel_rfl) ?_;simp [-zg,-zd,↓Qb,↓Qa,go_sem,hcp];try (refine AW_unmat 2 (b:=b) (all:=cat cI xs ++ List.replicate j .any) rfl (by simp [go_sem]) (by omega) (by simp [Qw]) (by simp [Qw]) ?_)
 | (refine Qq ?_)
 | (refine Xd ?_;simp [-zg,-zd,↓Qb,↓Qa,go_sem])
 | (refine Xc ?_;simp [-zg,-zd,↓Qb,↓Qa,go_sem])
 | (refine Xf ?_;simp [-zg,-zd,↓Qb,↓Qa,go_sem,Tryd.results22])
 | (intro hx;refine zA ?_)
 | (refine ⟨?_,?_⟩ <;> refine zA ?_)
 | (intro hx;constructor <;> intro hs)
 | (constructor <;> intro hs)
 | (refine ⟨?_,fun hs=>?_⟩;refine zA ?_)
 | (refine ⟨fun hs=>?_,?_⟩;rotate_left;refine zA ?_;rotate_left)))
  all_goals (intro b' cs' h;refine ⟨?_,h⟩;rintro rfl;dsimp only at hb;rw [h] at hb;cases hb)
@[go_sem] def clipC:Con:=.gen fun args H=>match args with
  | [.fr 1 n cs]=>(Is cI n cs,fr 1 cI (de cI cs),H)
  | _=>(False,.any,H)
theorem clipC_ok:ConOk Tryd.prog 22 clipC:=by
  refine ⟨Qz Tryd.func22 (by decide) rfl,fun args H h=>?_⟩
  revert h
  dsimp only
  split
  · rintro ⟨xs,rfl,rfl⟩
    rw [Xt]
    exact clip_spec xs H
  · intro h
    exact h.elim
@[go_sem] def Γg4:FuncId → Con:=ext Γg3 22 clipC
theorem Γg4_ok:∀ g,ConOk Tryd.prog g (Γg4 g):=Xn Γg3_ok clipC_ok

@[go_sem] theorem cat_isEmpty {α:Type} {f:α → List D} {sz:Nat} [Wide f sz] (xs:List α):(cat f xs).isEmpty = xs.isEmpty:=by
  rw [Bool.eq_iff_iff,List.isEmpty_iff,List.isEmpty_iff]
  have:=cat_nil_iff (f:=f) xs
  rw [this]

theorem Clone_pure (xs:List Int) (h0:xs.length ≤ 1048576):Pure Tryd.prog 23 [li cI xs] (fr 1 cI xs):=by
  refine Pure.of_walk Tryd.func23 rfl (by simp [Tryd.f23]) (by simp [-zd,go_sem]) fun B hK=>?_
  by_cases hn:xs = []
  all_goals (repeat' (first
 | refine Xe ?_
 | refine Qd (id:=0) Γg4_ok [] (by kernel_rfl) ?_;simp [-zg,-zd,↓Qb,↓Qa,go_sem,hn]
 | refine Qd (id:=1) Γg4_ok [] (by kernel_rfl) ?_;simp [-zg,-zd,↓Qb,↓Qa,go_sem,hn]
 | refine Qd (id:=2) Γg4_ok [] (by kernel_rfl) ?_;simp [-zg,-zd,↓Qb,↓Qa,go_sem,hn];try (try (refine AW_nilfr 2 1 rfl ?_))
 | refine Qd (id:=3) Γg4_ok [] (by kernel_rfl) ?_;simp [-zg,-zd,↓Qb,↓Qa,go_sem,(by omega:xs.length ≤ 9223372036854775807),(by omega:2 * xs.length * 8 ≤ 281474976710656),hn]
 | refine Qm (c:=.tmp 4) ?_;simp [-zg,-zd,↓Qb,↓Qa,go_sem,hn];try first | (refine ⟨?_,?_⟩ <;> refine zA ?_) | (refine ⟨fun c4=>?_,fun c4=>?_⟩ <;> (try simp [B_iff,B_not] at c4))
 | (refine Qq ?_)
 | (refine Xd ?_;simp [-zg,-zd,↓Qb,↓Qa,go_sem])
 | (refine Xc ?_;simp [-zg,-zd,↓Qb,↓Qa,go_sem])
 | (refine Xf ?_;simp [-zg,-zd,↓Qb,↓Qa,go_sem,Tryd.results23,hn])
 | (intro hx;refine zA ?_)
 | (refine ⟨?_,?_⟩ <;> refine zA ?_)
 | (intro hx;constructor <;> intro hs)
 | (constructor <;> intro hs)
 | (refine ⟨?_,fun hs=>?_⟩;refine zA ?_)
 | (refine ⟨fun hs=>?_,?_⟩;rotate_left;refine zA ?_;rotate_left)))
@[go_sem] def zacm:Con:=.pure fun
  | [.list n_xs c_xs]=>((Is cI n_xs c_xs) ∧ ((de cI c_xs).length ≤ 1048576),fr 1 cI (de cI c_xs))
  | _=>(False,.any)
theorem Clone_pureC_ok:ConOk Tryd.prog 23 zacm:=by
  refine ⟨Qz Tryd.func23 (by decide) rfl,fun args h=>?_⟩
  revert h
  dsimp only
  split
  · intro h
    obtain ⟨⟨xs,rfl,rfl⟩,h0⟩:=h
    try simp only [Xt] at *
    exact ⟨Clone_pure xs h0,by simp [go_sem]⟩
  · intro h
    exact h.elim
@[go_sem] def Γg5:FuncId → Con:=ext Γg4 23 zacm
theorem Γg5_ok:∀ g,ConOk Tryd.prog g (Γg5 g):=Xn Γg4_ok Clone_pureC_ok

theorem clone_pure (xs:List Int) (h0:xs.length ≤ 1048576):Pure Tryd.prog 13 [li cI xs] (fr 1 cI xs):=by
  refine Pure.of_walk Tryd.func13 rfl (by simp [Tryd.f13]) (by simp [-zd,go_sem]) fun B hK=>?_
  (repeat' (first
 | refine Xe ?_
 | refine Qd (id:=0) Γg5_ok [] (by kernel_rfl) ?_;simp [-zg,-zd,↓Qb,↓Qa,go_sem]
 | refine Qd (id:=1) Γg5_ok [] (by kernel_rfl) ?_;simp [-zg,-zd,↓Qb,↓Qa,go_sem,h0]
 | (refine Qq ?_)
 | (refine Xd ?_;simp [-zg,-zd,↓Qb,↓Qa,go_sem])
 | (refine Xc ?_;simp [-zg,-zd,↓Qb,↓Qa,go_sem])
 | (refine Xf ?_;simp [-zg,-zd,↓Qb,↓Qa,go_sem,Tryd.results13])
 | (intro hx;refine zA ?_)
 | (refine ⟨?_,?_⟩ <;> refine zA ?_)
 | (intro hx;constructor <;> intro hs)
 | (constructor <;> intro hs)
 | (refine ⟨?_,fun hs=>?_⟩;refine zA ?_)
 | (refine ⟨fun hs=>?_,?_⟩;rotate_left;refine zA ?_;rotate_left)))
@[go_sem] def zacj:Con:=.pure fun
  | [.list n_xs c_xs]=>((Is cI n_xs c_xs) ∧ ((de cI c_xs).length ≤ 1048576),fr 1 cI (de cI c_xs))
  | _=>(False,.any)
theorem clone_pureC_ok:ConOk Tryd.prog 13 zacj:=by
  refine ⟨Qz Tryd.func13 (by decide) rfl,fun args h=>?_⟩
  revert h
  dsimp only
  split
  · intro h
    obtain ⟨⟨xs,rfl,rfl⟩,h0⟩:=h
    try simp only [Xt] at *
    exact ⟨clone_pure xs h0,by simp [go_sem]⟩
  · intro h
    exact h.elim
@[go_sem] def Γg6:FuncId → Con:=ext Γg5 13 zacj
theorem Xh:∀ g,ConOk Tryd.prog g (Γg6 g):=Xn Γg5_ok clone_pureC_ok

def marks (k:Int) (n:Nat):List Int:=(List.range n).map fun (i:Nat)=>k + i
theorem zabk (k:Int) (n:Nat):(marks k n).length = n:=by simp [marks]
theorem nth_marks {k:Int} {n i:Nat} (h:i < n):nth (marks k n) i = k + i:=by rw [Qs (by rw [zabk];exact h)];simp [marks]
def mk (k:Int) (xs:List Int) (i:Nat):List Int:=marks k i ++ xs.drop i
theorem mk_zero (k:Int) (xs:List Int):mk k xs 0 = xs:=by simp [mk,marks]
theorem mk_all (k:Int) (xs:List Int):mk k xs xs.length = marks k xs.length:=by simp [mk]
theorem mk_len {k:Int} {xs:List Int} {i:Nat} (h:i < xs.length):(mk k xs i).length = xs.length:=by simp [mk,zabk];omega
theorem mk_store {k:Int} {xs:List Int} {i:Nat} (h:i < xs.length) (junk:List D):stSeg (cat cI (mk k xs i) ++ junk) i [.int .i64 (k + i)] = cat cI (mk k xs (i + 1)) ++ junk:=by
  unfold stSeg
  have e:cat cI (mk k xs i) ++ junk = cat cI (marks k i) ++ (cat cI (xs.drop i) ++ junk):=by rw [mk,zaao,List.append_assoc]
  have l:(cat cI (marks k i)).length = i:=by rw [Qw,zabk];omega
  have q:=zade (cat cI (marks k i)) [.int .i64 (k + i)] (cat cI (xs.drop i) ++ junk) (by rw [List.length_append,Qw];simp;omega)
  rw [l] at q
  rw [e,q,cat_split h,mk]
  have m:marks k (i + 1) = marks k i ++ [k + i]:=by simp [marks,List.range_succ]
  rw [m,zaao,zaao,cat_one]
  simp [cI]
@[go_sem] theorem cat_drop_app1 {α:Type} {f:α → List D} [Wide f 1] (xs:List α) (ys:List D):(cat f xs ++ ys).drop xs.length = ys:=by
  have:=Qw (f:=f) xs
  rw [Nat.mul_one] at this
  rw [← this,List.drop_left'];rfl

theorem markI_spec (xs:List Int) (k:Int) (b cp:Nat) (junk:List D) (H:Hp) (hH:H b = some (cat cI xs ++ junk)) (h0:0 ≤ k) (h1:k + xs.length ≤ 1099511627776) :
    Spec Tryd.prog 16 [.sl b 1 0 xs.length cp,.int .i64 k] H (.int .i64 (k + xs.length)) (upd H b (some (cat cI (marks k xs.length) ++ junk))):=by
  refine Spec.of_walk Tryd.func16 rfl (by simp [Tryd.f16]) fun B=>?_
  (repeat' (first
 | refine Xe ?_
 | refine Qd (id:=0) Xh [] (by kernel_rfl) ?_;simp [-zg,-zd,↓Qb,↓Qa,go_sem]
 | refine Qd (id:=1) Xh [] (by kernel_rfl) ?_;simp [-zg,-zd,↓Qb,↓Qa,go_sem]
 | refine Qd (id:=2) Xh [] (by kernel_rfl) ?_;simp [-zg,-zd,↓Qb,↓Qa,go_sem]
 | refine Qd (id:=4) Xh [] (by kernel_rfl) ?_;simp [-zg,-zd,↓Qb,↓Qa,go_sem,c9,Xw c9,Nat.sub_pos_of_lt c9,mk_len c9,mk_store c9,(show i + 1 ≤ xs.length + junk.length by omega),(show i < xs.length + junk.length by omega)]
 | refine Qd (id:=5) Xh [] (by kernel_rfl) ?_;simp [-zg,-zd,↓Qb,↓Qa,go_sem,Zg (x:=k + (i:Int) + 1) (by omega) (by omega)]
 | refine Qd (id:=3) Xh [] (by kernel_rfl) ?_;simp [-zg,-zd,↓Qb,↓Qa,go_sem,wrapS (k:=i) (by omega)]
 | refine Qd (id:=6) Xh [] (by kernel_rfl) ?_;simp [-zg,-zd,↓Qb,↓Qa,go_sem]
 | refine Qm (c:=.tmp 9) ?_;simp [-zg,-zd,↓Qb,↓Qa,go_sem];try first | (refine ⟨?_,?_⟩ <;> refine zA ?_) | (refine ⟨fun c9=>?_,fun c9=>?_⟩ <;> (try simp [B_iff,B_not] at c9))
 | (refine Qq (id:=0) (zaec (ι:=Nat) (fun i:Nat=>⟨(upd (upd (upd (fun _=>.any) 0 (.sl b 1 0 xs.length cp)) 1 (.int .i64 (k + i))) 5 (.int .i64 i)),upd H b (some (cat cI (mk k xs i) ++ junk))⟩) (fun i=>i ≤ xs.length) (fun i=>xs.length - i) (0) ?_ ?_ ?_);exact Nat.zero_le _;((repeat' (first | exact Xi (by assumption) | exact Xk | refine Xm ?_ ?_ | refine Xj ?_)) <;> simp [-zg,-zd,↓Qb,↓Qa,go_sem,mk_zero,zabo hH]);rintro i hi)
 | (refine ⟨i + 1,by omega,by first | omega | (simp;done) | (simp;omega),?_⟩;((repeat' (first | exact Xi (by assumption) | exact Xk | refine Xm ?_ ?_ | refine Xj ?_)) <;> simp [-zg,-zd,↓Qb,↓Qa,go_sem,(show k + ((i:Int) + 1) = k + (i:Int) + 1 by omega),(show k + ((i + 1:Nat):Int) = k + (i:Int) + 1 by omega)]))
 | (refine Qq ?_)
 | (refine Xd ?_;simp [-zg,-zd,↓Qb,↓Qa,go_sem])
 | (refine Xc ?_;simp [-zg,-zd,↓Qb,↓Qa,go_sem])
 | (refine Xf ?_;simp [-zg,-zd,↓Qb,↓Qa,go_sem,Tryd.results16])
 | (intro hx;refine zA ?_)
 | (refine ⟨?_,?_⟩ <;> refine zA ?_)
 | (intro hx;constructor <;> intro hs)
 | (constructor <;> intro hs)
 | (refine ⟨?_,fun hs=>?_⟩;refine zA ?_)
 | (refine ⟨fun hs=>?_,?_⟩;rotate_left;refine zA ?_;rotate_left)))
  all_goals (first
 | (obtain rfl:i = xs.length:=(by omega);rw [mk_all];exact ⟨rfl,fun _ _ h=>h⟩)
 | skip)
theorem markNil_spec (k:Int) (H:Hp):Spec Tryd.prog 16 [.nil,.int .i64 k] H (.int .i64 k) H:=by
  refine Spec.of_walk Tryd.func16 rfl (by simp [Tryd.f16]) fun B=>?_
  (repeat' (first
 | refine Xe ?_
 | refine Qd (id:=0) Xh [] (by kernel_rfl) ?_;simp [-zg,-zd,↓Qb,↓Qa,go_sem]
 | refine Qd (id:=1) Xh [] (by kernel_rfl) ?_;simp [-zg,-zd,↓Qb,↓Qa,go_sem]
 | refine Qd (id:=2) Xh [] (by kernel_rfl) ?_;simp [-zg,-zd,↓Qb,↓Qa,go_sem]
 | refine Qd (id:=4) Xh [] (by kernel_rfl) ?_;simp [-zg,-zd,↓Qb,↓Qa,go_sem]
 | refine Qd (id:=5) Xh [] (by kernel_rfl) ?_;simp [-zg,-zd,↓Qb,↓Qa,go_sem]
 | refine Qd (id:=3) Xh [] (by kernel_rfl) ?_;simp [-zg,-zd,↓Qb,↓Qa,go_sem]
 | refine Qd (id:=6) Xh [] (by kernel_rfl) ?_;simp [-zg,-zd,↓Qb,↓Qa,go_sem]
 | refine Qm (c:=.tmp 9) ?_;simp [-zg,-zd,↓Qb,↓Qa,go_sem];try first | (refine ⟨?_,?_⟩ <;> refine zA ?_) | (refine ⟨fun c9=>?_,fun c9=>?_⟩ <;> (try simp [B_iff,B_not] at c9))
 | (refine Qq (id:=0) (zaec (ι:=Unit) (fun i:Unit=>⟨(upd (upd (upd (fun _=>.any) 0 (.nil)) 1 (.int .i64 k)) 5 (.int .i64 0)),H⟩) (fun i=>True) (fun i=>0) (()) ?_ ?_ ?_);exact trivial;((repeat' (first | exact Xi (by assumption) | exact Xk | refine Xm ?_ ?_ | refine Xj ?_)) <;> simp [-zg,-zd,↓Qb,↓Qa,go_sem]);rintro i hi)
 | (refine ⟨(),trivial,by first | omega | (simp;done) | (simp;omega),?_⟩;((repeat' (first | exact Xi (by assumption) | exact Xk | refine Xm ?_ ?_ | refine Xj ?_)) <;> simp [-zg,-zd,↓Qb,↓Qa,go_sem]))
 | (refine Qq ?_)
 | (refine Xd ?_;simp [-zg,-zd,↓Qb,↓Qa,go_sem])
 | (refine Xc ?_;simp [-zg,-zd,↓Qb,↓Qa,go_sem])
 | (refine Xf ?_;simp [-zg,-zd,↓Qb,↓Qa,go_sem,Tryd.results16])
 | (intro hx;refine zA ?_)
 | (refine ⟨?_,?_⟩ <;> refine zA ?_)
 | (intro hx;constructor <;> intro hs)
 | (constructor <;> intro hs)
 | (refine ⟨?_,fun hs=>?_⟩;refine zA ?_)
 | (refine ⟨fun hs=>?_,?_⟩;rotate_left;refine zA ?_;rotate_left)
 | (exfalso;omega)))
@[go_sem] def markIC:Con:=.gen fun args H=>match args with
  | [.sl b 1 0 n _,.int .i64 k]=>match H b with
    | some all=>(n ≤ all.length ∧ Is cI n (all.take n) ∧ 0 ≤ k ∧ k + n ≤ 1099511627776,.int .i64 (k + n),upd H b (some (cat cI (marks k n) ++ all.drop n)))
    | none=>(False,.any,H)
  | [.nil,.int .i64 k]=>(True,.int .i64 k,H)
  | _=>(False,.any,H)
theorem markIC_ok:ConOk Tryd.prog 16 markIC:=by
  refine ⟨Qz Tryd.func16 (by decide) rfl,fun args H h=>?_⟩
  revert h
  dsimp only
  split
  · rename_i b n cp k
    split
    · rename_i all hH
      rintro ⟨g1,⟨xs,hn,he⟩,g2,g3⟩
      subst hn
      have:all = cat cI xs ++ all.drop xs.length:=by rw [← he,List.take_append_drop]
      rw [this] at hH
      have:=markI_spec xs k b cp _ H hH g2 g3
      exact this
    · intro h;exact h.elim
  · intro _
    exact markNil_spec _ H
  · intro h
    exact h.elim
@[go_sem] def Γg7:FuncId → Con:=ext Γg6 16 markIC
theorem Xz:∀ g,ConOk Tryd.prog g (Γg7 g):=Xn Xh markIC_ok

def heldI (k:Int) (xs:List Int):Int:=if xs = marks k xs.length then k + xs.length else -1
@[go_sem] theorem zabl (k:Int) (n:Nat):heldI k (marks k n) = k + n:=by simp [heldI,zabk]
@[go_sem] theorem zacu (k:Int):heldI k [] = k:=by simp [heldI,marks]

theorem heldI_pure (xs:List Int) (k:Int) (h0:0 ≤ k) (h1:k + xs.length ≤ 1099511627776):Pure Tryd.prog 17 [li cI xs,.int .i64 k] (.int .i64 (heldI k xs)):=by
  refine Pure.of_walk Tryd.func17 rfl (by simp [Tryd.f17]) (by simp [-zd,go_sem]) fun B hK=>?_
  (repeat' (first
 | refine Xe ?_
 | refine Qd (id:=0) Xz [] (by kernel_rfl) ?_;simp [-zg,-zd,↓Qb,↓Qa,go_sem]
 | refine Qd (id:=1) Xz [] (by kernel_rfl) ?_;simp [-zg,-zd,↓Qb,↓Qa,go_sem]
 | refine Qd (id:=2) Xz [] (by kernel_rfl) ?_;simp [-zg,-zd,↓Qb,↓Qa,go_sem]
 | refine Qd (id:=4) Xz [] (by kernel_rfl) ?_;simp [-zg,-zd,↓Qb,↓Qa,go_sem,c9,Xw c9,Nat.sub_pos_of_lt c9]
 | refine Qd (id:=5) Xz [] (by kernel_rfl) ?_;simp [-zg,-zd,↓Qb,↓Qa,go_sem]
 | refine Qd (id:=6) Xz [] (by kernel_rfl) ?_;simp [-zg,-zd,↓Qb,↓Qa,go_sem,Zg (x:=k + (i:Int) + 1) (by omega) (by omega)]
 | refine Qd (id:=3) Xz [] (by kernel_rfl) ?_;simp [-zg,-zd,↓Qb,↓Qa,go_sem,wrapS (k:=i) (by omega)]
 | refine Qd (id:=7) Xz [] (by kernel_rfl) ?_;simp [-zg,-zd,↓Qb,↓Qa,go_sem]
 | refine Qm (c:=.tmp 9) ?_;simp [-zg,-zd,↓Qb,↓Qa,go_sem];try first | (refine ⟨?_,?_⟩ <;> refine zA ?_) | (refine ⟨fun c9=>?_,fun c9=>?_⟩ <;> (try simp [B_iff,B_not] at c9))
 | refine Qm (c:=.tmp 17) ?_;simp [-zg,-zd,↓Qb,↓Qa,go_sem];try first | (refine ⟨?_,?_⟩ <;> refine zA ?_) | (refine ⟨fun c17=>?_,fun c17=>?_⟩ <;> (try simp [B_iff,B_not] at c17))
 | (refine Qq (id:=0) (zaec (ι:=Nat) (fun i:Nat=>⟨(upd (upd (upd (fun _=>.any) 0 (li cI xs)) 1 (.int .i64 (k + i))) 5 (.int .i64 i)),fun _=>none⟩) (fun i=>i ≤ xs.length ∧ NoneTill (fun j=>!decide (nth xs j = k + j)) i) (fun i=>xs.length - i) (0) ?_ ?_ ?_);exact ⟨Nat.zero_le _,.zero _⟩;((repeat' (first | exact Xi (by assumption) | exact Xk | refine Xm ?_ ?_ | refine Xj ?_)) <;> simp [-zg,-zd,↓Qb,↓Qa,go_sem]);rintro i ⟨hi,ht⟩)
 | (refine ⟨i + 1,⟨by omega,ht.succ (by simp [c17])⟩,by first | omega | (simp;done) | (simp;omega),?_⟩;((repeat' (first | exact Xi (by assumption) | exact Xk | refine Xm ?_ ?_ | refine Xj ?_)) <;> simp [-zg,-zd,↓Qb,↓Qa,go_sem,(show k + ((i:Int) + 1) = k + (i:Int) + 1 by omega),(show k + ((i + 1:Nat):Int) = k + (i:Int) + 1 by omega)]))
 | (refine Qq ?_)
 | (refine Xd ?_;simp [-zg,-zd,↓Qb,↓Qa,go_sem])
 | (refine Xc ?_;simp [-zg,-zd,↓Qb,↓Qa,go_sem])
 | (refine Xf ?_;simp [-zg,-zd,↓Qb,↓Qa,go_sem,Tryd.results17])
 | (intro hx;refine zA ?_)
 | (refine ⟨?_,?_⟩ <;> refine zA ?_)
 | (intro hx;constructor <;> intro hs)
 | (constructor <;> intro hs)
 | (refine ⟨?_,fun hs=>?_⟩;refine zA ?_)
 | (refine ⟨fun hs=>?_,?_⟩;rotate_left;refine zA ?_;rotate_left)))
  all_goals (first
 | (rw [heldI,if_neg];intro e;apply c17;have:=nth_marks (k:=k) c9;rw [← e] at this;exact this)
 | (obtain rfl:i = xs.length:=(by omega);rw [heldI,if_pos];apply List.ext_getElem (by rw [zabk]);intro j h1 h2;have:=ht j h1;simp at this;rw [← Qs h1,← Qs h2,nth_marks h1,this])
 | skip)
@[go_sem] def zacf:Con:=.pure fun
  | [.list n_xs c_xs,.int .i64 k]=>((Is cI n_xs c_xs) ∧ (0 ≤ k) ∧ (k + (de cI c_xs).length ≤ 1099511627776),.int .i64 (heldI k (de cI c_xs)))
  | _=>(False,.any)
theorem heldI_pureC_ok:ConOk Tryd.prog 17 zacf:=by
  refine ⟨Qz Tryd.func17 (by decide) rfl,fun args h=>?_⟩
  revert h
  dsimp only
  split
  · intro h
    obtain ⟨⟨xs,rfl,rfl⟩,h0,h1⟩:=h
    try simp only [Xt] at *
    exact ⟨heldI_pure xs _ h0 h1,by simp [go_sem]⟩
  · intro h
    exact h.elim
@[go_sem] def Γg8:FuncId → Con:=ext Γg7 17 zacf
theorem Γg8_ok:∀ g,ConOk Tryd.prog g (Γg8 g):=Xn Xz heldI_pureC_ok

end
end Go.Proofs.YtiilmjojffjhlaaDoor.Vm

