import Derived.Test.YtiilmjojffjhlaaGreatDoorKF7
import Derived.Test.YtiilmjojffjhlaaGreatDoorKVm15
/-
  Traces' kit; lists cloned; marks of lists. No conditions.
-/
namespace Go.Proofs.YtiilmjojffjhlaaGreatDoor.Vm
open Go
set_option linter.unusedVariables false
set_option linter.unusedSimpArgs false
set_option maxRecDepth 200000

noncomputable def Γg1:FuncId → Con:=Γ50
attribute [go_sem] Γg1
theorem Γg1_ok:∀ g,ConOk Tryz.prog g (Γg1 g):=Γ50_ok

noncomputable def Γg2:FuncId → Con:=Γg1
attribute [go_sem] Γg2
theorem Γg2_ok:∀ g,ConOk Tryz.prog g (Γg2 g):=Γg1_ok

noncomputable def Γg3:FuncId → Con:=Γg2
attribute [go_sem] Γg3
theorem Γg3_ok:∀ g,ConOk Tryz.prog g (Γg3 g):=Γg2_ok

theorem clip_spec (xs:List Int) (H:Hp):Spec Tryz.prog 65 [fr 1 cI xs] H (fr 1 cI xs) H:=by
  refine Spec.of_walk Tryz.func65 rfl (by simp [Tryz.f65]) fun B=>?_
  refine AW_mat 0 rfl fun b cp j hb hcp hj=>?_
  (repeat' (first
 | refine Qr ?_
 | refine Qc (id:=0) Γg3_ok [] (by kernel_rfl) ?_;simp [-List.getD_eq_getElem?_getD,-List.drop_one,↓Qb,↓Qa,go_sem]
 | refine Qc (id:=1) Γg3_ok [] (by kernel_rfl) ?_;simp [-List.getD_eq_getElem?_getD,-List.drop_one,↓Qb,↓Qa,go_sem,hcp];try (refine AW_unmat 2 (b:=b) (all:=cat cI xs ++ List.replicate j .any) rfl (by simp [go_sem]) (by omega) (by simp [Qz]) (by simp [Qz]) ?_)
 | (refine Qg ?_)
 | (refine Qq ?_;simp [-List.getD_eq_getElem?_getD,-List.drop_one,↓Qb,↓Qa,go_sem])
 | (refine Qp ?_;simp [-List.getD_eq_getElem?_getD,-List.drop_one,↓Qb,↓Qa,go_sem])
 | (refine Qs ?_;simp [-List.getD_eq_getElem?_getD,-List.drop_one,↓Qb,↓Qa,go_sem,Tryz.results65])
 | (intro hx;refine zA ?_)
 | (refine ⟨?_,?_⟩ <;> refine zA ?_)
 | (intro hx;constructor <;> intro hs)
 | (constructor <;> intro hs)
 | (refine ⟨?_,fun hs=>?_⟩;refine zA ?_)
 | (refine ⟨fun hs=>?_,?_⟩;rotate_left;refine zA ?_;rotate_left)))
  all_goals (intro b' cs' h;refine ⟨?_,h⟩;rintro rfl;dsimp only at hb;rw [h] at hb;cases hb)
noncomputable def clipC:Con:=.gen fun args H=>match args with
  | [.fr 1 n cs]=>(Is cI n cs,fr 1 cI (de cI cs),H)
  | _=>(False,.any,H)
attribute [go_sem] clipC
theorem clipC_ok:ConOk Tryz.prog 65 clipC:=by
  refine ⟨Qn Tryz.func65 (by decide) rfl,fun args H h=>?_⟩
  revert h
  dsimp only
  split
  · rintro ⟨xs,rfl,rfl⟩
    rw [Xb]
    exact clip_spec xs H
  · intro h
    exact h.elim
noncomputable def Γg4:FuncId → Con:=ext Γg3 65 clipC
attribute [go_sem] Γg4
theorem Γg4_ok:∀ g,ConOk Tryz.prog g (Γg4 g):=Qu Γg3_ok clipC_ok

@[go_sem] theorem cat_isEmpty {α:Type} {f:α → List D} {sz:Nat} [Wide f sz] (xs:List α):(cat f xs).isEmpty = xs.isEmpty:=by
  rw [Bool.eq_iff_iff,List.isEmpty_iff,List.isEmpty_iff]
  have:=cat_nil_iff (f:=f) xs
  rw [this]

theorem Clone_pure (xs:List Int) (h0:xs.length ≤ 1048576):Pure Tryz.prog 66 [li cI xs] (fr 1 cI xs):=by
  refine Pure.of_walk Tryz.func66 rfl (by simp [Tryz.f66]) (by simp [-List.drop_one,go_sem]) fun B hK=>?_
  by_cases hn:xs = []
  all_goals (repeat' (first
 | refine Qr ?_
 | refine Qc (id:=0) Γg4_ok [] (by kernel_rfl) ?_;simp [-List.getD_eq_getElem?_getD,-List.drop_one,↓Qb,↓Qa,go_sem,hn]
 | refine Qc (id:=1) Γg4_ok [] (by kernel_rfl) ?_;simp [-List.getD_eq_getElem?_getD,-List.drop_one,↓Qb,↓Qa,go_sem,hn]
 | refine Qc (id:=2) Γg4_ok [] (by kernel_rfl) ?_;simp [-List.getD_eq_getElem?_getD,-List.drop_one,↓Qb,↓Qa,go_sem,hn];try (try (refine AW_nilfr 2 1 rfl ?_))
 | refine Qc (id:=3) Γg4_ok [] (by kernel_rfl) ?_;simp [-List.getD_eq_getElem?_getD,-List.drop_one,↓Qb,↓Qa,go_sem,(by omega:xs.length ≤ 9223372036854775807),(by omega:2 * xs.length * 8 ≤ 281474976710656),hn]
 | refine Qf (c:=.tmp 4) ?_;simp [-List.getD_eq_getElem?_getD,-List.drop_one,↓Qb,↓Qa,go_sem,hn];try first | (refine ⟨?_,?_⟩ <;> refine zA ?_) | (refine ⟨fun c4=>?_,fun c4=>?_⟩ <;> (try simp [B_iff,B_not] at c4))
 | (refine Qg ?_)
 | (refine Qq ?_;simp [-List.getD_eq_getElem?_getD,-List.drop_one,↓Qb,↓Qa,go_sem])
 | (refine Qp ?_;simp [-List.getD_eq_getElem?_getD,-List.drop_one,↓Qb,↓Qa,go_sem])
 | (refine Qs ?_;simp [-List.getD_eq_getElem?_getD,-List.drop_one,↓Qb,↓Qa,go_sem,Tryz.results66,hn])
 | (intro hx;refine zA ?_)
 | (refine ⟨?_,?_⟩ <;> refine zA ?_)
 | (intro hx;constructor <;> intro hs)
 | (constructor <;> intro hs)
 | (refine ⟨?_,fun hs=>?_⟩;refine zA ?_)
 | (refine ⟨fun hs=>?_,?_⟩;rotate_left;refine zA ?_;rotate_left)))
noncomputable def zaee:Con:=.pure fun
  | [.list n_xs c_xs]=>((Is cI n_xs c_xs) ∧ ((de cI c_xs).length ≤ 1048576),fr 1 cI (de cI c_xs))
  | _=>(False,.any)
attribute [go_sem] zaee
theorem Clone_pureC_ok:ConOk Tryz.prog 66 zaee:=by
  refine ⟨Qn Tryz.func66 (by decide) rfl,fun args h=>?_⟩
  revert h
  dsimp only
  split
  · intro h
    obtain ⟨⟨xs,rfl,rfl⟩,h0⟩:=h
    try simp only [Xb] at *
    exact ⟨Clone_pure xs h0,by simp [go_sem]⟩
  · intro h
    exact h.elim
noncomputable def Γg5:FuncId → Con:=ext Γg4 66 zaee
attribute [go_sem] Γg5
theorem Γg5_ok:∀ g,ConOk Tryz.prog g (Γg5 g):=Qu Γg4_ok Clone_pureC_ok

theorem clone_pure (xs:List Int) (h0:xs.length ≤ 1048576):Pure Tryz.prog 31 [li cI xs] (fr 1 cI xs):=by
  refine Pure.of_walk Tryz.func31 rfl (by simp [Tryz.f31]) (by simp [-List.drop_one,go_sem]) fun B hK=>?_
  (repeat' (first
 | refine Qr ?_
 | refine Qc (id:=0) Γg5_ok [] (by kernel_rfl) ?_;simp [-List.getD_eq_getElem?_getD,-List.drop_one,↓Qb,↓Qa,go_sem]
 | refine Qc (id:=1) Γg5_ok [] (by kernel_rfl) ?_;simp [-List.getD_eq_getElem?_getD,-List.drop_one,↓Qb,↓Qa,go_sem,h0]
 | (refine Qg ?_)
 | (refine Qq ?_;simp [-List.getD_eq_getElem?_getD,-List.drop_one,↓Qb,↓Qa,go_sem])
 | (refine Qp ?_;simp [-List.getD_eq_getElem?_getD,-List.drop_one,↓Qb,↓Qa,go_sem])
 | (refine Qs ?_;simp [-List.getD_eq_getElem?_getD,-List.drop_one,↓Qb,↓Qa,go_sem,Tryz.results31])
 | (intro hx;refine zA ?_)
 | (refine ⟨?_,?_⟩ <;> refine zA ?_)
 | (intro hx;constructor <;> intro hs)
 | (constructor <;> intro hs)
 | (refine ⟨?_,fun hs=>?_⟩;refine zA ?_)
 | (refine ⟨fun hs=>?_,?_⟩;rotate_left;refine zA ?_;rotate_left)))
noncomputable def zaea:Con:=.pure fun
  | [.list n_xs c_xs]=>((Is cI n_xs c_xs) ∧ ((de cI c_xs).length ≤ 1048576),fr 1 cI (de cI c_xs))
  | _=>(False,.any)
attribute [go_sem] zaea
theorem clone_pureC_ok:ConOk Tryz.prog 31 zaea:=by
  refine ⟨Qn Tryz.func31 (by decide) rfl,fun args h=>?_⟩
  revert h
  dsimp only
  split
  · intro h
    obtain ⟨⟨xs,rfl,rfl⟩,h0⟩:=h
    try simp only [Xb] at *
    exact ⟨clone_pure xs h0,by simp [go_sem]⟩
  · intro h
    exact h.elim
noncomputable def Γg6:FuncId → Con:=ext Γg5 31 zaea
attribute [go_sem] Γg6
theorem Zb:∀ g,ConOk Tryz.prog g (Γg6 g):=Qu Γg5_ok clone_pureC_ok

def marks (k:Int) (n:Nat):List Int:=(List.range n).map fun (i:Nat)=>k + i
theorem Jr (k:Int) (n:Nat):(marks k n).length = n:=by simp [marks]
theorem nth_marks {k:Int} {n i:Nat} (h:i < n):nth (marks k n) i = k + i:=by rw [nth_lt (by rw [Jr];exact h)];simp [marks]
def mk (k:Int) (xs:List Int) (i:Nat):List Int:=marks k i ++ xs.drop i
theorem mk_zero (k:Int) (xs:List Int):mk k xs 0 = xs:=by simp [mk,marks]
theorem mk_all (k:Int) (xs:List Int):mk k xs xs.length = marks k xs.length:=by simp [mk]
theorem mk_len {k:Int} {xs:List Int} {i:Nat} (h:i < xs.length):(mk k xs i).length = xs.length:=by simp [mk,Jr];omega
theorem mk_store {k:Int} {xs:List Int} {i:Nat} (h:i < xs.length) (junk:List D):stSeg (cat cI (mk k xs i) ++ junk) i [.int .i64 (k + i)] = cat cI (mk k xs (i + 1)) ++ junk:=by
  unfold stSeg
  have e:cat cI (mk k xs i) ++ junk = cat cI (marks k i) ++ (cat cI (xs.drop i) ++ junk):=by rw [mk,Jg,List.append_assoc]
  have l:(cat cI (marks k i)).length = i:=by rw [Qz,Jr];omega
  have q:=zafe (cat cI (marks k i)) [.int .i64 (k + i)] (cat cI (xs.drop i) ++ junk) (by rw [List.length_append,Qz];simp;omega)
  rw [l] at q
  rw [e,q,cat_split h,mk]
  have m:marks k (i + 1) = marks k i ++ [k + i]:=by simp [marks,List.range_succ]
  rw [m,Jg,Jg,Ve]
  simp [cI]
@[go_sem] theorem cat_drop_app1 {α:Type} {f:α → List D} [Wide f 1] (xs:List α) (ys:List D):(cat f xs ++ ys).drop xs.length = ys:=by
  have:=Qz (f:=f) xs
  rw [Nat.mul_one] at this
  rw [← this,List.drop_left'];rfl

theorem markI_spec (xs:List Int) (k:Int) (b cp:Nat) (junk:List D) (H:Hp) (hH:H b = some (cat cI xs ++ junk)) (h0:0 ≤ k) (h1:k + xs.length ≤ 1099511627776) :
    Spec Tryz.prog 36 [.sl b 1 0 xs.length cp,.int .i64 k] H (.int .i64 (k + xs.length)) (upd H b (some (cat cI (marks k xs.length) ++ junk))):=by
  refine Spec.of_walk Tryz.func36 rfl (by simp [Tryz.f36]) fun B=>?_
  (repeat' (first
 | refine Qr ?_
 | refine Qc (id:=0) Zb [] (by kernel_rfl) ?_;simp [-List.getD_eq_getElem?_getD,-List.drop_one,↓Qb,↓Qa,go_sem]
 | refine Qc (id:=1) Zb [] (by kernel_rfl) ?_;simp [-List.getD_eq_getElem?_getD,-List.drop_one,↓Qb,↓Qa,go_sem]
 | refine Qc (id:=2) Zb [] (by kernel_rfl) ?_;simp [-List.getD_eq_getElem?_getD,-List.drop_one,↓Qb,↓Qa,go_sem]
 | refine Qc (id:=4) Zb [] (by kernel_rfl) ?_;simp [-List.getD_eq_getElem?_getD,-List.drop_one,↓Qb,↓Qa,go_sem,c9,Qh c9,Nat.sub_pos_of_lt c9,mk_len c9,mk_store c9,(show i + 1 ≤ xs.length + junk.length by omega),(show i < xs.length + junk.length by omega)]
 | refine Qc (id:=5) Zb [] (by kernel_rfl) ?_;simp [-List.getD_eq_getElem?_getD,-List.drop_one,↓Qb,↓Qa,go_sem,wrap_in (x:=k + (i:Int) + 1) (by omega) (by omega)]
 | refine Qc (id:=3) Zb [] (by kernel_rfl) ?_;simp [-List.getD_eq_getElem?_getD,-List.drop_one,↓Qb,↓Qa,go_sem,wrapS (k:=i) (by omega)]
 | refine Qc (id:=6) Zb [] (by kernel_rfl) ?_;simp [-List.getD_eq_getElem?_getD,-List.drop_one,↓Qb,↓Qa,go_sem]
 | refine Qf (c:=.tmp 9) ?_;simp [-List.getD_eq_getElem?_getD,-List.drop_one,↓Qb,↓Qa,go_sem];try first | (refine ⟨?_,?_⟩ <;> refine zA ?_) | (refine ⟨fun c9=>?_,fun c9=>?_⟩ <;> (try simp [B_iff,B_not] at c9))
 | (refine Qg (id:=0) (Xc (ι:=Nat) (fun i:Nat=>⟨(upd (upd (upd (fun _=>.any) 0 (.sl b 1 0 xs.length cp)) 1 (.int .i64 (k + i))) 5 (.int .i64 i)),upd H b (some (cat cI (mk k xs i) ++ junk))⟩) (fun i=>i ≤ xs.length) (fun i=>xs.length - i) (0) ?_ ?_ ?_);exact Nat.zero_le _;((repeat' (first | exact Qj (by assumption) | exact Ql | refine Qm ?_ ?_ | refine Qk ?_)) <;> simp [-List.getD_eq_getElem?_getD,-List.drop_one,↓Qb,↓Qa,go_sem,mk_zero,Jk hH]);rintro i hi)
 | (refine ⟨i + 1,by omega,by first | omega | (simp;done) | (simp;omega),?_⟩;((repeat' (first | exact Qj (by assumption) | exact Ql | refine Qm ?_ ?_ | refine Qk ?_)) <;> simp [-List.getD_eq_getElem?_getD,-List.drop_one,↓Qb,↓Qa,go_sem,(show k + ((i:Int) + 1) = k + (i:Int) + 1 by omega),(show k + ((i + 1:Nat):Int) = k + (i:Int) + 1 by omega)]))
 | (refine Qg ?_)
 | (refine Qq ?_;simp [-List.getD_eq_getElem?_getD,-List.drop_one,↓Qb,↓Qa,go_sem])
 | (refine Qp ?_;simp [-List.getD_eq_getElem?_getD,-List.drop_one,↓Qb,↓Qa,go_sem])
 | (refine Qs ?_;simp [-List.getD_eq_getElem?_getD,-List.drop_one,↓Qb,↓Qa,go_sem,Tryz.results36])
 | (intro hx;refine zA ?_)
 | (refine ⟨?_,?_⟩ <;> refine zA ?_)
 | (intro hx;constructor <;> intro hs)
 | (constructor <;> intro hs)
 | (refine ⟨?_,fun hs=>?_⟩;refine zA ?_)
 | (refine ⟨fun hs=>?_,?_⟩;rotate_left;refine zA ?_;rotate_left)))
  all_goals (first
 | (obtain rfl:i = xs.length:=(by omega);rw [mk_all];exact ⟨rfl,fun _ _ h=>h⟩)
 | skip)
theorem markNil_spec (k:Int) (H:Hp):Spec Tryz.prog 36 [.nil,.int .i64 k] H (.int .i64 k) H:=by
  refine Spec.of_walk Tryz.func36 rfl (by simp [Tryz.f36]) fun B=>?_
  (repeat' (first
 | refine Qr ?_
 | refine Qc (id:=0) Zb [] (by kernel_rfl) ?_;simp [-List.getD_eq_getElem?_getD,-List.drop_one,↓Qb,↓Qa,go_sem]
 | refine Qc (id:=1) Zb [] (by kernel_rfl) ?_;simp [-List.getD_eq_getElem?_getD,-List.drop_one,↓Qb,↓Qa,go_sem]
 | refine Qc (id:=2) Zb [] (by kernel_rfl) ?_;simp [-List.getD_eq_getElem?_getD,-List.drop_one,↓Qb,↓Qa,go_sem]
 | refine Qc (id:=4) Zb [] (by kernel_rfl) ?_;simp [-List.getD_eq_getElem?_getD,-List.drop_one,↓Qb,↓Qa,go_sem]
 | refine Qc (id:=5) Zb [] (by kernel_rfl) ?_;simp [-List.getD_eq_getElem?_getD,-List.drop_one,↓Qb,↓Qa,go_sem]
 | refine Qc (id:=3) Zb [] (by kernel_rfl) ?_;simp [-List.getD_eq_getElem?_getD,-List.drop_one,↓Qb,↓Qa,go_sem]
 | refine Qc (id:=6) Zb [] (by kernel_rfl) ?_;simp [-List.getD_eq_getElem?_getD,-List.drop_one,↓Qb,↓Qa,go_sem]
 | refine Qf (c:=.tmp 9) ?_;simp [-List.getD_eq_getElem?_getD,-List.drop_one,↓Qb,↓Qa,go_sem];try first | (refine ⟨?_,?_⟩ <;> refine zA ?_) | (refine ⟨fun c9=>?_,fun c9=>?_⟩ <;> (try simp [B_iff,B_not] at c9))
 | (refine Qg (id:=0) (Xc (ι:=Unit) (fun i:Unit=>⟨(upd (upd (upd (fun _=>.any) 0 (.nil)) 1 (.int .i64 k)) 5 (.int .i64 0)),H⟩) (fun i=>True) (fun i=>0) (()) ?_ ?_ ?_);exact trivial;((repeat' (first | exact Qj (by assumption) | exact Ql | refine Qm ?_ ?_ | refine Qk ?_)) <;> simp [-List.getD_eq_getElem?_getD,-List.drop_one,↓Qb,↓Qa,go_sem]);rintro i hi)
 | (refine ⟨(),trivial,by first | omega | (simp;done) | (simp;omega),?_⟩;((repeat' (first | exact Qj (by assumption) | exact Ql | refine Qm ?_ ?_ | refine Qk ?_)) <;> simp [-List.getD_eq_getElem?_getD,-List.drop_one,↓Qb,↓Qa,go_sem]))
 | (refine Qg ?_)
 | (refine Qq ?_;simp [-List.getD_eq_getElem?_getD,-List.drop_one,↓Qb,↓Qa,go_sem])
 | (refine Qp ?_;simp [-List.getD_eq_getElem?_getD,-List.drop_one,↓Qb,↓Qa,go_sem])
 | (refine Qs ?_;simp [-List.getD_eq_getElem?_getD,-List.drop_one,↓Qb,↓Qa,go_sem,Tryz.results36])
 | (intro hx;refine zA ?_)
 | (refine ⟨?_,?_⟩ <;> refine zA ?_)
 | (intro hx;constructor <;> intro hs)
 | (constructor <;> intro hs)
 | (refine ⟨?_,fun hs=>?_⟩;refine zA ?_)
 | (refine ⟨fun hs=>?_,?_⟩;rotate_left;refine zA ?_;rotate_left)
 | (exfalso;omega)))
noncomputable def markIC:Con:=.gen fun args H=>match args with
  | [.sl b 1 0 n _,.int .i64 k]=>match H b with
    | some all=>(n ≤ all.length ∧ Is cI n (all.take n) ∧ 0 ≤ k ∧ k + n ≤ 1099511627776,.int .i64 (k + n),upd H b (some (cat cI (marks k n) ++ all.drop n)))
    | none=>(False,.any,H)
  | [.nil,.int .i64 k]=>(True,.int .i64 k,H)
  | _=>(False,.any,H)
attribute [go_sem] markIC
theorem markIC_ok:ConOk Tryz.prog 36 markIC:=by
  refine ⟨Qn Tryz.func36 (by decide) rfl,fun args H h=>?_⟩
  revert h
  dsimp only
  split
  · rename_i b n cp k
    split
    · rename_i all hH
      rintro ⟨g1,⟨xs,hn,he⟩,g2,g3⟩
      subst hn
      have:all = cat cI xs ++ all.drop xs.length:=by rw [← he,List.take_append_drop]
      rw [this] at hH
      have:=markI_spec xs k b cp _ H hH g2 g3
      exact this
    · intro h;exact h.elim
  · intro _
    exact markNil_spec _ H
  · intro h
    exact h.elim
noncomputable def Γg7:FuncId → Con:=ext Γg6 36 markIC
attribute [go_sem] Γg7
theorem Jv:∀ g,ConOk Tryz.prog g (Γg7 g):=Qu Zb markIC_ok

def heldI (k:Int) (xs:List Int):Int:=if xs = marks k xs.length then k + xs.length else -1
@[go_sem] theorem zaci (k:Int) (n:Nat):heldI k (marks k n) = k + n:=by simp [heldI,Jr]
@[go_sem] theorem heldI_nil (k:Int):heldI k [] = k:=by simp [heldI,marks]

theorem heldI_pure (xs:List Int) (k:Int) (h0:0 ≤ k) (h1:k + xs.length ≤ 1099511627776):Pure Tryz.prog 39 [li cI xs,.int .i64 k] (.int .i64 (heldI k xs)):=by
  refine Pure.of_walk Tryz.func39 rfl (by simp [Tryz.f39]) (by simp [-List.drop_one,go_sem]) fun B hK=>?_
  (repeat' (first
 | refine Qr ?_
 | refine Qc (id:=0) Jv [] (by kernel_rfl) ?_;simp [-List.getD_eq_getElem?_getD,-List.drop_one,↓Qb,↓Qa,go_sem]
 | refine Qc (id:=1) Jv [] (by kernel_rfl) ?_;simp [-List.getD_eq_getElem?_getD,-List.drop_one,↓Qb,↓Qa,go_sem]
 | refine Qc (id:=2) Jv [] (by kernel_rfl) ?_;simp [-List.getD_eq_getElem?_getD,-List.drop_one,↓Qb,↓Qa,go_sem]
 | refine Qc (id:=4) Jv [] (by kernel_rfl) ?_;simp [-List.getD_eq_getElem?_getD,-List.drop_one,↓Qb,↓Qa,go_sem,c9,Qh c9,Nat.sub_pos_of_lt c9]
 | refine Qc (id:=5) Jv [] (by kernel_rfl) ?_;simp [-List.getD_eq_getElem?_getD,-List.drop_one,↓Qb,↓Qa,go_sem]
 | refine Qc (id:=6) Jv [] (by kernel_rfl) ?_;simp [-List.getD_eq_getElem?_getD,-List.drop_one,↓Qb,↓Qa,go_sem,wrap_in (x:=k + (i:Int) + 1) (by omega) (by omega)]
 | refine Qc (id:=3) Jv [] (by kernel_rfl) ?_;simp [-List.getD_eq_getElem?_getD,-List.drop_one,↓Qb,↓Qa,go_sem,wrapS (k:=i) (by omega)]
 | refine Qc (id:=7) Jv [] (by kernel_rfl) ?_;simp [-List.getD_eq_getElem?_getD,-List.drop_one,↓Qb,↓Qa,go_sem]
 | refine Qf (c:=.tmp 9) ?_;simp [-List.getD_eq_getElem?_getD,-List.drop_one,↓Qb,↓Qa,go_sem];try first | (refine ⟨?_,?_⟩ <;> refine zA ?_) | (refine ⟨fun c9=>?_,fun c9=>?_⟩ <;> (try simp [B_iff,B_not] at c9))
 | refine Qf (c:=.tmp 17) ?_;simp [-List.getD_eq_getElem?_getD,-List.drop_one,↓Qb,↓Qa,go_sem];try first | (refine ⟨?_,?_⟩ <;> refine zA ?_) | (refine ⟨fun c17=>?_,fun c17=>?_⟩ <;> (try simp [B_iff,B_not] at c17))
 | (refine Qg (id:=0) (Xc (ι:=Nat) (fun i:Nat=>⟨(upd (upd (upd (fun _=>.any) 0 (li cI xs)) 1 (.int .i64 (k + i))) 5 (.int .i64 i)),fun _=>none⟩) (fun i=>i ≤ xs.length ∧ NoneTill (fun j=>!decide (nth xs j = k + j)) i) (fun i=>xs.length - i) (0) ?_ ?_ ?_);exact ⟨Nat.zero_le _,.zero _⟩;((repeat' (first | exact Qj (by assumption) | exact Ql | refine Qm ?_ ?_ | refine Qk ?_)) <;> simp [-List.getD_eq_getElem?_getD,-List.drop_one,↓Qb,↓Qa,go_sem]);rintro i ⟨hi,ht⟩)
 | (refine ⟨i + 1,⟨by omega,ht.succ (by simp [c17])⟩,by first | omega | (simp;done) | (simp;omega),?_⟩;((repeat' (first | exact Qj (by assumption) | exact Ql | refine Qm ?_ ?_ | refine Qk ?_)) <;> simp [-List.getD_eq_getElem?_getD,-List.drop_one,↓Qb,↓Qa,go_sem,(show k + ((i:Int) + 1) = k + (i:Int) + 1 by omega),(show k + ((i + 1:Nat):Int) = k + (i:Int) + 1 by omega)]))
 | (refine Qg ?_)
 | (refine Qq ?_;simp [-List.getD_eq_getElem?_getD,-List.drop_one,↓Qb,↓Qa,go_sem])
 | (refine Qp ?_;simp [-List.getD_eq_getElem?_getD,-List.drop_one,↓Qb,↓Qa,go_sem])
 | (refine Qs ?_;simp [-List.getD_eq_getElem?_getD,-List.drop_one,↓Qb,↓Qa,go_sem,Tryz.results39])
 | (intro hx;refine zA ?_)
 | (refine ⟨?_,?_⟩ <;> refine zA ?_)
 | (intro hx;constructor <;> intro hs)
 | (constructor <;> intro hs)
 | (refine ⟨?_,fun hs=>?_⟩;refine zA ?_)
 | (refine ⟨fun hs=>?_,?_⟩;rotate_left;refine zA ?_;rotate_left)))
  all_goals (first
 | (rw [heldI,if_neg];intro e;apply c17;have:=nth_marks (k:=k) c9;rw [← e] at this;exact this)
 | (obtain rfl:i = xs.length:=(by omega);rw [heldI,if_pos];apply List.ext_getElem (by rw [Jr]);intro j h1 h2;have:=ht j h1;simp at this;rw [← nth_lt h1,← nth_lt h2,nth_marks h1,this])
 | skip)
noncomputable def zadt:Con:=.pure fun
  | [.list n_xs c_xs,.int .i64 k]=>((Is cI n_xs c_xs) ∧ (0 ≤ k) ∧ (k + (de cI c_xs).length ≤ 1099511627776),.int .i64 (heldI k (de cI c_xs)))
  | _=>(False,.any)
attribute [go_sem] zadt
theorem heldI_pureC_ok:ConOk Tryz.prog 39 zadt:=by
  refine ⟨Qn Tryz.func39 (by decide) rfl,fun args h=>?_⟩
  revert h
  dsimp only
  split
  · intro h
    obtain ⟨⟨xs,rfl,rfl⟩,h0,h1⟩:=h
    try simp only [Xb] at *
    exact ⟨heldI_pure xs _ h0 h1,by simp [go_sem]⟩
  · intro h
    exact h.elim
noncomputable def Γg8:FuncId → Con:=ext Γg7 39 zadt
attribute [go_sem] Γg8
theorem Γg8_ok:∀ g,ConOk Tryz.prog g (Γg8 g):=Qu Jv heldI_pureC_ok


section
variable {P:Program} {B:Base} {n:Nat} {c:Code} {Q:Exit → St → Prop} {S:St}
theorem AW_rebox (t:Nat) {ds es:List D} (hT:S.T t = .box ds) (he:∀ (μ:Nat → Nat) (I:Nat → Prop) (w:World) (vs:List Value) (f:List Nat),RepL μ I w ds vs f → RepL μ I w es vs f) (hb:∀ N,bndL N ds → bndL N es)
    (h:AW P B n c Q ⟨upd S.T t (.box es),S.H⟩):AW P B n c Q S:=fun a w μ fp N hR=>by
  obtain ⟨fp1,h1⟩:=hR.grab t
  rw [hT,List.nil_append,List.nil_append] at h1
  have h2:R B n ⟨grab S.T t,S.H⟩ [.box es] [a.tmps.getD t undef] a w μ fp1 N:=by
    have hb1:=h1.bg
    simp only [RepL,Rep] at hb1 ⊢
    obtain ⟨v,vs',f1,f2,e1,e2,⟨b,cells,f,q1,q2,q3,q4⟩,e3⟩:=hb1
    refine h1.rebag' ?_ (by have:=h1.bB;simp only [bndL,bnd] at this ⊢;exact ⟨hb N this.1,trivial⟩)
    simp only [RepL,Rep]
    exact ⟨v,vs',f1,f2,e1,e2,⟨b,cells,f,q1,q2,he _ _ _ _ _ q3,q4⟩,e3⟩
  obtain ⟨fp3,h3⟩:=h2.putback
  have e:upd (grab S.T t) t (.box es) = upd S.T t (.box es):=by
    funext y
    by_cases ey:y = t
    · subst ey;rw [Qe,Qe]
    · rw [Qd ey,Qd ey]
      simp only [grab]
      split
      · rw [Qd ey]
      · rfl
  rw [e] at h3
  exact h a w μ fp3 N h3
end

noncomputable def Γg9:FuncId → Con:=Γg8
attribute [go_sem] Γg9
theorem Γg9_ok:∀ g,ConOk Tryz.prog g (Γg9 g):=Γg8_ok

def heldL (k:Int) (a b:List Int):Int:=if heldI k a < 0 then -1 else if heldI (heldI k a) b < 0 then -1 else heldI (heldI k a) b
@[go_sem] theorem heldL_marks (k:Int) (n m:Nat) (h:0 ≤ k):heldL k (marks k n) (marks (k + n) m) = k + n + m:=by
  rw [heldL,zaci,if_neg (by omega),zaci,if_neg (by omega)]
@[go_sem] theorem heldL_nn (k:Int) (h:0 ≤ k):heldL k [] [] = k:=by rw [heldL,heldI_nil,if_neg (by omega),heldI_nil,if_neg (by omega)]
@[go_sem] theorem heldL_nm (k:Int) (m:Nat) (h:0 ≤ k):heldL k [] (marks k m) = k + m:=by rw [heldL,heldI_nil,if_neg (by omega),zaci,if_neg (by omega)]
noncomputable def Γg10:FuncId → Con:=Γg9
attribute [go_sem] Γg10
theorem Γg10_ok:∀ g,ConOk Tryz.prog g (Γg10 g):=Γg9_ok
@[go_sem] theorem Xh {α:Type} {f:α → List D} [Wide f 1] (xs:List α) (ys:List D) {n:Nat} (h:n = xs.length):(cat f xs ++ ys).take n = cat f xs:=by subst h;exact Zg xs ys
@[go_sem] theorem cat_drop_app1c {α:Type} {f:α → List D} [Wide f 1] (xs:List α) (ys:List D) {n:Nat} (h:n = xs.length):(cat f xs ++ ys).drop n = ys:=by subst h;exact cat_drop_app1 xs ys
attribute [go_sem] Jr

def mkLL (k:Int):List (List Int) → List (List Int)
  | []=>[]
  | x :: xs=>marks k x.length :: mkLL (k + x.length) xs
def mkPP (k:Int):List Ints2 → List Ints2
  | []=>[]
  | x :: xs=>(marks k x.1.length,marks (k + x.1.length) x.2.length) :: mkPP (k + (x.1.length + x.2.length:Nat)) xs
@[go_sem] theorem mkLL_len:∀ (k:Int) (xs:List (List Int)),(mkLL k xs).length = xs.length
  | _,[]=>rfl
  | k,x :: xs=>by simp [mkLL,mkLL_len _ xs]
@[go_sem] theorem mkPP_len:∀ (k:Int) (xs:List Ints2),(mkPP k xs).length = xs.length
  | _,[]=>rfl
  | k,x :: xs=>by simp [mkPP,mkPP_len _ xs]
theorem zaeo {α:Type} (m:α → Nat) (x:α) (xs:List α) (i:Nat):msum m (x :: xs) (i + 1) = m x + msum m xs i:=by simp [msum]
@[go_sem] theorem msum_mkLL:∀ (k:Int) (xs:List (List Int)) (i:Nat),msum mL (mkLL k xs) i = msum mL xs i
  | _,[],i=>rfl
  | k,x :: xs,0=>rfl
  | k,x :: xs,i + 1=>by rw [mkLL,zaeo,zaeo,msum_mkLL _ xs i];simp [mL,Jr]
@[go_sem] theorem msum_mkPP:∀ (k:Int) (xs:List Ints2) (i:Nat),msum mP (mkPP k xs) i = msum mP xs i
  | _,[],i=>rfl
  | k,x :: xs,0=>rfl
  | k,x :: xs,i + 1=>by rw [mkPP,zaeo,zaeo,msum_mkPP _ xs i];simp [mP,Jr]
theorem set_mid {α:Type} {l r:List α} {x y:α} {i:Nat} (h:i = l.length):(l ++ x :: r).set i y = l ++ y :: r:=by subst h;simp
section
variable {α:Type} {f:α → List D}
theorem cat_set1 [Wide f 1]:∀ {xs:List α} {i:Nat} {ys:List D} {x:α} {d:D},i < xs.length → f x = [d] → (cat f xs ++ ys).set i d = cat f (xs.set i x) ++ ys
  | [],i,ys,x,d,h,hx=>by simp at h
  | z :: xs,0,ys,x,d,h,hx=>by
    rw [Xx,List.set_cons_zero,Xx,hx]
    obtain ⟨e,he⟩:∃ e,f z = [e]:=List.length_eq_one_iff.1 (by have:=Qz (f:=f) [z];rw [Ve] at this;simpa using this)
    rw [he];rfl
  | z :: xs,i + 1,ys,x,d,h,hx=>by
    rw [Xx,List.set_cons_succ,Xx]
    obtain ⟨e,he⟩:∃ e,f z = [e]:=List.length_eq_one_iff.1 (by have:=Qz (f:=f) [z];rw [Ve] at this;simpa using this)
    rw [he,List.append_assoc,List.append_assoc]
    have:=cat_set1 (xs:=xs) (i:=i) (ys:=ys) (by simpa using h) hx
    simp [this]
end

end Go.Proofs.YtiilmjojffjhlaaGreatDoor.Vm

/-
  Marks of rows of lists, of rows of states, of graphs: contracts. No conditions.
-/
namespace Go.Proofs.YtiilmjojffjhlaaGreatDoor.Vm
open Go
set_option linter.unusedVariables false
set_option linter.unusedSimpArgs false
set_option maxRecDepth 200000

section
variable {α:Type} {f g:α → List D} {lv sz:Nat}
theorem catO_inj [Own f g lv] [Wide g sz] [Plain g] {xs ys:List α} (h:cat f xs = cat f ys):xs = ys:=by
  have h1:=congrArg (List.map dat) h
  rw [cat_dat (f:=f) (g:=g),cat_dat (f:=f) (g:=g)] at h1
  exact cat_inj h1
theorem isO_cat [Own f g lv] [Wide g sz] [Plain g] (n:Nat) (xs:List α):Is f n (cat f xs) ↔ n = xs.length :=
  ⟨fun ⟨ys,h,e⟩=>by rw [catO_inj (f:=f) (g:=g) e,h],fun h=>⟨xs,h,rfl⟩⟩
theorem deO_cat [Own f g lv] [Wide g sz] [Plain g] (xs:List α):de f (cat f xs) = xs:=by
  unfold de
  rw [dif_pos ⟨xs,rfl⟩]
  have:∃ ys:List α,cat f xs = cat f ys:=⟨xs,rfl⟩
  exact (catO_inj (f:=f) (g:=g) (Classical.choose_spec this)).symm
theorem zage [Wide f sz] (xs:List α) (ys:List D):(cat f xs ++ ys).drop (xs.length * sz) = ys:=by
  rw [← Qz (f:=f),List.drop_left'];rfl
end
@[go_sem] theorem isO_oL (n:Nat) (xs:List (List Int)):Is oL n (cat oL xs) ↔ n = xs.length:=isO_cat n xs
@[go_sem] theorem isO_oP (n:Nat) (xs:List Ints2):Is oP n (cat oP xs) ↔ n = xs.length:=isO_cat n xs
@[go_sem] theorem deO_oL (xs:List (List Int)):de oL (cat oL xs) = xs:=deO_cat xs
@[go_sem] theorem deO_oP (xs:List Ints2):de oP (cat oP xs) = xs:=deO_cat xs
@[go_sem] theorem cat_drop_app_oP (xs:List Ints2) (ys:List D):(cat oP xs ++ ys).drop (xs.length * 2) = ys:=zage xs ys
@[go_sem] theorem cat_take_app_oP (xs:List Ints2) (ys:List D):(cat oP xs ++ ys).take (xs.length * 2) = cat oP xs:=zaax xs ys

noncomputable def Γg11:FuncId → Con:=Γg10
attribute [go_sem] Γg11
theorem Γg11_ok:∀ g,ConOk Tryz.prog g (Γg11 g):=Γg10_ok

noncomputable def Γg12:FuncId → Con:=Γg11
attribute [go_sem] Γg12
theorem Γg12_ok:∀ g,ConOk Tryz.prog g (Γg12 g):=Γg11_ok

noncomputable def Γg13:FuncId → Con:=Γg12
attribute [go_sem] Γg13
theorem Γg13_ok:∀ g,ConOk Tryz.prog g (Γg13 g):=Γg12_ok

@[go_sem] theorem makeD_1 (x:D):makeD [x] 1 = [x]:=by rw [zaeq];rfl
def pickL (xs ys:List Int):List Int:=ys.map fun y=>nth xs y.toNat
@[go_sem] theorem pickL_len (xs ys:List Int):(pickL xs ys).length = ys.length:=by simp [pickL]
def Places (n:Nat) (ys:List Int):Prop:=∀ i,i < ys.length → 0 ≤ nth ys i ∧ nth ys i < n
theorem Places.at {n:Nat} {ys:List Int} (h:Places n ys) {i:Nat} (hi:i < ys.length):0 ≤ nth ys i ∧ nth ys i < n ∧ (nth ys i).toNat < n:=by
  obtain ⟨h1,h2⟩:=h i hi
  omega

noncomputable def Γg14:FuncId → Con:=Γg13
attribute [go_sem] Γg14
theorem Γg14_ok:∀ g,ConOk Tryz.prog g (Γg14 g):=Γg13_ok

noncomputable def Γg15:FuncId → Con:=Γg14
attribute [go_sem] Γg15
theorem Γg15_ok:∀ g,ConOk Tryz.prog g (Γg15 g):=Γg14_ok

noncomputable def Γg16:FuncId → Con:=Γg15
attribute [go_sem] Γg16
theorem Γg16_ok:∀ g,ConOk Tryz.prog g (Γg16 g):=Γg15_ok

noncomputable def Γg17:FuncId → Con:=Γg16
attribute [go_sem] Γg17
theorem Γg17_ok:∀ g,ConOk Tryz.prog g (Γg17 g):=Γg16_ok
end Go.Proofs.YtiilmjojffjhlaaGreatDoor.Vm

