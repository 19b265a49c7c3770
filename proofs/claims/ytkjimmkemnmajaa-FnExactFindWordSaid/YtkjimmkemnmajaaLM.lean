/-
  Marks of lassos. No conditions.
-/
import Derived.Test.YtkjimmkemnmajaaFWa
namespace Go.Proofs.Ytkjimmkemnmajaa.Vm
open Go
open List renaming getD_eq_getElem?_getD → zg,drop_one → zd
noncomputable section
set_option linter.unusedVariables false
set_option linter.unusedSimpArgs false
set_option maxRecDepth 200000

@[go_sem] def Γw17:FuncId → Con:=ext Γw16 19 zacg
theorem zafz:∀ g,ConOk Try.prog g (Γw17 g):=Qp Γw16_ok zahn

set_option maxHeartbeats 1000000 in
theorem markLs_spec (a b:List Int) (k:Int) (b1 b2 c1 c2:Nat) (j1 j2:List D) (H:Hp) (h1:H b1 = some (cat cI a ++ j1)) (h2:H b2 = some (cat cI b ++ j2)) (hne:¬ b1 = b2) (h0:0 ≤ k) (hk:k + a.length + b.length ≤ 1099511627776) :
    Spec Try.prog 22 [.st [.sl b1 1 0 a.length c1,.sl b2 1 0 b.length c2],.int .i64 k] H (.int .i64 (k + a.length + b.length)) (upd (upd H b1 (some (cat cI (marks k a.length) ++ j1))) b2 (some (cat cI (marks (k + a.length) b.length) ++ j2))):=by
  refine Spec.of_walk Try.func22 rfl (by simp [Try.f22]) fun B=>?_
  (repeat' (first
 | refine Qq ?_
 | refine Qc (id:=0) zafz [] (by kernel_rfl) ?_;simp [-zg,-zd,↓Qb,↓Qa,go_sem];try (refine Zb 2 rfl fun b0 hb0=>?_;have n1:¬ b1 = b0:=(by rintro rfl;dsimp only at hb0;rw [h1] at hb0;cases hb0);have n2:¬ b2 = b0:=(by rintro rfl;dsimp only at hb0;rw [h2] at hb0;cases hb0))
 | refine Qc (id:=1) zafz [] (by kernel_rfl) ?_;simp [-zg,-zd,↓Qb,↓Qa,go_sem,n1,h1,h0,(show k + a.length ≤ 1099511627776 by omega)]
 | refine Qc (id:=2) zafz [] (by kernel_rfl) ?_;simp [-zg,-zd,↓Qb,↓Qa,go_sem,n1,n2,Ne.symm n1,Ne.symm n2,hne,Ne.symm hne,h2,(show 0 ≤ k + (a.length:Int) by omega),hk]
 | refine Qc (id:=3) zafz [] (by kernel_rfl) ?_;simp [-zg,-zd,↓Qb,↓Qa,go_sem]
 | (refine Qf ?_)
 | (refine Qo ?_;simp [-zg,-zd,↓Qb,↓Qa,go_sem])
 | (refine Qn ?_;simp [-zg,-zd,↓Qb,↓Qa,go_sem])
 | (refine Qr ?_;simp [-zg,-zd,↓Qb,↓Qa,go_sem,Try.results22])
 | (intro hx;refine zA ?_)
 | (refine ⟨?_,?_⟩ <;> refine zA ?_)
 | (intro hx;constructor <;> intro hs)
 | (constructor <;> intro hs)
 | (refine ⟨?_,fun hs=>?_⟩;refine zA ?_)
 | (refine ⟨fun hs=>?_,?_⟩;rotate_left;refine zA ?_;rotate_left)))
  all_goals (first
 | (intro b' cs' h;dsimp only at hb0;by_cases e2:b' = b2 <;> by_cases e1:b' = b1 <;> by_cases e0:b' = b0 <;> simp_all)
 | skip)
@[go_sem] def markLsC:Con:=.gen fun args H=>match args with
  | [.st [.sl b1 1 0 n _,.sl b2 1 0 m _],.int .i64 k]=>match H b1,H b2 with
    | some a1,some a2=>(¬ b1 = b2 ∧ n ≤ a1.length ∧ m ≤ a2.length ∧ Is cI n (a1.take n) ∧ Is cI m (a2.take m) ∧ 0 ≤ k ∧ k + n + m ≤ 1099511627776,.int .i64 (k + n + m),upd (upd H b1 (some (cat cI (marks k n) ++ a1.drop n))) b2 (some (cat cI (marks (k + n) m) ++ a2.drop m)))
    | _,_=>(False,.any,H)
  | _=>(False,.any,H)
theorem markLsC_ok:ConOk Try.prog 22 markLsC:=by
  refine ⟨Qs Try.func22 (by decide) rfl,fun args H h=>?_⟩
  revert h
  dsimp only
  split
  · rename_i b1 n c1 b2 m c2 k
    split
    · rename_i a1 a2 hH1 hH2
      rintro ⟨g0,g1,g2,⟨xs,hn,he⟩,⟨ys,hm,hf⟩,g5,g6⟩
      subst hn hm
      have e1:a1 = cat cI xs ++ a1.drop xs.length:=by rw [← he,List.take_append_drop]
      have e2:a2 = cat cI ys ++ a2.drop ys.length:=by rw [← hf,List.take_append_drop]
      rw [e1] at hH1
      rw [e2] at hH2
      exact markLs_spec xs ys k b1 b2 c1 c2 _ _ H hH1 hH2 g0 g5 g6
    · intro h;exact h.elim
  · intro h
    exact h.elim

@[go_sem] def Γw18:FuncId → Con:=ext Γw17 22 markLsC
theorem Vg:∀ g,ConOk Try.prog g (Γw18 g):=Qp zafz markLsC_ok

theorem heldLs_pure (a:List Int) (b:List Int) (k:Int) (h0:0 ≤ k) (h1:k + a.length + b.length ≤ 1099511627776):Pure Try.prog 23 [.st [li cI a,li cI b],.int .i64 k] (.int .i64 (heldL k a b)):=by
  refine Pure.of_walk Try.func23 rfl (by simp [Try.f23]) (by simp [-zd,go_sem]) fun B hK=>?_
  (repeat' (first
 | refine Qq ?_
 | refine Qc (id:=0) Vg [] (by kernel_rfl) ?_;simp [-zg,-zd,↓Qb,↓Qa,go_sem];try (refine Xa hK 2 ?_;simp [go_sem])
 | refine Qc (id:=1) Vg [] (by kernel_rfl) ?_;simp [-zg,-zd,↓Qb,↓Qa,go_sem,h0,(show k + a.length ≤ 1099511627776 by omega)]
 | refine Qc (id:=2) Vg [] (by kernel_rfl) ?_;simp [-zg,-zd,↓Qb,↓Qa,go_sem]
 | refine Qc (id:=3) Vg [] (by kernel_rfl) ?_;simp [-zg,-zd,↓Qb,↓Qa,go_sem]
 | (have q:=heldI_le k a h0);refine Qc (id:=4) Vg [] (by kernel_rfl) ?_;simp [-zg,-zd,↓Qb,↓Qa,go_sem,c10,(show heldI k a + b.length ≤ 1099511627776 by omega)]
 | refine Qc (id:=5) Vg [] (by kernel_rfl) ?_;simp [-zg,-zd,↓Qb,↓Qa,go_sem]
 | refine Qc (id:=6) Vg [] (by kernel_rfl) ?_;simp [-zg,-zd,↓Qb,↓Qa,go_sem]
 | refine Qc (id:=7) Vg [] (by kernel_rfl) ?_;simp [-zg,-zd,↓Qb,↓Qa,go_sem]
 | refine Qd (c:=.tmp 10) ?_;simp [-zg,-zd,↓Qb,↓Qa,go_sem];try first | (refine ⟨?_,?_⟩ <;> refine zA ?_) | (refine ⟨fun c10=>?_,fun c10=>?_⟩ <;> (try simp [B_iff,B_not] at c10))
 | refine Qd (c:=.tmp 16) ?_;simp [-zg,-zd,↓Qb,↓Qa,go_sem];try first | (refine ⟨?_,?_⟩ <;> refine zA ?_) | (refine ⟨fun c16=>?_,fun c16=>?_⟩ <;> (try simp [B_iff,B_not] at c16))
 | (refine Qf ?_)
 | (refine Qo ?_;simp [-zg,-zd,↓Qb,↓Qa,go_sem])
 | (refine Qn ?_;simp [-zg,-zd,↓Qb,↓Qa,go_sem])
 | (refine Qr ?_;simp [-zg,-zd,↓Qb,↓Qa,go_sem,Try.results23])
 | (intro hx;refine zA ?_)
 | (refine ⟨?_,?_⟩ <;> refine zA ?_)
 | (intro hx;constructor <;> intro hs)
 | (constructor <;> intro hs)
 | (refine ⟨?_,fun hs=>?_⟩;refine zA ?_)
 | (refine ⟨fun hs=>?_,?_⟩;rotate_left;refine zA ?_;rotate_left)))
  all_goals (first
 | (rw [heldL,if_pos c10])
 | (rw [heldL,if_neg (by omega),if_pos (by assumption)])
 | (rw [heldL,if_neg (by omega),if_neg (by omega)])
 | skip)
@[go_sem] def zadq:Con:=.pure fun
  | [.st [.list n_a c_a,.list n_b c_b],.int .i64 k]=>((Is cI n_a c_a) ∧ (Is cI n_b c_b) ∧ (0 ≤ k) ∧ (k + (de cI c_a).length + (de cI c_b).length ≤ 1099511627776),.int .i64 (heldL k (de cI c_a) (de cI c_b)))
  | _=>(False,.any)
theorem zair:ConOk Try.prog 23 zadq:=by
  refine ⟨Qs Try.func23 (by decide) rfl,fun args h=>?_⟩
  revert h
  dsimp only
  split
  · intro h
    obtain ⟨⟨a,rfl,rfl⟩,⟨b,rfl,rfl⟩,h0,h1⟩:=h
    try simp only [Qw] at *
    exact ⟨heldLs_pure a b _ h0 h1,by simp [go_sem]⟩
  · intro h
    exact h.elim
@[go_sem] def Γw19:FuncId → Con:=ext Γw18 23 zadq
theorem Γw19_ok:∀ g,ConOk Try.prog g (Γw19 g):=Qp Vg zair

theorem las_nilfr {f:FuncId} {args:List D} {bo:Bool} (h:Pure Try.prog f args (.tup [.st [.nil,.nil],.bool bo])):Pure Try.prog f args (.tup [.st [.fr 1 0 [],.fr 1 0 []],.bool bo]):=by
  intro μ w vs hb hr
  refine (h μ w vs hb hr).mono fun ex w' hq=>?_
  obtain ⟨v,fl,h1,h2,h3⟩:=hq
  refine ⟨v,fl,h1,?_,h3⟩
  rw [Rep] at h2 ⊢
  obtain ⟨vs,e1,h2⟩:=h2
  refine ⟨vs,e1,?_⟩
  rw [RepL] at h2 ⊢
  obtain ⟨v1,vs1,f1,f2,e2,e3,r1,r2⟩:=h2
  refine ⟨v1,vs1,f1,f2,e2,e3,?_,r2⟩
  rw [Rep] at r1 ⊢
  obtain ⟨us,e4,r1⟩:=r1
  refine ⟨us,e4,?_⟩
  rw [RepL] at r1 ⊢
  obtain ⟨u1,us1,g1,g2,k1,k2,s1,r1⟩:=r1
  refine ⟨u1,us1,g1,g2,k1,k2,zagp s1,?_⟩
  rw [RepL] at r1 ⊢
  obtain ⟨u2,us2,g3,g4,k3,k4,s2,r1⟩:=r1
  exact ⟨u2,us2,g3,g4,k3,k4,zagp s2,r1⟩
def fS (a:List Int) (b:List Bool) (c:List Tr4):List Int:=if fwOk a b c = true then fwS c (nxE b.length c c.length) b a else []
def fL (a:List Int) (b:List Bool) (c:List Tr4):List Int:=if fwOk a b c = true then fwL c (nxE b.length c c.length) b a else []
theorem fwOk_iff {a:List Int} {b:List Bool} {c:List Tr4}:fwOk a b c = true ↔ AutOk a b.length c ∧ 0 ≤ fwI (nxE b.length c c.length) b a:=by
  unfold fwOk;rw [Bool.and_eq_true,B_iff,decide_eq_true_eq]
theorem fSL_ok {a:List Int} {b:List Bool} {c:List Tr4} (h:fwOk a b c = true):LasOk (fS a b c) (fL a b c) ∧ SAcc b a c (ltr (fS a b c) (fL a b c)):=by
  obtain ⟨h1,h2⟩:=fwOk_iff.1 h
  unfold fS fL
  rw [if_pos h,if_pos h]
  exact fw_ok h1 h2
theorem fSL_len (a:List Int) (b:List Bool) (c:List Tr4):(fS a b c).length ≤ 80 ∧ (fL a b c).length ≤ 80:=by
  cases h:fwOk a b c with
  | true=>have:=(fSL_ok h).1;exact ⟨this.2.2.1,this.2.2.2.2⟩
  | false=>unfold fS fL;rw [h];simp
theorem las_any {f:FuncId} {args:List D} (a:List Int) (b:List Bool) (c:List Tr4) (h:Pure Try.prog f args (.tup [if fwOk a b c = true then .st [fr 1 cI (fwS c (nxE b.length c c.length) b a),fr 1 cI (fwL c (nxE b.length c c.length) b a)] else .st [.nil,.nil],.bool (fwOk a b c)])) :
    Pure Try.prog f args (.tup [.st [fr 1 cI (fS a b c),fr 1 cI (fL a b c)],.bool (fwOk a b c)]):=by
  unfold fS fL
  cases hu:fwOk a b c with
  | true=>rw [hu] at h;simpa using h
  | false =>
    rw [hu] at h
    have:=las_nilfr (by simpa using h)
    simpa [fr,cat] using this
theorem implFwF (a:List Int) (b:List Bool) (c:List Tr4) (hS:Zf c):Pure Try.prog 18 [.st [li cI a,li cB b,li cT c]] (.tup [.st [fr 1 cI (fS a b c),fr 1 cI (fL a b c)],.bool (fwOk a b c)]):=las_any a b c (zajf a b c hS)
theorem specFwF (a:List Int) (b:List Bool) (c:List Tr4) (hS:Zf c):Pure Try.prog 16 [.st [li cI a,li cB b,li cT c]] (.tup [.st [fr 1 cI (fS a b c),fr 1 cI (fL a b c)],.bool (fwOk a b c)]):=las_any a b c (zajc a b c hS)

@[go_sem] def implFwFC:Con:=.pure fun
  | [.st [.list n_a c_a,.list n_b c_b,.list n_c c_c]]=>((Is cI n_a c_a) ∧ (Is cB n_b c_b) ∧ (Is cT n_c c_c) ∧ (Zf (de cT c_c)),.tup [.st [fr 1 cI (fS (de cI c_a) (de cB c_b) (de cT c_c)),fr 1 cI (fL (de cI c_a) (de cB c_b) (de cT c_c))],.bool (fwOk (de cI c_a) (de cB c_b) (de cT c_c))])
  | _=>(False,.any)
theorem implFwFC_ok:ConOk Try.prog 18 implFwFC:=by
  refine ⟨Qs Try.func18 (by decide) rfl,fun args h=>?_⟩
  revert h
  dsimp only
  split
  · intro h
    obtain ⟨⟨a,rfl,rfl⟩,⟨b,rfl,rfl⟩,⟨c,rfl,rfl⟩,hS⟩:=h
    try simp only [Qw] at *
    exact ⟨implFwF a b c hS,by simp [go_sem]⟩
  · intro h
    exact h.elim
@[go_sem] def Γw20:FuncId → Con:=ext Γw19 18 implFwFC
theorem Γw20_ok:∀ g,ConOk Try.prog g (Γw20 g):=Qp Γw19_ok implFwFC_ok

@[go_sem] def specFwFC:Con:=.pure fun
  | [.st [.list n_a c_a,.list n_b c_b,.list n_c c_c]]=>((Is cI n_a c_a) ∧ (Is cB n_b c_b) ∧ (Is cT n_c c_c) ∧ (Zf (de cT c_c)),.tup [.st [fr 1 cI (fS (de cI c_a) (de cB c_b) (de cT c_c)),fr 1 cI (fL (de cI c_a) (de cB c_b) (de cT c_c))],.bool (fwOk (de cI c_a) (de cB c_b) (de cT c_c))])
  | _=>(False,.any)
theorem specFwFC_ok:ConOk Try.prog 16 specFwFC:=by
  refine ⟨Qs Try.func16 (by decide) rfl,fun args h=>?_⟩
  revert h
  dsimp only
  split
  · intro h
    obtain ⟨⟨a,rfl,rfl⟩,⟨b,rfl,rfl⟩,⟨c,rfl,rfl⟩,hS⟩:=h
    try simp only [Qw] at *
    exact ⟨specFwF a b c hS,by simp [go_sem]⟩
  · intro h
    exact h.elim
@[go_sem] def Γw21:FuncId → Con:=ext Γw20 16 specFwFC
theorem Xe:∀ g,ConOk Try.prog g (Γw21 g):=Qp Γw20_ok specFwFC_ok

end
end Go.Proofs.Ytkjimmkemnmajaa.Vm

