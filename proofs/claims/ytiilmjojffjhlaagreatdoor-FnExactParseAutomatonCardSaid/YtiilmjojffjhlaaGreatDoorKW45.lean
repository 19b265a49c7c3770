/-
  FnExactParseAutomaton: the walk of the law. Condition: the library's variables hold what the program's text lays.
-/
import Derived.Test.YtiilmjojffjhlaaGreatDoorKPN4
import Derived.Test.YtiilmjojffjhlaaGreatDoorKPN6
namespace Go.Proofs.YtiilmjojffjhlaaGreatDoor.Vm
open Go
open List renaming getD_eq_getElem?_getD → zg,drop_one → zd,replicate → zrP
open Ne renaming symm → zS
noncomputable section
set_option linter.unusedVariables false
set_option linter.unusedSimpArgs false
set_option maxRecDepth 200000

theorem zafi {sz:Nat} {μ:Nat → Nat} {I:Nat → Prop} {w:World} {v:Value} {f:List Nat} (h:Rep μ I w .nil v f):Rep μ I w (.fr sz 0 []) v f:=by
  simp only [Rep] at h ⊢
  exact ⟨Nat.zero_le _,by simp,.inl ⟨trivial,h.1,h.2⟩⟩
theorem rep_nil3P {bo:Bool} {μ:Nat → Nat} {I:Nat → Prop} {w:World} {v:Value} {f:List Nat} (h2:Rep μ I w (.tup [.st [.nil,.nil,.nil],.bool bo]) v f):Rep μ I w (.tup [.st [.fr 1 0 [],.fr 1 0 [],.fr 4 0 []],.bool bo]) v f:=by
  rw [Rep] at h2 ⊢
  obtain ⟨vs,e1,h2⟩:=h2
  refine ⟨vs,e1,?_⟩
  rw [RepL] at h2 ⊢
  obtain ⟨v1,vs1,f1,f2,e2,e3,r1,r2⟩:=h2
  refine ⟨v1,vs1,f1,f2,e2,e3,?_,r2⟩
  rw [Rep] at r1 ⊢
  obtain ⟨us,e4,r1⟩:=r1
  refine ⟨us,e4,?_⟩
  rw [RepL] at r1 ⊢
  obtain ⟨u1,us1,g1,g2,k1,k2,s1,r1⟩:=r1
  refine ⟨u1,us1,g1,g2,k1,k2,zafi s1,?_⟩
  rw [RepL] at r1 ⊢
  obtain ⟨u2,us2,g3,g4,k3,k4,s2,r1⟩:=r1
  refine ⟨u2,us2,g3,g4,k3,k4,zafi s2,?_⟩
  rw [RepL] at r1 ⊢
  obtain ⟨u3,us3,g5,g6,k5,k6,s3,r1⟩:=r1
  exact ⟨u3,us3,g5,g6,k5,k6,zafi s3,r1⟩
def oI (o:Option Aut3):List Int:=match o with | some q=>q.1 | none=>[]
def oB (o:Option Aut3):List Bool:=match o with | some q=>q.2.1 | none=>[]
def oT (o:Option Aut3):List Tr4:=match o with | some q=>q.2.2 | none=>[]
def dF (o:Option Aut3):D:=.tup [.st [fr 1 cI (oI o),fr 1 cB (oB o),fr 4 cT (oT o)],.bool o.isSome]
theorem rep_dF {o:Option Aut3} {μ:Nat → Nat} {I:Nat → Prop} {w:World} {v:Value} {f:List Nat} (h:Rep μ I w (dA o) v f):Rep μ I w (dF o) v f:=by
  cases o with
  | some q=>exact h
  | none =>
    have h2:=rep_nil3P h
    simpa [dF,oI,oB,oT,fr,cat] using h2
theorem Pure.dF {f:FuncId} {args:List D} {o:Option Aut3} (h:Pure Tryz.prog f args (dA o)):Pure Tryz.prog f args (dF o):=fun μ w vs hb hr =>
  (h μ w vs hb hr).mono fun e w' ⟨v,fl,h1,h2,h3⟩=>⟨v,fl,h1,rep_dF h2,h3⟩
theorem PureI.dF {f:FuncId} {args:List D} {o:Option Aut3} (h:PureI Tryz.prog LibOk f args (dA o)):PureI Tryz.prog LibOk f args (dF o):=fun μ w vs hI hb hr =>
  (h μ w vs hI hb hr).mono fun e w' ⟨v,fl,h1,h2,h3⟩=>⟨v,fl,h1,rep_dF h2,h3⟩
theorem specPAF (s:List UInt8) (hl:s.length ≤ 1048576):Pure Tryz.prog 6 [.str s] (.tup [.st [fr 1 cI (oI (ansI s)),fr 1 cB (oB (ansI s)),fr 4 cT (oT (ansI s))],.bool (ansI s).isSome]):=by
  have:=(specPA_pure s hl).dF
  rw [ans_same] at this
  exact this
theorem implPAF (s:List UInt8) (hl:s.length ≤ 1048576):PureI Tryz.prog LibOk 7 [.str s] (.tup [.st [fr 1 cI (oI (ansI s)),fr 1 cB (oB (ansI s)),fr 4 cT (oT (ansI s))],.bool (ansI s).isSome]):=(implPA_pure s hl).dF
theorem ansI_len (s:List UInt8):(oI (ansI s)).length ≤ 64 ∧ (oB (ansI s)).length ≤ 64 ∧ (oT (ansI s)).length ≤ 2048:=by
  cases h:ansI s with
  | none=>simp [oI,oB,oT]
  | some q =>
    unfold ansI at h
    split at h
    · split at h
      · rename_i hc
        injection h with h
        subst h
        have h1:=hc.1
        rw [B_iff] at h1
        obtain ⟨m1,m2,m3,m4⟩:=h1.sizes
        simp only [oI,oB,oT]
        exact ⟨by omega,by omega,by omega⟩
      · cases h
    · cases h

@[go_sem] def specPAFC:Con:=.pure fun
  | [.str s]=>((s.length ≤ 1048576),.tup [.st [fr 1 cI (oI (ansI s)),fr 1 cB (oB (ansI s)),fr 4 cT (oT (ansI s))],.bool (ansI s).isSome])
  | _=>(False,.any)
theorem specPAFC_ok:ConOk Tryz.prog 6 specPAFC:=by
  refine ⟨Qn Tryz.func6 (by decide) rfl,fun args h=>?_⟩
  revert h
  dsimp only
  split
  · intro h
    have hl:=h
    skip
    exact ⟨specPAF _ hl,by simp [go_sem]⟩
  · intro h
    exact h.elim
@[go_sem] def Γpq1:FuncId → Con:=ext Γpn7 6 specPAFC
theorem Γpq1_ok:∀ g,ConOk Tryz.prog g (Γpq1 g):=Qu Xd specPAFC_ok

@[go_sem] def Γpq2:FuncId → Con:=Γpq1
theorem Γpq2_ok:∀ g,ConI Tryz.prog LibOk g (Γpq2 g):=fun g=>(Γpq1_ok g).toI

@[go_sem] def implPAFC:Con:=.pure fun
  | [.str s]=>((s.length ≤ 1048576),.tup [.st [fr 1 cI (oI (ansI s)),fr 1 cB (oB (ansI s)),fr 4 cT (oT (ansI s))],.bool (ansI s).isSome])
  | _=>(False,.any)
theorem implPAFC_ok:ConI Tryz.prog LibOk 7 implPAFC:=by
  refine ⟨Qn Tryz.func7 (by decide) rfl,fun args h=>?_⟩
  revert h
  dsimp only
  split
  · intro h
    have hl:=h
    skip
    exact ⟨implPAF _ hl,by simp [go_sem]⟩
  · intro h
    exact h.elim
@[go_sem] def Γpq3:FuncId → Con:=ext Γpq2 7 implPAFC
theorem Xk:∀ g,ConI Tryz.prog LibOk g (Γpq3 g):=ext_okI Γpq2_ok implPAFC_ok

set_option maxHeartbeats 8000000 in
theorem lawPA (s:List UInt8)  : PureI Tryz.prog LibOk 3 [.str s] (.bool true):=by
  refine PureI.of_walk Tryz.func3 rfl (by simp [Tryz.f3]) (by simp [-zd,go_sem]) LibOk.frm fun B hK hB=>?_
  obtain ⟨hr1,hr2,hr3⟩:=ansI_len s;obtain ⟨RI,hRI⟩:∃ R,oI (ansI s) = R:=⟨_,rfl⟩;obtain ⟨RB,hRB⟩:∃ R,oB (ansI s) = R:=⟨_,rfl⟩;obtain ⟨RT,hRT⟩:∃ R,oT (ansI s) = R:=⟨_,rfl⟩;obtain ⟨RO,hRO⟩:∃ R,(ansI s).isSome = R:=⟨_,rfl⟩;rw [hRI] at hr1;rw [hRB] at hr2;rw [hRT] at hr3
  all_goals (repeat' (first
 | refine Qr ?_
 | refine Qt (id:=0) Xk hB [] (by kernel_rfl) ?_;simp [-zg,-zd,↓Qb,↓Qa,go_sem]
 | refine Qt (id:=1) Xk hB [] (by kernel_rfl) ?_;simp [-zg,-zd,↓Qb,↓Qa,go_sem]
 | refine Qt (id:=2) Xk hB [] (by kernel_rfl) ?_;simp [-zg,-zd,↓Qb,↓Qa,go_sem]
 | (have hl:s.length ≤ 1048576:=(by omega));refine Qt (id:=3) Xk hB [] (by kernel_rfl) ?_;simp [-zg,-zd,↓Qb,↓Qa,go_sem,hl,Ze,Zg,hRI,hRB,hRT,hRO];try ((refine Xm hK 3 ?_);simp [go_sem])
 | refine Qt (id:=4) Xk hB [] (by kernel_rfl) ?_;simp [-zg,-zd,↓Qb,↓Qa,go_sem,hl,Ze,Zg,hRI,hRB,hRT,hRO];try ((refine zacl 5 rfl fun p2 h_p2=>?_);(dsimp only at h_p2);(refine Zv p2 0 (all:=[.fr 1 RI.length (cat cI RI),.fr 1 RB.length (cat cB RB),.fr 4 RT.length (cat cT RT)]) (by simp [upd,fr]) rfl fun x2 c_x2 j_x2 h_x2 d_x2 e_x2=>?_);(dsimp only at h_x2);(have n_x2_p2:¬ x2 = p2:=(by rintro rfl;simp [upd] at h_x2));(refine Zv p2 1 (all:=[.sl x2 1 0 RI.length c_x2,.fr 1 RB.length (cat cB RB),.fr 4 RT.length (cat cT RT)]) (by simp [upd,fr,n_x2_p2,zS n_x2_p2]) rfl fun y2 c_y2 j_y2 h_y2 d_y2 e_y2=>?_);(dsimp only at h_y2);(have n_y2_p2:¬ y2 = p2:=(by rintro rfl;simp [upd,n_x2_p2,zS n_x2_p2] at h_y2));(have n_y2_x2:¬ y2 = x2:=(by rintro rfl;simp [upd,n_x2_p2,zS n_x2_p2] at h_y2));(refine Zv p2 2 (all:=[.sl x2 1 0 RI.length c_x2,.sl y2 1 0 RB.length c_y2,.fr 4 RT.length (cat cT RT)]) (by simp [upd,fr,n_x2_p2,zS n_x2_p2,n_y2_p2,zS n_y2_p2,n_y2_x2,zS n_y2_x2]) rfl fun z2 c_z2 j_z2 h_z2 d_z2 e_z2=>?_);(dsimp only at h_z2);(have n_z2_p2:¬ z2 = p2:=(by rintro rfl;simp [upd,n_x2_p2,zS n_x2_p2,n_y2_p2,zS n_y2_p2,n_y2_x2,zS n_y2_x2] at h_z2));(have n_z2_x2:¬ z2 = x2:=(by rintro rfl;simp [upd,n_x2_p2,zS n_x2_p2,n_y2_p2,zS n_y2_p2,n_y2_x2,zS n_y2_x2] at h_z2));(have n_z2_y2:¬ z2 = y2:=(by rintro rfl;simp [upd,n_x2_p2,zS n_x2_p2,n_y2_p2,zS n_y2_p2,n_y2_x2,zS n_y2_x2] at h_z2));(clear h_p2 h_x2 h_y2 h_z2);(refine Xq (fun H1=>H1 p2 = some [.sl x2 1 0 RI.length c_x2,.sl y2 1 0 RB.length c_y2,.sl z2 4 0 RT.length c_z2] ∧ H1 x2 = some (cat cI RI ++ zrP j_x2 D.any) ∧ H1 y2 = some (cat cB RB ++ zrP j_y2 D.any) ∧ H1 z2 = some (cat cT RT ++ zrP j_z2 D.any)) ⟨by simp [upd,fr,n_x2_p2,zS n_x2_p2,n_y2_p2,zS n_y2_p2,n_z2_p2,zS n_z2_p2,n_y2_x2,zS n_y2_x2,n_z2_x2,zS n_z2_x2,n_z2_y2,zS n_z2_y2],by simp [upd,fr,n_x2_p2,zS n_x2_p2,n_y2_p2,zS n_y2_p2,n_z2_p2,zS n_z2_p2,n_y2_x2,zS n_y2_x2,n_z2_x2,zS n_z2_x2,n_z2_y2,zS n_z2_y2],by simp [upd,fr,n_x2_p2,zS n_x2_p2,n_y2_p2,zS n_y2_p2,n_z2_p2,zS n_z2_p2,n_y2_x2,zS n_y2_x2,n_z2_x2,zS n_z2_x2,n_z2_y2,zS n_z2_y2],by simp [upd,fr,n_x2_p2,zS n_x2_p2,n_y2_p2,zS n_y2_p2,n_z2_p2,zS n_z2_p2,n_y2_x2,zS n_y2_x2,n_z2_x2,zS n_z2_x2,n_z2_y2,zS n_z2_y2]⟩ fun H1 ⟨w_p2,w_x2,w_y2,w_z2⟩=>?_))
 | refine Qt (id:=5) Xk hB [28] (by kernel_rfl) ?_;simp [-zg,-zd,↓Qb,↓Qa,go_sem,Ze,Zg,hRI,hRB,hRT,hRO,w_p2,w_x2,w_y2,w_z2,n_x2_p2,zS n_x2_p2,n_y2_p2,zS n_y2_p2,n_z2_p2,zS n_z2_p2,n_y2_x2,zS n_y2_x2,n_z2_x2,zS n_z2_x2,n_z2_y2,zS n_z2_y2,(show RI.length ≤ RI.length + j_x2 by omega),(show RB.length ≤ RB.length + j_y2 by omega),(show RT.length * 4 ≤ RT.length * 4 + j_z2 by omega)];try (refine ⟨fun s5a=>?_,fun s5a=>?_⟩ <;> (try simp [B_iff,B_not] at s5a) <;> try (refine ⟨fun s5b=>?_,fun s5b=>?_⟩ <;> (try simp [B_iff,B_not] at s5b)))
 | refine Qt (id:=6) Xk hB [] (by kernel_rfl) ?_;simp [-zg,-zd,↓Qb,↓Qa,go_sem]
 | refine Qt (id:=7) Xk hB [] (by kernel_rfl) ?_;simp [-zg,-zd,↓Qb,↓Qa,go_sem]
 | refine Qt (id:=8) Xk hB [] (by kernel_rfl) ?_;simp [-zg,-zd,↓Qb,↓Qa,go_sem,Ze,Zg,hRI,hRB,hRT,hRO,w_p2,w_x2,w_y2,w_z2,n_x2_p2,zS n_x2_p2,n_y2_p2,zS n_y2_p2,n_z2_p2,zS n_z2_p2,n_y2_x2,zS n_y2_x2,n_z2_x2,zS n_z2_x2,n_z2_y2,zS n_z2_y2,(show RI.length ≤ RI.length + j_x2 by omega),(show RB.length ≤ RB.length + j_y2 by omega),(show RT.length * 4 ≤ RT.length * 4 + j_z2 by omega),(show (1:Int) + (RI.length:Int) + (RB.length:Int) + 4 * (RT.length:Int) ≤ 1099511627776 by omega),(show ¬ ((1:Int) + (RI.length:Int) + (RB.length:Int) + 4 * (RT.length:Int) < 0) by omega),(show 0 ≤ (1:Int) + (RI.length:Int) + (RB.length:Int) + 4 * (RT.length:Int) by omega)];try ((refine Xq (fun H6=>H6 p2 = some [.sl x2 1 0 RI.length c_x2,.sl y2 1 0 RB.length c_y2,.sl z2 4 0 RT.length c_z2] ∧ H6 x2 = some (cat cI (marks 1 RI.length) ++ zrP j_x2 D.any) ∧ H6 y2 = some (cat cB (Xf (1 + (RI.length:Int)) RB.length) ++ zrP j_y2 D.any) ∧ H6 z2 = some (cat cT (Xe (1 + (RI.length:Int) + (RB.length:Int)) RT.length) ++ zrP j_z2 D.any)) ⟨by simp [upd,w_p2,w_x2,w_y2,w_z2,n_x2_p2,zS n_x2_p2,n_y2_p2,zS n_y2_p2,n_z2_p2,zS n_z2_p2,n_y2_x2,zS n_y2_x2,n_z2_x2,zS n_z2_x2,n_z2_y2,zS n_z2_y2],by simp [upd,w_p2,w_x2,w_y2,w_z2,n_x2_p2,zS n_x2_p2,n_y2_p2,zS n_y2_p2,n_z2_p2,zS n_z2_p2,n_y2_x2,zS n_y2_x2,n_z2_x2,zS n_z2_x2,n_z2_y2,zS n_z2_y2],by simp [upd,w_p2,w_x2,w_y2,w_z2,n_x2_p2,zS n_x2_p2,n_y2_p2,zS n_y2_p2,n_z2_p2,zS n_z2_p2,n_y2_x2,zS n_y2_x2,n_z2_x2,zS n_z2_x2,n_z2_y2,zS n_z2_y2],by simp [upd,w_p2,w_x2,w_y2,w_z2,n_x2_p2,zS n_x2_p2,n_y2_p2,zS n_y2_p2,n_z2_p2,zS n_z2_p2,n_y2_x2,zS n_y2_x2,n_z2_x2,zS n_z2_x2,n_z2_y2,zS n_z2_y2]⟩ fun H6 ⟨v_p,v_x,v_y,v_z⟩=>?_);(have hm1:=Jr 1 RI.length);(have hm2:=zabm (1 + (RI.length:Int)) RB.length);(have hm3:=zabl (1 + (RI.length:Int) + (RB.length:Int)) RT.length);(have hhm:=heldAu_marks 1 RI.length RB.length RT.length (by omega)))
 | refine Qt (id:=9) Xk hB [] (by kernel_rfl) ?_;simp [-zg,-zd,↓Qb,↓Qa,go_sem]
 | refine Qt (id:=10) Xk hB [] (by kernel_rfl) ?_;simp [-zg,-zd,↓Qb,↓Qa,go_sem,Ze,Zg,hRI,hRB,hRT,hRO,v_p,v_x,v_y,v_z,n_x2_p2,zS n_x2_p2,n_y2_p2,zS n_y2_p2,n_z2_p2,zS n_z2_p2,n_y2_x2,zS n_y2_x2,n_z2_x2,zS n_z2_x2,n_z2_y2,zS n_z2_y2,hm1,hm2,hm3,hhm,(show RI.length ≤ RI.length + j_x2 by omega),(show RB.length ≤ RB.length + j_y2 by omega),(show RT.length * 4 ≤ RT.length * 4 + j_z2 by omega),(show (1:Int) + (RI.length:Int) + (RB.length:Int) + 4 * (RT.length:Int) ≤ 1099511627776 by omega),(show ¬ ((1:Int) + (RI.length:Int) + (RB.length:Int) + 4 * (RT.length:Int) < 0) by omega),(show 0 ≤ (1:Int) + (RI.length:Int) + (RB.length:Int) + 4 * (RT.length:Int) by omega),Xh (f:=cI) (marks 1 RI.length) (zrP j_x2 D.any) (n:=RI.length) hm1.symm,Xh (f:=cB) (Xf (1 + (RI.length:Int)) RB.length) (zrP j_y2 D.any) (n:=RB.length) hm2.symm,Zm (Xe (1 + (RI.length:Int) + (RB.length:Int)) RT.length) (zrP j_z2 D.any) (n:=RT.length) hm3.symm]
 | refine Qt (id:=11) Xk hB [] (by kernel_rfl) ?_;simp [-zg,-zd,↓Qb,↓Qa,go_sem,Ze,Zg,hRI,hRB,hRT,hRO,v_p,v_x,v_y,v_z,n_x2_p2,zS n_x2_p2,n_y2_p2,zS n_y2_p2,n_z2_p2,zS n_z2_p2,n_y2_x2,zS n_y2_x2,n_z2_x2,zS n_z2_x2,n_z2_y2,zS n_z2_y2,hm1,hm2,hm3,hhm,(show RI.length ≤ RI.length + j_x2 by omega),(show RB.length ≤ RB.length + j_y2 by omega),(show RT.length * 4 ≤ RT.length * 4 + j_z2 by omega),(show (1:Int) + (RI.length:Int) + (RB.length:Int) + 4 * (RT.length:Int) ≤ 1099511627776 by omega),(show ¬ ((1:Int) + (RI.length:Int) + (RB.length:Int) + 4 * (RT.length:Int) < 0) by omega),(show 0 ≤ (1:Int) + (RI.length:Int) + (RB.length:Int) + 4 * (RT.length:Int) by omega),Xh (f:=cI) (marks 1 RI.length) (zrP j_x2 D.any) (n:=RI.length) hm1.symm,Xh (f:=cB) (Xf (1 + (RI.length:Int)) RB.length) (zrP j_y2 D.any) (n:=RB.length) hm2.symm,Zm (Xe (1 + (RI.length:Int) + (RB.length:Int)) RT.length) (zrP j_z2 D.any) (n:=RT.length) hm3.symm]
 | refine Qt (id:=12) Xk hB [] (by kernel_rfl) ?_;simp [-zg,-zd,↓Qb,↓Qa,go_sem]
 | refine Qt (id:=13) Xk hB [] (by kernel_rfl) ?_;simp [-zg,-zd,↓Qb,↓Qa,go_sem,Ze,Zg,hRI,hRB,hRT,hRO,v_p,v_x,v_y,v_z,n_x2_p2,zS n_x2_p2,n_y2_p2,zS n_y2_p2,n_z2_p2,zS n_z2_p2,n_y2_x2,zS n_y2_x2,n_z2_x2,zS n_z2_x2,n_z2_y2,zS n_z2_y2,hm1,hm2,hm3,hhm,(show RI.length ≤ RI.length + j_x2 by omega),(show RB.length ≤ RB.length + j_y2 by omega),(show RT.length * 4 ≤ RT.length * 4 + j_z2 by omega),(show (1:Int) + (RI.length:Int) + (RB.length:Int) + 4 * (RT.length:Int) ≤ 1099511627776 by omega),(show ¬ ((1:Int) + (RI.length:Int) + (RB.length:Int) + 4 * (RT.length:Int) < 0) by omega),(show 0 ≤ (1:Int) + (RI.length:Int) + (RB.length:Int) + 4 * (RT.length:Int) by omega),Xh (f:=cI) (marks 1 RI.length) (zrP j_x2 D.any) (n:=RI.length) hm1.symm,Xh (f:=cB) (Xf (1 + (RI.length:Int)) RB.length) (zrP j_y2 D.any) (n:=RB.length) hm2.symm,Zm (Xe (1 + (RI.length:Int) + (RB.length:Int)) RT.length) (zrP j_z2 D.any) (n:=RT.length) hm3.symm]
 | refine Qt (id:=14) Xk hB [] (by kernel_rfl) ?_;simp [-zg,-zd,↓Qb,↓Qa,go_sem]
 | refine Qt (id:=15) Xk hB [] (by kernel_rfl) ?_;simp [-zg,-zd,↓Qb,↓Qa,go_sem,hl,Ze,Zg,hRI,hRB,hRT,hRO,v_p,v_x,v_y,v_z,n_x2_p2,zS n_x2_p2,n_y2_p2,zS n_y2_p2,n_z2_p2,zS n_z2_p2,n_y2_x2,zS n_y2_x2,n_z2_x2,zS n_z2_x2,n_z2_y2,zS n_z2_y2,hm1,hm2,hm3,hhm,(show RI.length ≤ RI.length + j_x2 by omega),(show RB.length ≤ RB.length + j_y2 by omega),(show RT.length * 4 ≤ RT.length * 4 + j_z2 by omega),(show (1:Int) + (RI.length:Int) + (RB.length:Int) + 4 * (RT.length:Int) ≤ 1099511627776 by omega),(show ¬ ((1:Int) + (RI.length:Int) + (RB.length:Int) + 4 * (RT.length:Int) < 0) by omega),(show 0 ≤ (1:Int) + (RI.length:Int) + (RB.length:Int) + 4 * (RT.length:Int) by omega),Xh (f:=cI) (marks 1 RI.length) (zrP j_x2 D.any) (n:=RI.length) hm1.symm,Xh (f:=cB) (Xf (1 + (RI.length:Int)) RB.length) (zrP j_y2 D.any) (n:=RB.length) hm2.symm,Zm (Xe (1 + (RI.length:Int) + (RB.length:Int)) RT.length) (zrP j_z2 D.any) (n:=RT.length) hm3.symm];try ((refine Xm hK 9 ?_);simp [go_sem])
 | refine Qt (id:=16) Xk hB [53] (by kernel_rfl) ?_;simp [-zg,-zd,↓Qb,↓Qa,go_sem,Ze,Zg,hRI,hRB,hRT,hRO,v_p,v_x,v_y,v_z,n_x2_p2,zS n_x2_p2,n_y2_p2,zS n_y2_p2,n_z2_p2,zS n_z2_p2,n_y2_x2,zS n_y2_x2,n_z2_x2,zS n_z2_x2,n_z2_y2,zS n_z2_y2,hm1,hm2,hm3,hhm,(show RI.length ≤ RI.length + j_x2 by omega),(show RB.length ≤ RB.length + j_y2 by omega),(show RT.length * 4 ≤ RT.length * 4 + j_z2 by omega),(show (1:Int) + (RI.length:Int) + (RB.length:Int) + 4 * (RT.length:Int) ≤ 1099511627776 by omega),(show ¬ ((1:Int) + (RI.length:Int) + (RB.length:Int) + 4 * (RT.length:Int) < 0) by omega),(show 0 ≤ (1:Int) + (RI.length:Int) + (RB.length:Int) + 4 * (RT.length:Int) by omega),Xh (f:=cI) (marks 1 RI.length) (zrP j_x2 D.any) (n:=RI.length) hm1.symm,Xh (f:=cB) (Xf (1 + (RI.length:Int)) RB.length) (zrP j_y2 D.any) (n:=RB.length) hm2.symm,Zm (Xe (1 + (RI.length:Int) + (RB.length:Int)) RT.length) (zrP j_z2 D.any) (n:=RT.length) hm3.symm];try (refine ⟨fun s16a=>?_,fun s16a=>?_⟩ <;> (try simp [B_iff,B_not] at s16a) <;> try (refine ⟨fun s16b=>?_,fun s16b=>?_⟩ <;> (try simp [B_iff,B_not] at s16b)))
 | refine Qt (id:=17) Xk hB [] (by kernel_rfl) ?_;simp [-zg,-zd,↓Qb,↓Qa,go_sem]
 | refine Qt (id:=18) Xk hB [] (by kernel_rfl) ?_;simp [-zg,-zd,↓Qb,↓Qa,go_sem]
 | refine Qt (id:=19) Xk hB [] (by kernel_rfl) ?_;simp [-zg,-zd,↓Qb,↓Qa,go_sem,Ze,Zg,hRI,hRB,hRT,hRO,v_p,v_x,v_y,v_z,n_x2_p2,zS n_x2_p2,n_y2_p2,zS n_y2_p2,n_z2_p2,zS n_z2_p2,n_y2_x2,zS n_y2_x2,n_z2_x2,zS n_z2_x2,n_z2_y2,zS n_z2_y2,hm1,hm2,hm3,hhm,(show RI.length ≤ RI.length + j_x2 by omega),(show RB.length ≤ RB.length + j_y2 by omega),(show RT.length * 4 ≤ RT.length * 4 + j_z2 by omega),(show (1:Int) + (RI.length:Int) + (RB.length:Int) + 4 * (RT.length:Int) ≤ 1099511627776 by omega),(show ¬ ((1:Int) + (RI.length:Int) + (RB.length:Int) + 4 * (RT.length:Int) < 0) by omega),(show 0 ≤ (1:Int) + (RI.length:Int) + (RB.length:Int) + 4 * (RT.length:Int) by omega),Xh (f:=cI) (marks 1 RI.length) (zrP j_x2 D.any) (n:=RI.length) hm1.symm,Xh (f:=cB) (Xf (1 + (RI.length:Int)) RB.length) (zrP j_y2 D.any) (n:=RB.length) hm2.symm,Zm (Xe (1 + (RI.length:Int) + (RB.length:Int)) RT.length) (zrP j_z2 D.any) (n:=RT.length) hm3.symm]
 | refine Qt (id:=20) Xk hB [] (by kernel_rfl) ?_;simp [-zg,-zd,↓Qb,↓Qa,go_sem,Ze,Zg,hRI,hRB,hRT,hRO,v_p,v_x,v_y,v_z,n_x2_p2,zS n_x2_p2,n_y2_p2,zS n_y2_p2,n_z2_p2,zS n_z2_p2,n_y2_x2,zS n_y2_x2,n_z2_x2,zS n_z2_x2,n_z2_y2,zS n_z2_y2,hm1,hm2,hm3,hhm,(show RI.length ≤ RI.length + j_x2 by omega),(show RB.length ≤ RB.length + j_y2 by omega),(show RT.length * 4 ≤ RT.length * 4 + j_z2 by omega),(show (1:Int) + (RI.length:Int) + (RB.length:Int) + 4 * (RT.length:Int) ≤ 1099511627776 by omega),(show ¬ ((1:Int) + (RI.length:Int) + (RB.length:Int) + 4 * (RT.length:Int) < 0) by omega),(show 0 ≤ (1:Int) + (RI.length:Int) + (RB.length:Int) + 4 * (RT.length:Int) by omega),Xh (f:=cI) (marks 1 RI.length) (zrP j_x2 D.any) (n:=RI.length) hm1.symm,Xh (f:=cB) (Xf (1 + (RI.length:Int)) RB.length) (zrP j_y2 D.any) (n:=RB.length) hm2.symm,Zm (Xe (1 + (RI.length:Int) + (RB.length:Int)) RT.length) (zrP j_z2 D.any) (n:=RT.length) hm3.symm]
 | refine Qt (id:=21) Xk hB [] (by kernel_rfl) ?_;simp [-zg,-zd,↓Qb,↓Qa,go_sem]
 | refine Qt (id:=22) Xk hB [] (by kernel_rfl) ?_;simp [-zg,-zd,↓Qb,↓Qa,go_sem,Ze,Zg,hRI,hRB,hRT,hRO,v_p,v_x,v_y,v_z,n_x2_p2,zS n_x2_p2,n_y2_p2,zS n_y2_p2,n_z2_p2,zS n_z2_p2,n_y2_x2,zS n_y2_x2,n_z2_x2,zS n_z2_x2,n_z2_y2,zS n_z2_y2,hm1,hm2,hm3,hhm,(show RI.length ≤ RI.length + j_x2 by omega),(show RB.length ≤ RB.length + j_y2 by omega),(show RT.length * 4 ≤ RT.length * 4 + j_z2 by omega),(show (1:Int) + (RI.length:Int) + (RB.length:Int) + 4 * (RT.length:Int) ≤ 1099511627776 by omega),(show ¬ ((1:Int) + (RI.length:Int) + (RB.length:Int) + 4 * (RT.length:Int) < 0) by omega),(show 0 ≤ (1:Int) + (RI.length:Int) + (RB.length:Int) + 4 * (RT.length:Int) by omega),Xh (f:=cI) (marks 1 RI.length) (zrP j_x2 D.any) (n:=RI.length) hm1.symm,Xh (f:=cB) (Xf (1 + (RI.length:Int)) RB.length) (zrP j_y2 D.any) (n:=RB.length) hm2.symm,Zm (Xe (1 + (RI.length:Int) + (RB.length:Int)) RT.length) (zrP j_z2 D.any) (n:=RT.length) hm3.symm]
 | refine Qt (id:=23) Xk hB [] (by kernel_rfl) ?_;simp [-zg,-zd,↓Qb,↓Qa,go_sem]
 | refine Qt (id:=24) Xk hB [] (by kernel_rfl) ?_;simp [-zg,-zd,↓Qb,↓Qa,go_sem]
 | refine Qf (c:=.tmp 13) ?_;simp [-zg,-zd,↓Qb,↓Qa,go_sem];try first | (refine ⟨?_,?_⟩ <;> refine zA ?_) | (refine ⟨fun c13=>?_,fun c13=>?_⟩ <;> (try simp [B_iff,B_not] at c13))
 | refine Qf (c:=.tmp 32) ?_;simp [-zg,-zd,↓Qb,↓Qa,go_sem];try first | (refine ⟨?_,?_⟩ <;> refine zA ?_) | (refine ⟨fun c32=>?_,fun c32=>?_⟩ <;> (try simp [B_iff,B_not] at c32))
 | refine Qf (c:=.tmp 40) ?_;simp [-zg,-zd,↓Qb,↓Qa,go_sem];try first | (refine ⟨?_,?_⟩ <;> refine zA ?_) | (refine ⟨fun c40=>?_,fun c40=>?_⟩ <;> (try simp [B_iff,B_not] at c40))
 | refine Qf (c:=.tmp 43) ?_;simp [-zg,-zd,↓Qb,↓Qa,go_sem];try first | (refine ⟨?_,?_⟩ <;> refine zA ?_) | (refine ⟨fun c43=>?_,fun c43=>?_⟩ <;> (try simp [B_iff,B_not] at c43))
 | refine Qf (c:=.tmp 57) ?_;simp [-zg,-zd,↓Qb,↓Qa,go_sem];try first | (refine ⟨?_,?_⟩ <;> refine zA ?_) | (refine ⟨fun c57=>?_,fun c57=>?_⟩ <;> (try simp [B_iff,B_not] at c57))
 | refine Qf (c:=.tmp 62) ?_;simp [-zg,-zd,↓Qb,↓Qa,go_sem];try first | (refine ⟨?_,?_⟩ <;> refine zA ?_) | (refine ⟨fun c62=>?_,fun c62=>?_⟩ <;> (try simp [B_iff,B_not] at c62))
 | refine Qf (c:=.tmp 65) ?_;simp [-zg,-zd,↓Qb,↓Qa,go_sem];try first | (refine ⟨?_,?_⟩ <;> refine zA ?_) | (refine ⟨fun c65=>?_,fun c65=>?_⟩ <;> (try simp [B_iff,B_not] at c65))
 | (refine Qg ?_)
 | (refine Qq ?_;simp [-zg,-zd,↓Qb,↓Qa,go_sem])
 | (refine Qp ?_;simp [-zg,-zd,↓Qb,↓Qa,go_sem])
 | (refine Qs ?_;simp [-zg,-zd,↓Qb,↓Qa,go_sem,Tryz.results3])
 | (intro hx;refine zA ?_)
 | (refine ⟨?_,?_⟩ <;> refine zA ?_)
 | (intro hx;constructor <;> intro hs)
 | (constructor <;> intro hs)
 | (refine ⟨?_,fun hs=>?_⟩;refine zA ?_)
 | (refine ⟨fun hs=>?_,?_⟩;rotate_left;refine zA ?_;rotate_left)))

end
end Go.Proofs.YtiilmjojffjhlaaGreatDoor.Vm

