import Derived.Test.YtiilmjojffjhlaaGreatDoorHF
import Derived.Test.YtiilmjojffjhlaaGreatDoorPM6
/-
  Certificates bent; what FormatCertificate and ParseCertificate are asked of. No conditions.
-/
namespace Go.Proofs.YtiilmjojffjhlaaGreatDoor.Vm
open Go
open Nat renaming sub_pos_of_lt → zsP
open List renaming getD_eq_getElem?_getD → zg,drop_one → zd,replicate → zrP
open Ne renaming symm → zS
noncomputable section
set_option linter.unusedVariables false
set_option linter.unusedSimpArgs false
set_option maxRecDepth 200000

def BcM (b pb xb:Nat) (ys:List UInt8) (n:Nat) (xs:List Int) (cx jx:Nat) (q:Int) (H:Hp):Prop:=H b = some [.list ys.length (cat cY ys),.int .i64 q] ∧ H pb = some [.sl xb 1 0 n cx] ∧ H xb = some (cat cI xs ++ zrP jx .any) ∧ xs.length = n

@[go_sem] def Uw:List Int → D:=fun x=>.st [li cI x]
theorem l9Bend_flat (x:List Int):dat (Uw x) = Uw x:=by simp [go_sem]
def Uq (rs:List Int):List Int → Prop:=fun x=>x.length ≤ 600000
def l9Bend_gd (rs:List Int) (x:(List Int) × D):Prop:=Uq rs x.1 ∧ dat x.2 = Uw x.1
def zadk (rs:List Int) (p:Int) (c:Any):((List Int) × D) × Int:=dsel (l9Bend_gd rs) (([]:List Int),Uw ([])) 3 p c
def Vp (rs:List Int) (p:Int) (c:Any):(List Int) × Int:=((zadk rs p c).1.1,(zadk rs p c).2)
theorem l9Bend_okD (rs:List Int) (hrs:rs.length ≤ 600000) (p:Int) (c:Any):(Uq rs (Vp rs p c).1 ∧ p ≤ (Vp rs p c).2 ∧ (Vp rs p c).2 ≤ p + 3) ∧ dat (zadk rs p c).1.2 = Uw (Vp rs p c).1:=by
  have hx:Uq rs ([]):=by simp [Uq]
  have h:=Zy (good:=l9Bend_gd rs) (x0:=(([]:List Int),Uw ([]))) ⟨hx,l9Bend_flat _⟩ (K:=3) (by omega) (p:=p) c
  exact ⟨⟨h.1.1,h.2.1,h.2.2⟩,h.1.2⟩
theorem l9Bend_ok (rs:List Int) (hrs:rs.length ≤ 600000) (p:Int) (c:Any):Uq rs (Vp rs p c).1 ∧ p ≤ (Vp rs p c).2 ∧ (Vp rs p c).2 ≤ p + 3:=(l9Bend_okD rs hrs p c).1
theorem zaqf (rs:List Int) (ys:List UInt8) (p:Int) (b:Nat) {e_:Exit} {S_:St} (x:List Int) (p':Int) (he_:e_ = .ret ∨ e_ = .normal)
    (h1:(Qd Tryz.prog S_ Tryz.f75.results.toList).1 ∧ dat (resD (Qd Tryz.prog S_ Tryz.f75.results.toList).2.1) = Uw x ∧ (Qd Tryz.prog S_ Tryz.f75.results.toList).2.2.H b = some [li cY ys,.int .i64 p']) (hg:Uq rs x) (h2:p ≤ p' ∧ p' ≤ p + 3) :
    retR Tryz.prog Tryz.f75 (fun c=>((zadk rs p c).1.2,one b [li cY ys,.int .i64 (zadk rs p c).2])) e_ S_ :=
  Zw (good:=l9Bend_gd rs) (enc:=fun x:(List Int) × D=>x.2) (cells:=fun q=>[li cY ys,.int .i64 q]) (x,resD (Qd Tryz.prog S_ Tryz.f75.results.toList).2.1) p' he_ ⟨h1.1,rfl,h1.2.2⟩ ⟨hg,h1.2.1⟩ h2
set_option maxHeartbeats 16000000 in
theorem l9Bend_spec (ys:List UInt8) (p:Int) (b:Nat) (rs:List Int) (hl:ys.length ≤ 2000) (h0_:0 ≤ p) (hp_:p + 3 ≤ 1000000) (hrs:rs.length ≤ 600000):SpecR Tryz.prog 75 [.ptr b 0,.st [li cI rs]] (one b [li cY ys,.int .i64 p]) (fun c=>((zadk rs p c).1.2,one b [li cY ys,.int .i64 (zadk rs p c).2])):=by
  refine SpecR.of_walk Tryz.func75 rfl (by simp [Tryz.f75]) fun B=>?_
  (repeat' (first
 | refine Qt ?_
 | refine Qc (id:=0) Jk [] (by kernel_rfl) ?_;simp [-zg,-zd,↓Qb,↓Qa,go_sem];try ((refine Qy 3 ?_);simp [go_sem])
 | refine Qc (id:=1) Jk [] (by kernel_rfl) ?_;simp [-zg,-zd,↓Qb,↓Qa,go_sem,(show rs.length ≤ 9223372036854775807 by omega),(show 2 * rs.length * 8 ≤ 281474976710656 by omega)];try ((refine AW_box1 5 rfl fun pb xb jx cx hp hx npx hcx hdx=>?_);(have nbp:¬ b = pb:=(by rintro rfl;simp [upd] at hp));(have nbx:¬ b = xb:=(by rintro rfl;simp [upd] at hx));(clear hp hx);(refine Qp (fun H1=>BcM b pb xb ys rs.length rs cx jx p H1) ⟨by simp [upd,nbp,zS nbp,nbx,zS nbx,npx,zS npx],by simp [upd,nbp,zS nbp,nbx,zS nbx,npx,zS npx],by simp [upd],rfl⟩ fun H1 hM1=>?_))
 | ((obtain ⟨w1,w2,w3,w4⟩:=id hM1));refine Qc (id:=2) Jk [] (by kernel_rfl) ?_;simp [-zg,-zd,↓Qb,↓Qa,go_sem,w2]
 | ((refine Xu pb 0 (b':=xb) (sz:=1) (m:=rs.length) (cp:=cx) (all:=[.sl xb 1 0 rs.length cx]) (cs:=cat cI rs ++ zrP jx .any) w2 rfl npx w3 (by omega) (by simp [Qv]) (by simp [Qv];omega) ?_);(rw [Nat.mul_one,Zt (f:=cI) rs (zrP jx D.any) rfl]));refine Qc (id:=4) Jk [] (by kernel_rfl) ?_;simp [-zg,-zd,↓Qb,↓Qa,go_sem,w1,nbp,zS nbp,nbx,zS nbx,npx,zS npx]
 | ((have hrs1:1 ≤ rs.length:=(by rcases Nat.eq_zero_or_pos rs.length with h | h;exact absurd (List.length_eq_zero_iff.1 h) (by simpa using c17);exact h)));refine Qc (id:=5) Jk [] (by kernel_rfl) ?_;simp [-zg,-zd,↓Qb,↓Qa,go_sem,w1,hl,(show 0 ≤ p by omega),(show p ≤ 1000000 by omega),(show 0 ≤ p + 1 by omega),(show p + 1 ≤ 1000000 by omega)];try ((generalize pkI ys p 6 = kk at *);(refine Qp (fun H1=>BcM b pb xb ys rs.length rs cx jx (p + 1) H1) ⟨by simp [upd,nbp,zS nbp,nbx,zS nbx,npx,zS npx],by simp [upd,nbp,zS nbp,nbx,zS nbx,npx,zS npx,w2],by simp [upd,nbp,zS nbp,nbx,zS nbx,npx,zS npx,w3],rfl⟩ fun H2 hM2=>?_);(obtain ⟨v1,v2,v3,v4⟩:=id hM2))
 | ((obtain ⟨k1,k2⟩:=Wb ys (p:=p + 1) (by omega) (n:=(rs.length:Int)) (by omega));(have kl:(pkI ys (p + 1) (rs.length:Int)).toNat < rs.length:=(by omega)));refine Xr (id:=7) Jk mixed [(pb,[.sl xb 1 0 rs.length cx])] [] [0] (by kernel_rfl) (by kernel_rfl) ?_ ?_ ?_ <;> simp [-zg,-zd,↓Qb,↓Qa,go_sem,v1,v2,v3,hl,nbp,zS nbp,nbx,zS nbx,npx,zS npx,(show 0 ≤ p + 1 by omega),(show p + 1 ≤ 1000000 by omega),(show 0 ≤ p + 1 + 1 by omega),(show p + 1 + 1 ≤ 1000000 by omega),(show 0 ≤ p + 1 + 1 + 1 by omega),(show p + 1 + 1 + 1 ≤ 1000000 by omega),k1,k2,kl,(show (rs.length:Int) ≤ 1000000 by omega),(show (pkI ys (p + 1) (rs.length:Int)).toNat < rs.length + jx by omega),(show (pkI ys (p + 1) (rs.length:Int)).toNat + 1 ≤ rs.length + jx by omega)];try ((generalize numI ys (p + 1 + 1) [-1,0,1,2,-2,4001,9223372036854775807] = vv at *);(obtain ⟨xs7,hx7⟩:∃ x,rs.set (pkI ys (p + 1) (rs.length:Int)).toNat vv = x:=⟨_,rfl⟩);(refine Qp (fun H1=>BcM b pb xb ys rs.length xs7 cx jx (p + 1 + 1 + 1) H1) ⟨by simp [upd,nbp,zS nbp,nbx,zS nbx,npx,zS npx],by simp [upd,nbp,zS nbp,nbx,zS nbx,npx,zS npx,v2],by simp [upd,nbp,zS nbp,nbx,zS nbx,npx,zS npx,v3,set_catI3 kl,hx7],by rw [← hx7,List.length_set]⟩ fun H7 hM7=>?_))
 | refine Qc (id:=9) Jk [] (by kernel_rfl) ?_;simp [-zg,-zd,↓Qb,↓Qa,go_sem,v1,v2,v3,nbp,zS nbp,nbx,zS nbx,npx,zS npx,(show (1:Int) ≤ (rs.length:Int) by omega),Xa (x:=(rs.length:Int) - 1) (by omega) (by omega),(show (0:Int) ≤ (rs.length:Int) - 1 by omega),(show (rs.length:Int) - 1 ≤ (rs.length:Int) by omega),(show (rs.length:Int) - 1 ≤ (cx:Int) by omega),(show ((rs.length:Int) - 1).toNat = rs.length - 1 by omega),(show rs.length - 1 ≤ cx by omega),(show rs.length ≤ cx + 1 by omega)];try ((refine AW_own1 4 (x:=xb) (m1:=rs.length - 1) (cp:=cx) (X:=cat cI rs ++ zrP jx D.any) rfl (by simp [upd,nbp,zS nbp,nbx,zS nbx,npx,zS npx,v3]) (by simp [Qv];omega) (by simp [Qv];omega) fun r hr=>?_);(have nbr:¬ b = r:=(by rintro rfl;simp [upd,nbp,zS nbp,nbx,zS nbx,npx,zS npx,v1] at hr));(have htk:(cat cI rs ++ zrP jx D.any).take (rs.length - 1) = cat cI (rs.take (rs.length - 1)):=(by rw [List.take_append_of_le_length (by simp [Qv])];exact takeH rs (by omega)));(rw [htk]);(have htl:(rs.take (rs.length - 1)).length = rs.length - 1:=(by simp));(refine Qp (fun H1=>H1 b = some [.list ys.length (cat cY ys),.int .i64 (p + 1)] ∧ H1 r = some [.fr 1 (rs.length - 1) (cat cI (rs.take (rs.length - 1)))]) ⟨by simp [upd,nbp,zS nbp,nbx,zS nbx,npx,zS npx,nbr,zS nbr,v1],by simp [upd]⟩ fun H9 ⟨z1,z2⟩=>?_))
 | ((obtain ⟨x1,x2,x3,x4⟩:=id g2);(have hql:q.1 < q.2.1.length:=(by omega)));refine Qc (id:=14) Jk [] (by kernel_rfl) ?_;simp [-zg,-zd,↓Qb,↓Qa,go_sem,x2,x3,x4,hql,Qk hql,zsP hql,nbp,zS nbp,nbx,zS nbx,npx,zS npx,(show q.1 < rs.length by omega),(show q.1 < rs.length + jx by omega),(show q.1 + 1 ≤ rs.length + jx by omega)]
 | refine Xr (id:=15) Jk mixed [(pb,[.sl xb 1 0 rs.length cx]),(xb,cat cI q.2.1 ++ zrP jx .any)] [] [5,7] (by kernel_rfl) (by kernel_rfl) ?_ ?_ ?_ <;> simp [-zg,-zd,↓Qb,↓Qa,go_sem,x2,x3,x4,hql,Qk hql,zsP hql,nbp,zS nbp,nbx,zS nbx,npx,zS npx,(show q.1 < rs.length by omega),(show q.1 < rs.length + jx by omega),(show q.1 + 1 ≤ rs.length + jx by omega)];try ((obtain ⟨xs2,hxs⟩:∃ x,q.2.1.set q.1 (IntKind.i64.wrap (IntKind.i64.wrap (nth q.2.1 q.1 * 2) + 1)) = x:=⟨_,rfl⟩);(refine Qp (fun H1=>BcM b pb xb ys rs.length xs2 cx jx (p + 1) H1) ⟨by simp [upd,nbp,zS nbp,nbx,zS nbx,npx,zS npx,x1],by simp [upd,nbp,zS nbp,nbx,zS nbx,npx,zS npx,x2],by simp [upd,nbp,zS nbp,nbx,zS nbx,npx,zS npx,x3,set_catI3 hql,hxs],by rw [← hxs,List.length_set];exact x4⟩ fun H13 hM13=>?_))
 | (first | (have z13:=hM13) | ((obtain ⟨xs2,hxs⟩:∃ x,q.2.1 = x:=⟨_,rfl⟩);(refine Qp (fun H1=>BcM b pb xb ys rs.length xs2 cx jx (p + 1) H1) (by rw [← hxs];exact g2) fun H13 hM13=>?_)));refine Qc (id:=13) Jk [] (by kernel_rfl) ?_;simp [-zg,-zd,↓Qb,↓Qa,go_sem,wrapS (k:=q.1) (by omega)]
 | ((have hB:∃ xs p2,BcM b pb xb ys rs.length xs cx jx p2 _ ∧ p ≤ p2 ∧ p2 ≤ p + 3:=(by first | exact ⟨_,_,hM7,by omega,by omega⟩ | exact ⟨_,_,g2,by omega,by omega⟩ | exact ⟨_,_,hM2,by omega,by omega⟩));(obtain ⟨xs,p2,⟨x1,x2,x3,x4⟩,hp2a,hp2b⟩:=hB);(refine Xu pb 0 (b':=xb) (sz:=1) (m:=rs.length) (cp:=cx) (all:=[.sl xb 1 0 rs.length cx]) (cs:=cat cI xs ++ zrP jx .any) x2 rfl npx x3 (by omega) (by simp [Qv,x4]) (by simp [Qv,x4];omega) ?_);(rw [Nat.mul_one,Zt (f:=cI) xs (zrP jx D.any) x4.symm]);(rw [← x4]));refine Qc (id:=16) Jk [] (by kernel_rfl) ?_;simp [-zg,-zd,↓Qb,↓Qa,go_sem,x1,nbp,zS nbp,nbx,zS nbx,npx,zS npx]
 | refine Qj (c:=.tmp 17) ?_;simp [-zg,-zd,↓Qb,↓Qa,go_sem];try first | (refine ⟨?_,?_⟩ <;> refine zA ?_) | (refine ⟨fun c17=>?_,fun c17=>?_⟩ <;> (try simp [B_iff,B_not] at c17))
 | (refine Qe (id:=1) (Qw (ι:=Nat × List Int × Hp) (fun q:Nat × List Int × Hp=>⟨(upd (upd (upd (upd (upd (fun _=>.any) 0 (.ptr b 0)) 4 (.box [.nil])) 5 (.ptr pb 0)) 6 (.int .i64 rs.length)) 7 (.int .i64 q.1)),q.2.2⟩) (fun q=>q.1 ≤ rs.length ∧ BcM b pb xb ys rs.length q.2.1 cx jx (p + 1) q.2.2) (fun q=>rs.length - q.1) ((0,rs,H2)) ?_ ?_ ?_);exact ⟨Nat.zero_le _,hM2⟩;((repeat' (first | exact Qg (by assumption) | exact Qi | refine Qf ?_ ?_ | refine Qh ?_)) <;> simp [-zg,-zd,↓Qb,↓Qa,go_sem]);rintro q ⟨g1,g2⟩)
 | (refine ⟨(q.1 + 1,xs2,H13),⟨by dsimp only;omega,hM13⟩,by first | omega | (simp;done) | (simp;omega),?_⟩;((repeat' (first | exact Qg (by assumption) | exact Qi | refine Qf ?_ ?_ | refine Qh ?_)) <;> simp [-zg,-zd,↓Qb,↓Qa,go_sem]))
 | (refine Qe ?_)
 | (refine Qs ?_;simp [-zg,-zd,↓Qb,↓Qa,go_sem])
 | (refine Qr ?_;simp [-zg,-zd,↓Qb,↓Qa,go_sem])
 | (refine Qq ?_;try simp [-zg,-zd,↓Qb,↓Qa,go_sem,Tryz.results75])
 | (intro hx;refine zA ?_)
 | (intro hx;change retR _ _ _ _ _)
 | (refine ⟨?_,?_⟩ <;> refine zA ?_)
 | (intro hx;constructor <;> intro hs)
 | (constructor <;> intro hs)
 | (refine ⟨?_,fun hs=>?_⟩;refine zA ?_)
 | (refine ⟨fun hs=>?_,?_⟩;rotate_left;refine zA ?_;rotate_left)
 | ((fail_if_success change retR _ _ _ _ _);fail)
 | (refine Qj ?_;simp [-zg,-zd,↓Qb,↓Qa,go_sem];try first | (refine ⟨?_,?_⟩ <;> refine zA ?_) | (refine ⟨fun c0z=>?_,fun c0z=>?_⟩ <;> (try simp [B_iff,B_not] at c0z)))
 | (refine Qc Jk [] (by kernel_rfl) ?_;simp [-zg,-zd,↓Qb,↓Qa,go_sem])
 | fail))
  all_goals (first
 | (refine zaqf _ _ _ _ ((rs.take (rs.length - 1))) (p + 1) ?_ ?_ ?_ ?_;(first | exact Or.inl rfl | exact Or.inr rfl);(focus (simp [-zg,-zd,↓Qb,↓Qa,go_sem,Tryz.results75,z1,z2,nbr,zS nbr,nbp,zS nbp,nbx,zS nbx,npx,zS npx,dat,datL,Qz,li,Xx,htl];done));(focus (((simp only [Uq];omega));done));(focus (refine ⟨?_,?_⟩ <;> omega)))
 | (refine zaqf _ _ _ _ (xs) (p2) ?_ ?_ ?_ ?_;(first | exact Or.inl rfl | exact Or.inr rfl);(focus (simp [-zg,-zd,↓Qb,↓Qa,go_sem,Tryz.results75,x1,nbp,zS nbp,nbx,zS nbx,npx,zS npx,dat,datL,Qz,li,Xx];done));(focus (((simp only [Uq];omega));done));(focus (refine ⟨?_,?_⟩ <;> omega)))
 | (refine zaqf _ _ _ _ (rs) (p) ?_ ?_ ?_ ?_;(first | exact Or.inl rfl | exact Or.inr rfl);(focus (simp [-zg,-zd,↓Qb,↓Qa,go_sem,Tryz.results75,w1,nbp,zS nbp,nbx,zS nbx,npx,zS npx,dat,datL,Qz,li,Xx];done));(focus (((simp only [Uq];omega));done));(focus (refine ⟨?_,?_⟩ <;> omega)))
 | skip)
@[go_sem] def l9BendC:Con:=.rel fun args H=>match args with
  | [.ptr b 0,.st [.list n_rs c_rs]]=>match H b with
    | some [.list m cs,.int .i64 p]=>((Is cY m cs) ∧ (m ≤ 2000) ∧ (0 ≤ p) ∧ (p + 3 ≤ 1000000) ∧ (Is cI n_rs c_rs) ∧ ((de cI c_rs).length ≤ 600000),fun c=>(Uw (Vp (de cI c_rs) p c).1,upd H b (some [.list m cs,.int .i64 (Vp (de cI c_rs) p c).2])))
    | _=>(False,fun _=>(.any,H))
  | _=>(False,fun _=>(.any,H))
theorem l9BendC_ok:ConOk Tryz.prog 75 l9BendC:=by
  refine ⟨Qo Tryz.func75 (by decide) rfl,fun args H h=>?_⟩
  revert h
  dsimp only
  split
  · split
    · rename_i hH
      intro h
      obtain ⟨⟨ys,rfl,rfl⟩,hl,h0_,hp_,⟨rs,rfl,rfl⟩,hrs⟩:=h
      try simp only [Qm] at *
      exact SpecR.enc ((l9Bend_spec ys _ _ rs hl h0_ hp_ hrs).frame hH).shut fun c=>Prod.ext (l9Bend_okD _ hrs _ _).2.symm rfl
    · intro h;exact h.elim
  · intro h
    exact h.elim
@[go_sem] def Γc4:FuncId → Con:=ext Γc3 75 l9BendC
theorem Γc4_ok:∀ g,ConOk Tryz.prog g (Γc4 g):=Qn Jk l9BendC_ok


def ofT (ys:List UInt8) (p:Int) (xs:List (List UInt8)):List UInt8:=nth xs (pkI ys p xs.length).toNat
theorem ldT_app {xs:List (List UInt8)} {i:Nat} (h:i < xs.length) (ys:List D):(cat cStr xs ++ ys).getD i .any = .str (nth xs i):=by
  rw [List.getD_eq_getElem?_getD,List.getElem?_append_left (by rw [Qv];omega),← List.getD_eq_getElem?_getD,cat_get1 h];rfl
theorem of_spec (ys:List UInt8) (p:Int) (xs:List (List UInt8)) (b:Nat) (H:Hp) (hH:H b = some [li cY ys,.int .i64 p]) (h0:0 ≤ p) (hp:p ≤ 1000000) (hl:ys.length ≤ 2000) (hx:1 ≤ xs.length) (hn:xs.length ≤ 1000000) :
    Spec Tryz.prog 76 [.ptr b 0,fr 1 cStr xs] H (.str (ofT ys p xs)) (upd H b (some [li cY ys,.int .i64 (p + 1)])):=by
  refine Spec.of_walk Tryz.func76 rfl (by simp [Tryz.f76]) fun B=>?_
  obtain ⟨k1,k2⟩:=Wb ys hp (n:=(xs.length:Int)) (by omega)
  have k3:(pkI ys p xs.length).toNat < xs.length:=by omega
  (repeat' (first
 | refine Qt ?_
 | refine Qc (id:=0) Γc4_ok [] (by kernel_rfl) ?_;simp [-zg,-zd,↓Qb,↓Qa,go_sem];try (refine Zb 1 rfl fun c cp j hc hcp hj=>?_;have hbc:¬ b = c:=(by rintro rfl;dsimp only at hc;rw [hH] at hc;cases hc))
 | refine Qc (id:=1) Γc4_ok [] (by kernel_rfl) ?_;simp [-zg,-zd,↓Qb,↓Qa,go_sem,hH,hbc,zS hbc,h0,hp,hl,k1,k2,k3,(show (xs.length:Int) ≤ 1000000 by omega),(show xs.length ≤ 1000000 by omega),ldT_app k3,(show (pkI ys p xs.length).toNat < xs.length + j by omega)]
 | (refine Qe ?_)
 | (refine Qs ?_;simp [-zg,-zd,↓Qb,↓Qa,go_sem])
 | (refine Qr ?_;simp [-zg,-zd,↓Qb,↓Qa,go_sem])
 | (refine Qq ?_;simp [-zg,-zd,↓Qb,↓Qa,go_sem,Tryz.results76])
 | (intro hx;refine zA ?_)
 | (refine ⟨?_,?_⟩ <;> refine zA ?_)
 | (intro hx;constructor <;> intro hs)
 | (constructor <;> intro hs)
 | (refine ⟨?_,fun hs=>?_⟩;refine zA ?_)
 | (refine ⟨fun hs=>?_,?_⟩;rotate_left;refine zA ?_;rotate_left)))
  all_goals (first
 | (refine ⟨rfl,fun b' cs' h=>?_⟩;dsimp only at hc;by_cases e1:b' = b <;> by_cases e2:b' = c <;> simp_all;done)
 | skip)
@[go_sem] def ofC:Con:=.gen fun args H=>match args with
  | [.ptr b 0,.fr 1 n ds]=>match H b with
    | some [.list m cs,.int .i64 p]=>(Is cY m cs ∧ Is cStr n ds ∧ 0 ≤ p ∧ p ≤ 1000000 ∧ m ≤ 2000 ∧ 1 ≤ n ∧ n ≤ 1000000,.str (ofT (de cY cs) p (de cStr ds)),upd H b (some [.list m cs,.int .i64 (p + 1)]))
    | _=>(False,.any,H)
  | _=>(False,.any,H)
theorem ofC_ok:ConOk Tryz.prog 76 ofC:=by
  refine ⟨Qo Tryz.func76 (by decide) rfl,fun args H h=>?_⟩
  revert h
  dsimp only
  split
  · rename_i b n ds
    split
    · rename_i m cs p hH
      rintro ⟨⟨ys,rfl,rfl⟩,⟨xs,rfl,rfl⟩,h0,h1,h2,h3,h4⟩
      rw [Qm,Qm]
      exact of_spec ys p xs b H hH h0 h1 h2 h3 h4
    · intro h;exact h.elim
  · intro h
    exact h.elim
@[go_sem] def Γcb1:FuncId → Con:=ext Γc4 76 ofC
theorem zaph:∀ g,ConOk Tryz.prog g (Γcb1 g):=Qn Γc4_ok ofC_ok
def bendT (ys:List UInt8) (p:Int) (s:List UInt8) (gs:List (List UInt8)):List UInt8 :=
  if s.length = 0 then s else if pkI ys p 2 = 0 then s else s.take (pkI ys (p + 1) s.length).toNat ++ ofT ys (p + 1 + 1) gs ++ s.drop (pkI ys (p + 1) s.length + pkI ys (p + 1 + 1 + 1) 2).toNat
def bendP (ys:List UInt8) (p:Int) (s:List UInt8):Int :=
  if s.length = 0 then p else if pkI ys p 2 = 0 then p + 1 else p + 1 + 1 + 1 + 1
theorem ofT_le (ys:List UInt8) {p:Int} (hp:p ≤ 1000000) {gs:List (List UInt8)} (hg:1 ≤ gs.length) (h:∀ t ∈ gs,t.length ≤ 10):(ofT ys p gs).length ≤ 10:=by
  obtain ⟨k1,k2⟩:=Wb ys hp (n:=(gs.length:Int)) (by omega)
  have k3:(pkI ys p gs.length).toNat < gs.length:=by omega
  unfold ofT
  rw [Xc k3]
  exact h _ (List.getElem_mem k3)

set_option maxHeartbeats 1000000 in
theorem bend_spec (ys:List UInt8) (p:Int) (s:List UInt8) (gs:List (List UInt8)) (b:Nat) (H:Hp) (hH:H b = some [li cY ys,.int .i64 p]) (h0:0 ≤ p) (hp:p ≤ 800000) (hl:ys.length ≤ 2000) (hs:s.length ≤ 1000000) (hg:1 ≤ gs.length) (hg2:gs.length ≤ 1000) (hg3:∀ t ∈ gs,t.length ≤ 10) :
    Spec Tryz.prog 50 [.ptr b 0,.str s,fr 1 cStr gs] H (.str (bendT ys p s gs)) (upd H b (some [li cY ys,.int .i64 (bendP ys p s)])):=by
  refine Spec.of_walk Tryz.func50 rfl (by simp [Tryz.f50]) fun B=>?_
  have u:=ofT_le ys (p:=p + 1 + 1) (by omega) hg hg3
  by_cases h1:s.length = 0 <;> by_cases h2:pkI ys p 2 = 0
  all_goals (repeat' (first
 | refine Qt ?_
 | refine Qc (id:=1) zaph [11] (by kernel_rfl) ?_;simp [-zg,-zd,↓Qb,↓Qa,go_sem,hH,h0,hl,h1,h2,(show p ≤ 1000000 by omega)];try (refine ⟨fun s1a=>?_,fun s1a=>?_⟩ <;> (try simp [B_iff,B_not] at s1a) <;> try (refine ⟨fun s1b=>?_,fun s1b=>?_⟩ <;> (try simp [B_iff,B_not] at s1b)))
 | (obtain ⟨k1,k2⟩:=Wb ys (p:=p + 1) (by omega) (n:=(s.length:Int)) (by omega);obtain ⟨k3,k4⟩:=Wb ys (p:=p + 1 + 1 + 1) (by omega) (n:=2) (by omega));refine Qc (id:=3) zaph [] (by kernel_rfl) ?_;simp [-zg,-zd,↓Qb,↓Qa,go_sem,hH,hl,(show 0 ≤ p + 1 by omega),(show p + 1 ≤ 1000000 by omega),(show (s.length:Int) ≤ 1000000 by omega),(show s.length ≤ 1000000 by omega)]
 | refine Xn (id:=4) zaph mixed [] [1,7,0] (by kernel_rfl) (by kernel_rfl) ?_ ?_ <;> simp [-zg,-zd,↓Qb,↓Qa,go_sem,hl,hg,hg3,(show gs.length ≤ 1000000 by omega),(show 0 ≤ p + 1 + 1 by omega),(show p + 1 + 1 ≤ 1000000 by omega),(show 0 ≤ p + 1 + 1 + 1 by omega),(show p + 1 + 1 + 1 ≤ 1000000 by omega),k1,(show pkI ys (p + 1) s.length ≤ s.length by omega),Xa (x:=pkI ys (p + 1) s.length + pkI ys (p + 1 + 1 + 1) 2) (by omega) (by omega),(show 0 ≤ pkI ys (p + 1) s.length + pkI ys (p + 1 + 1 + 1) 2 by omega),(show pkI ys (p + 1) s.length + pkI ys (p + 1 + 1 + 1) 2 ≤ s.length by omega),(show (pkI ys (p + 1) s.length).toNat + (ofT ys (p + 1 + 1) gs).length ≤ 9223372036854775807 by omega),(show (pkI ys (p + 1) s.length).toNat + (ofT ys (p + 1 + 1) gs).length + min (↑s.length - (pkI ys (p + 1) s.length + pkI ys (p + 1 + 1 + 1) 2)).toNat (s.length - (pkI ys (p + 1) s.length + pkI ys (p + 1 + 1 + 1) 2).toNat) ≤ 9223372036854775807 by omega)]
 | (refine Qe ?_)
 | (refine Qs ?_;simp [-zg,-zd,↓Qb,↓Qa,go_sem])
 | (refine Qr ?_;simp [-zg,-zd,↓Qb,↓Qa,go_sem])
 | (refine Qq ?_;simp [-zg,-zd,↓Qb,↓Qa,go_sem,Tryz.results50])
 | (intro hx;refine zA ?_)
 | (refine ⟨?_,?_⟩ <;> refine zA ?_)
 | (intro hx;constructor <;> intro hs)
 | (constructor <;> intro hs)
 | (refine ⟨?_,fun hs=>?_⟩;refine zA ?_)
 | (refine ⟨fun hs=>?_,?_⟩;rotate_left;refine zA ?_;rotate_left)
 | (refine Qj ?_;simp [-zg,-zd,↓Qb,↓Qa,go_sem];try first | (refine ⟨?_,?_⟩ <;> refine zA ?_) | (refine ⟨fun c0z=>?_,fun c0z=>?_⟩ <;> (try simp [B_iff,B_not] at c0z)))
 | (refine Qc zaph [] (by kernel_rfl) ?_;simp [-zg,-zd,↓Qb,↓Qa,go_sem])
 | fail))
  all_goals (first
 | (have e1:bendT ys p s gs = s:=(by simp [bendT,h1,h2]);have e2:bendP ys p s = p:=(by simp [bendP,h1]);refine ⟨e1.symm,fun z cs h=>?_⟩;rw [e2] at h;by_cases e:z = b <;> simp_all [li];done)
 | (have e1:bendT ys p s gs = s:=(by simp [bendT,h1,h2]);have e2:bendP ys p s = p + 1:=(by simp [bendP,h1,h2]);refine ⟨e1.symm,fun z cs h=>?_⟩;rw [e2] at h;by_cases e:z = b <;> simp_all [li];done)
 | (have e1:bendT ys p s gs = s.take (pkI ys (p + 1) s.length).toNat ++ ofT ys (p + 1 + 1) gs ++ s.drop (pkI ys (p + 1) s.length + pkI ys (p + 1 + 1 + 1) 2).toNat:=(by simp [bendT,h1,h2]);have e2:bendP ys p s = p + 1 + 1 + 1 + 1:=(by simp [bendP,h1,h2]);have e3:(s.drop (pkI ys (p + 1) s.length + pkI ys (p + 1 + 1 + 1) 2).toNat).take (↑s.length - (pkI ys (p + 1) s.length + pkI ys (p + 1 + 1 + 1) 2)).toNat = s.drop (pkI ys (p + 1) s.length + pkI ys (p + 1 + 1 + 1) 2).toNat:=(by apply List.take_of_length_le;rw [List.length_drop];omega);refine ⟨(by rw [e1,← e3];simp [e3]),fun z cs h=>?_⟩;rw [e2] at h;by_cases e:z = b <;> simp_all [li];done)
 | skip)
def Short (gs:List (List UInt8)):Prop:=∀ t ∈ gs,t.length ≤ 10
@[go_sem] def bendC:Con:=.gen fun args H=>match args with
  | [.ptr b 0,.str s,.fr 1 n ds]=>match H b with
    | some [.list m cs,.int .i64 p]=>(Is cY m cs ∧ Is cStr n ds ∧ 0 ≤ p ∧ p ≤ 800000 ∧ m ≤ 2000 ∧ s.length ≤ 1000000 ∧ 1 ≤ n ∧ n ≤ 1000 ∧ Short (de cStr ds),.str (bendT (de cY cs) p s (de cStr ds)),upd H b (some [.list m cs,.int .i64 (bendP (de cY cs) p s)]))
    | _=>(False,.any,H)
  | _=>(False,.any,H)
theorem bendC_ok:ConOk Tryz.prog 50 bendC:=by
  refine ⟨Qo Tryz.func50 (by decide) rfl,fun args H h=>?_⟩
  revert h
  dsimp only
  split
  · rename_i b s n ds
    split
    · rename_i m cs p hH
      rintro ⟨⟨ys,rfl,rfl⟩,⟨gs,rfl,rfl⟩,h0,h1,h2,h3,h4,h5,h6⟩
      rw [Qm,Qm] at *
      exact bend_spec ys p s gs b H hH h0 h1 h2 h3 h4 h5 h6
    · intro h;exact h.elim
  · intro h
    exact h.elim
@[go_sem] def Γcb2:FuncId → Con:=ext Γcb1 50 bendC
theorem Γcb2_ok:∀ g,ConOk Tryz.prog g (Γcb2 g):=Qn zaph bendC_ok

@[go_sem] def Γc5:FuncId → Con:=ext Γcb2 73 mkCertC
theorem Γc5_ok:∀ g,ConOk Tryz.prog g (Γc5 g):=Qn Γcb2_ok mkCertC_ok

@[go_sem] def Γc6:FuncId → Con:=ext Γc5 14 zaag
theorem Wh:∀ g,ConOk Tryz.prog g (Γc6 g):=Qn Γc5_ok zabe

def DcM (b cb:Nat) (ys:List UInt8) (rs:List Int) (q:Int) (H:Hp):Prop:=H b = some [.list ys.length (cat cY ys),.int .i64 q] ∧ H cb = some [.fr 1 rs.length (cat cI rs)]

@[go_sem] def Wm:G3 × List Int → D:=fun x=>.tup [sG x.1.1,li cX x.1.2.1,sA x.1.2.2,.st [li cI x.2]]
theorem zagv (x:G3 × List Int):dat (Wm x) = Wm x:=by simp [go_sem]
def zaac (xs:List UInt8):G3 × List Int → Prop:=fun x=>x.2.length ≤ 600000
def zaar (xs:List UInt8) (x:(G3 × List Int) × D):Prop:=zaac xs x.1 ∧ dat x.2 = Wm x.1
def zaaj (xs:List UInt8) (c:Any):(G3 × List Int) × D:=sel (zaar xs) ((((([],[]),[],([],[],[])),[]):G3 × List Int),Wm (((([],[]),[],([],[],[])),[]))) c
def zaao (xs:List UInt8) (c:Any):G3 × List Int:=(zaaj xs c).1
theorem zadb (xs:List UInt8)  (c:Any):zaar xs (zaaj xs c):=by
  have hx:zaac xs (((([],[]),[],([],[],[])),[])):=by simp [zaac]
  exact Xl (p:=zaar xs) (x0:=((((([],[]),[],([],[],[])),[]):G3 × List Int),Wm (((([],[]),[],([],[],[])),[])))) ⟨hx,zagv _⟩ c
theorem zadd (xs:List UInt8)  (c:Any):zaac xs (zaao xs c):=(zadb xs  c).1
theorem zahk (xs:List UInt8) {e_:Exit} {S_:St} (x:G3 × List Int) (he_:e_ = .ret ∨ e_ = .normal)
    (h1:(Qd Tryz.prog S_ Tryz.f49.results.toList).1 ∧ dat (resD (Qd Tryz.prog S_ Tryz.f49.results.toList).2.1) = Wm x) (hg:zaac xs x) :
    retR Tryz.prog Tryz.f49 (fun c=>((zaaj xs c).2,fun _=>none)) e_ S_ :=
  Xi (good:=zaar xs) (enc:=fun x:(G3 × List Int) × D=>x.2) (x,resD (Qd Tryz.prog S_ Tryz.f49.results.toList).2.1) he_ ⟨h1.1,rfl⟩ ⟨hg,h1.2⟩
set_option maxHeartbeats 16000000 in
theorem zagu (xs:List UInt8)  : SpecR Tryz.prog 49 [li cY xs] (fun _=>none) (fun c=>((zaaj xs c).2,fun _=>none)):=by
  refine SpecR.of_walk Tryz.func49 rfl (by simp [Tryz.f49]) fun B=>?_
  have hl:=cut_lenZ xs;obtain ⟨ys,hys⟩:∃ y,Yr xs = y:=⟨_,rfl⟩;rw [hys] at hl
  all_goals (repeat' (first
 | refine Qt ?_
 | refine Qc (id:=1) Wh [] (by kernel_rfl) ?_;simp [-zg,-zd,↓Qb,↓Qa,go_sem,hys];try (refine Xs 6 rfl fun b hb=>?_;clear hb)
 | refine Qc (id:=2) Wh [] (by kernel_rfl) ?_;simp [-zg,-zd,↓Qb,↓Qa,go_sem,hl];try ((intro c2);(have z0:=l9Small_ok 0 c2);(generalize Vo 0 c2 = z at *);(obtain ⟨⟨⟨ga,gb⟩,lb,⟨xa,xb,xc⟩⟩,p1⟩:=z);(simp only [zadi] at z0);(obtain ⟨⟨z1,z2,z3⟩,z4,z5⟩:=z0);(dsimp only at z1 z2 z3 z4 z5 ⊢);(try simp [go_sem]);(refine Qy 7 ?_);(simp [go_sem]);(refine Qy 9 ?_);(simp [go_sem]);(obtain ⟨N,hN⟩:∃ N,ga.length * xb.length = N:=⟨_,rfl⟩);(have hN5:N ≤ 500000:=(by rw [← hN];exact Nat.mul_le_mul z1 z2));(have hmul:(ga.length:Int) * (xb.length:Int) = (N:Int):=(by rw [← hN];exact (Int.natCast_mul ..).symm)))
 | refine Qc (id:=3) Wh [] (by kernel_rfl) ?_;simp [-zg,-zd,↓Qb,↓Qa,go_sem,z3];try ((intro c3);(have y0:=zauu ga gb lb xa xb xc z3 c3);(generalize Ya ga gb lb xa xb xc c3 = y at *);(obtain ⟨rk,ok⟩:=y);(have hrk:rk.length ≤ 3840:=y0.1);(clear y0);(refine Xs 10 rfl fun cb hcb=>?_);(have nbc:¬ b = cb:=(by rintro rfl;simp [upd] at hcb));(clear hcb);(refine Qp (fun H1=>DcM b cb ys rk p1 H1) ⟨by simp [upd,nbc,zS nbc],by simp [upd,nbc,zS nbc]⟩ fun H2 hM2=>?_))
 | refine Qc (id:=6) Wh [] (by kernel_rfl) ?_;simp [-zg,-zd,↓Qb,↓Qa,go_sem,hmul,Xa (x:=(N:Int)) (by omega) (by omega)]
 | ((obtain ⟨v1,v2⟩:=id g4);(refine Xw cb 0 (all:=[.fr 1 q.2.1.length (cat cI q.2.1)]) v2 rfl fun rb cr jr hrb hcr hdr=>?_);(have nbr:¬ b = rb:=(by intro e;rw [e] at v1;dsimp only at hrb;rw [v1] at hrb;cases hrb));(have ncr:¬ cb = rb:=(by rintro rfl;dsimp only at hrb;rw [v2] at hrb;cases hrb));(clear hrb);(obtain ⟨k1,k2⟩:=Wb ys (p:=q.2.2.1) (by omega) (n:=4) (by omega));(have hcr2:cr ≤ q.2.1.length + jr:=(by omega)));refine Xr (id:=8) Wh mixed [(cb,[.sl rb 1 0 q.2.1.length cr])] [] [] (by kernel_rfl) (by kernel_rfl) ?_ ?_ ?_ <;> simp [-zg,-zd,↓Qb,↓Qa,go_sem,v1,v2,hl,nbc,zS nbc,nbr,zS nbr,ncr,zS ncr,(show 0 ≤ q.2.2.1 by omega),(show q.2.2.1 ≤ 1000000 by omega),(show 0 ≤ q.2.2.1 + 1 by omega),(show q.2.2.1 + 1 ≤ 1000000 by omega),hcr2,Vd,Xa (x:=pkI ys q.2.2.1 4 - 1) (by omega) (by omega),(show q.2.1.length ≤ 9223372036854775806 by omega),(show 2 * (q.2.1.length + 1) * 8 ≤ 281474976710656 by omega),(show q.2.1.length + 1 ≤ 9223372036854775807 by omega),Zf];try ((obtain ⟨rs2,hrs⟩:∃ x,q.2.1 ++ [pkI ys q.2.2.1 4 - 1] = x:=⟨_,rfl⟩);(have hrl:rs2.length = q.2.1.length + 1:=(by rw [← hrs];simp));(refine Qp (fun H1=>DcM b cb ys rs2 (q.2.2.1 + 1) H1) ⟨by simp [upd,nbc,zS nbc,nbr,zS nbr,ncr,zS ncr],by rw [hrl];simp [upd,nbc,zS nbc,nbr,zS nbr,ncr,zS ncr,← hrs]⟩ fun H9 hM9=>?_))
 | refine Qc (id:=7) Wh [] (by kernel_rfl) ?_;simp [-zg,-zd,↓Qb,↓Qa,go_sem,wrapS (k:=q.1) (by omega)]
 | ((have hB:∃ rs p4,DcM b cb ys rs p4 _ ∧ (0 ≤ p4 ∧ p4 ≤ 600000) ∧ rs.length ≤ 600000:=(by first | exact ⟨_,_,g4,by omega,by omega⟩ | exact ⟨_,_,hM2,by omega,by omega⟩));(obtain ⟨rs,p4,⟨v1,v2⟩,⟨hp4a,hp4b⟩,hrs6⟩:=hB);(refine Yd cb 0 (all:=[.fr 1 rs.length (cat cI rs)]) v2 rfl rfl ?_);(refine Qp (fun H1=>H1 b = some [.list ys.length (cat cY ys),.int .i64 p4] ∧ H1 cb = some [li cI rs]) ⟨by simp [upd,nbc,zS nbc,v1],by simp [upd,nbc,zS nbc,dat,Qz,li,Xx]⟩ fun H4 ⟨x3,x4⟩=>?_));refine Xr (id:=9) Wh mixed [(cb,[li cI rs])] [] [] (by kernel_rfl) (by kernel_rfl) ?_ ?_ ?_ <;> simp [-zg,-zd,↓Qb,↓Qa,go_sem,x3,x4,hl,nbc,zS nbc,(show 0 ≤ p4 by omega),(show p4 ≤ 1000000 by omega),(show 0 ≤ p4 + 1 by omega),(show p4 + 1 ≤ 1000000 by omega),(show p4 + 3 ≤ 1000000 by omega),hrs6];try ((intro c9);(have w9:=l9Bend_ok rs hrs6 p4 c9);(generalize Vp rs p4 c9 = w at *);(obtain ⟨rs9,p9⟩:=w);(have hr9:rs9.length ≤ 600000:=w9.1))
 | (refine Qe (id:=0) (Qw (ι:=Nat × List Int × Int × Hp) (fun q:Nat × List Int × Int × Hp=>⟨(upd (upd (upd (upd (upd (upd (upd (upd (upd (upd (fun _=>.any) 2 (.box [.nil,.nil])) 3 (.nil)) 4 (.box [.nil,.nil,.nil])) 5 (.box [.nil])) 6 (.ptr b 0)) 7 (.pd [li cP ga,li cL gb])) 8 (li cX lb)) 9 (.pd [li cI xa,li cB xb,li cT xc])) 10 (.ptr cb 0)) 12 (.int .i64 q.1)),q.2.2.2⟩) (fun q=>q.1 ≤ N ∧ q.2.1.length = rk.length + q.1 ∧ (p1 ≤ q.2.2.1 ∧ q.2.2.1 ≤ p1 + q.1) ∧ DcM b cb ys q.2.1 q.2.2.1 q.2.2.2) (fun q=>N - q.1) ((0,rk,p1,H2)) ?_ ?_ ?_);exact ⟨Nat.zero_le _,rfl,by dsimp only;omega,hM2⟩;((repeat' (first | exact Qg (by assumption) | exact Qi | refine Qf ?_ ?_ | refine Qh ?_)) <;> simp [-zg,-zd,↓Qb,↓Qa,go_sem]);rintro q ⟨g1,g5,⟨g2,g3⟩,g4⟩)
 | (refine ⟨(q.1 + 1,rs2,q.2.2.1 + 1,H9),⟨by dsimp only;omega,by dsimp only;omega,by dsimp only;omega,hM9⟩,by first | omega | (simp;done) | (simp;omega),?_⟩;((repeat' (first | exact Qg (by assumption) | exact Qi | refine Qf ?_ ?_ | refine Qh ?_)) <;> simp [-zg,-zd,↓Qb,↓Qa,go_sem]))
 | (refine Qe ?_)
 | (refine Qs ?_;simp [-zg,-zd,↓Qb,↓Qa,go_sem])
 | (refine Qr ?_;simp [-zg,-zd,↓Qb,↓Qa,go_sem])
 | (refine Qq ?_;try simp [-zg,-zd,↓Qb,↓Qa,go_sem,Tryz.results49])
 | (intro hx;refine zA ?_)
 | (intro hx;change retR _ _ _ _ _)
 | (refine ⟨?_,?_⟩ <;> refine zA ?_)
 | (intro hx;constructor <;> intro hs)
 | (constructor <;> intro hs)
 | (refine ⟨?_,fun hs=>?_⟩;refine zA ?_)
 | (refine ⟨fun hs=>?_,?_⟩;rotate_left;refine zA ?_;rotate_left)
 | (refine Qj ?_;simp [-zg,-zd,↓Qb,↓Qa,go_sem];try first | (refine ⟨?_,?_⟩ <;> refine zA ?_) | (refine ⟨fun c0z=>?_,fun c0z=>?_⟩ <;> (try simp [B_iff,B_not] at c0z)))
 | (refine Qc Wh [] (by kernel_rfl) ?_;simp [-zg,-zd,↓Qb,↓Qa,go_sem])
 | fail))
  all_goals (first
 | (refine zahk _ ((((ga,gb),lb,(xa,xb,xc)),rs9)) ?_ ?_ ?_;(first | exact Or.inl rfl | exact Or.inr rfl);(focus (simp [-zg,-zd,↓Qb,↓Qa,go_sem,Tryz.results49,dat,datL,Qz,li,Xx];done));(focus (((simp only [zaac];exact hr9));done)))
 | skip)
@[go_sem] def zabz:Con:=.rel fun args H=>match args with
  | [.list n_xs c_xs]=>((Is cY n_xs c_xs),fun c=>(Wm (zaao (de cY c_xs) c),H))
  | _=>(False,fun _=>(.any,H))
theorem zahl:ConOk Tryz.prog 49 zabz:=by
  refine ⟨Qo Tryz.func49 (by decide) rfl,fun args H h=>?_⟩
  revert h
  dsimp only
  split
  · intro h
    obtain ⟨xs,rfl,rfl⟩:=h
    try simp only [Qm] at *
    exact SpecR.enc ((SpecR.frame0 (zagu xs ) (H:=H)).shut) fun c=>Prod.ext (zadb _  c).2.symm rfl
  · intro h
    exact h.elim
@[go_sem] def Γc7:FuncId → Con:=ext Γc6 49 zabz
theorem Γc7_ok:∀ g,ConOk Tryz.prog g (Γc7 g):=Qn Wh zahl

@[go_sem] def Wn:List Int → D:=fun x=>.st [li cI x]
theorem zahn (x:List Int):dat (Wn x) = Wn x:=by simp [go_sem]
def zaad (xs:List UInt8):List Int → Prop:=fun x=>x.length ≤ 600000
def zaat (xs:List UInt8) (x:(List Int) × D):Prop:=zaad xs x.1 ∧ dat x.2 = Wn x.1
def zaap (xs:List UInt8) (c:Any):(List Int) × D:=sel (zaat xs) (([]:List Int),Wn ([])) c
def zabj (xs:List UInt8) (c:Any):List Int:=(zaap xs c).1
theorem zade (xs:List UInt8)  (c:Any):zaat xs (zaap xs c):=by
  have hx:zaad xs ([]):=by simp [zaad]
  exact Xl (p:=zaat xs) (x0:=(([]:List Int),Wn ([]))) ⟨hx,zahn _⟩ c
theorem zaiv (xs:List UInt8)  (c:Any):zaad xs (zabj xs c):=(zade xs  c).1
theorem zahv (xs:List UInt8) {e_:Exit} {S_:St} (x:List Int) (he_:e_ = .ret ∨ e_ = .normal)
    (h1:(Qd Tryz.prog S_ Tryz.f42.results.toList).1 ∧ dat (resD (Qd Tryz.prog S_ Tryz.f42.results.toList).2.1) = Wn x) (hg:zaad xs x) :
    retR Tryz.prog Tryz.f42 (fun c=>((zaap xs c).2,fun _=>none)) e_ S_ :=
  Xi (good:=zaat xs) (enc:=fun x:(List Int) × D=>x.2) (x,resD (Qd Tryz.prog S_ Tryz.f42.results.toList).2.1) he_ ⟨h1.1,rfl⟩ ⟨hg,h1.2⟩
set_option maxHeartbeats 4000000 in
theorem zahm (xs:List UInt8)  : SpecR Tryz.prog 42 [li cY xs] (fun _=>none) (fun c=>((zaap xs c).2,fun _=>none)):=by
  refine SpecR.of_walk Tryz.func42 rfl (by simp [Tryz.f42]) fun B=>?_
  (repeat' (first
 | refine Qt ?_
 | refine Qc (id:=1) Γc7_ok [] (by kernel_rfl) ?_;simp [-zg,-zd,↓Qb,↓Qa,go_sem];try ((intro c1);(have z0:=zadd xs c1);(generalize zaao xs c1 = z at *);(obtain ⟨⟨⟨ga,gb⟩,lb,⟨xa,xb,xc⟩⟩,rs⟩:=z);(simp only [zaac] at z0);(try dsimp only at z0 ⊢);(try simp [go_sem]);(refine Qy 6 ?_);(simp [go_sem]))
 | (refine Qe ?_)
 | (refine Qs ?_;simp [-zg,-zd,↓Qb,↓Qa,go_sem])
 | (refine Qr ?_;simp [-zg,-zd,↓Qb,↓Qa,go_sem])
 | (refine Qq ?_;try simp [-zg,-zd,↓Qb,↓Qa,go_sem,Tryz.results42])
 | (intro hx;refine zA ?_)
 | (intro hx;change retR _ _ _ _ _)
 | (refine ⟨?_,?_⟩ <;> refine zA ?_)
 | (intro hx;constructor <;> intro hs)
 | (constructor <;> intro hs)
 | (refine ⟨?_,fun hs=>?_⟩;refine zA ?_)
 | (refine ⟨fun hs=>?_,?_⟩;rotate_left;refine zA ?_;rotate_left)
 | (refine Qc Γc7_ok [] (by kernel_rfl) ?_;simp [-zg,-zd,↓Qb,↓Qa,go_sem])
 | fail))
  all_goals (first
 | (refine zahv _ (rs) ?_ ?_ ?_;(first | exact Or.inl rfl | exact Or.inr rfl);(focus (simp [-zg,-zd,↓Qb,↓Qa,go_sem,Tryz.results42,dat,datL,Qz,li,Xx];done));(focus (((simp only [zaad];exact z0));done)))
 | skip)
@[go_sem] def zack:Con:=.rel fun args H=>match args with
  | [.list n_xs c_xs]=>((Is cY n_xs c_xs),fun c=>(Wn (zabj (de cY c_xs) c),H))
  | _=>(False,fun _=>(.any,H))
theorem zahw:ConOk Tryz.prog 42 zack:=by
  refine ⟨Qo Tryz.func42 (by decide) rfl,fun args H h=>?_⟩
  revert h
  dsimp only
  split
  · intro h
    obtain ⟨xs,rfl,rfl⟩:=h
    try simp only [Qm] at *
    exact SpecR.enc ((SpecR.frame0 (zahm xs ) (H:=H)).shut) fun c=>Prod.ext (zade _  c).2.symm rfl
  · intro h
    exact h.elim
@[go_sem] def Γc8:FuncId → Con:=ext Γc7 42 zack
theorem Γc8_ok:∀ g,ConOk Tryz.prog g (Γc8 g):=Qn Γc7_ok zahw

@[go_sem] def Wl:List Int → D:=fun x=>.st [li cI x]
theorem zafy (x:List Int):dat (Wl x) = Wl x:=by simp [go_sem]
def zaaa (xs:List UInt8):List Int → Prop:=fun x=>x.length ≤ 600000
def zaan (xs:List UInt8) (x:(List Int) × D):Prop:=zaaa xs x.1 ∧ dat x.2 = Wl x.1
def zaai (xs:List UInt8) (c:Any):(List Int) × D:=sel (zaan xs) (([]:List Int),Wl ([])) c
def zaaz (xs:List UInt8) (c:Any):List Int:=(zaai xs c).1
theorem zacs (xs:List UInt8)  (c:Any):zaan xs (zaai xs c):=by
  have hx:zaaa xs ([]):=by simp [zaaa]
  exact Xl (p:=zaan xs) (x0:=(([]:List Int),Wl ([]))) ⟨hx,zafy _⟩ c
theorem zahj (xs:List UInt8)  (c:Any):zaaa xs (zaaz xs c):=(zacs xs  c).1
theorem zagt (xs:List UInt8) {e_:Exit} {S_:St} (x:List Int) (he_:e_ = .ret ∨ e_ = .normal)
    (h1:(Qd Tryz.prog S_ Tryz.f11.results.toList).1 ∧ dat (resD (Qd Tryz.prog S_ Tryz.f11.results.toList).2.1) = Wl x) (hg:zaaa xs x) :
    retR Tryz.prog Tryz.f11 (fun c=>((zaai xs c).2,fun _=>none)) e_ S_ :=
  Xi (good:=zaan xs) (enc:=fun x:(List Int) × D=>x.2) (x,resD (Qd Tryz.prog S_ Tryz.f11.results.toList).2.1) he_ ⟨h1.1,rfl⟩ ⟨hg,h1.2⟩
set_option maxHeartbeats 4000000 in
theorem zafx (xs:List UInt8)  : SpecR Tryz.prog 11 [li cY xs] (fun _=>none) (fun c=>((zaai xs c).2,fun _=>none)):=by
  refine SpecR.of_walk Tryz.func11 rfl (by simp [Tryz.f11]) fun B=>?_
  (repeat' (first
 | refine Qt ?_
 | refine Qc (id:=1) Γc8_ok [] (by kernel_rfl) ?_;simp [-zg,-zd,↓Qb,↓Qa,go_sem];try ((intro c1);(have z0:=zaiv xs c1);(generalize zabj xs c1 = rs at *);(simp only [zaad] at z0))
 | (refine Qe ?_)
 | (refine Qs ?_;simp [-zg,-zd,↓Qb,↓Qa,go_sem])
 | (refine Qr ?_;simp [-zg,-zd,↓Qb,↓Qa,go_sem])
 | (refine Qq ?_;try simp [-zg,-zd,↓Qb,↓Qa,go_sem,Tryz.results11])
 | (intro hx;refine zA ?_)
 | (intro hx;change retR _ _ _ _ _)
 | (refine ⟨?_,?_⟩ <;> refine zA ?_)
 | (intro hx;constructor <;> intro hs)
 | (constructor <;> intro hs)
 | (refine ⟨?_,fun hs=>?_⟩;refine zA ?_)
 | (refine ⟨fun hs=>?_,?_⟩;rotate_left;refine zA ?_;rotate_left)
 | (refine Qc Γc8_ok [] (by kernel_rfl) ?_;simp [-zg,-zd,↓Qb,↓Qa,go_sem])
 | fail))
  all_goals (first
 | (refine zagt _ (rs) ?_ ?_ ?_;(first | exact Or.inl rfl | exact Or.inr rfl);(focus (simp [-zg,-zd,↓Qb,↓Qa,go_sem,Tryz.results11,dat,datL,Qz,li,Xx];done));(focus (((simp only [zaaa];exact z0));done)))
 | skip)
@[go_sem] def zaas:Con:=.rel fun args H=>match args with
  | [.list n_xs c_xs]=>((Is cY n_xs c_xs),fun c=>(Wl (zaaz (de cY c_xs) c),H))
  | _=>(False,fun _=>(.any,H))
theorem zact:ConOk Tryz.prog 11 zaas:=by
  refine ⟨Qo Tryz.func11 (by decide) rfl,fun args H h=>?_⟩
  revert h
  dsimp only
  split
  · intro h
    obtain ⟨xs,rfl,rfl⟩:=h
    try simp only [Qm] at *
    exact SpecR.enc ((SpecR.frame0 (zafx xs ) (H:=H)).shut) fun c=>Prod.ext (zacs _  c).2.symm rfl
  · intro h
    exact h.elim
@[go_sem] def Γc9:FuncId → Con:=ext Γc8 11 zaas
theorem Γc9_ok:∀ g,ConOk Tryz.prog g (Γc9 g):=Qn Γc8_ok zact

def signsC:List (List UInt8):=[[],[32],[45],[48],[55],[120],[52,48,48,49]]
@[go_sem] theorem sgC_is:Is cStr 7 [.str [],.str [32],.str [45],.str [48],.str [55],.str [120],.str [52,48,48,49]] = True:=eq_true ⟨signsC,rfl,rfl⟩
@[go_sem] theorem sgC_de:de cStr [.str [],.str [32],.str [45],.str [48],.str [55],.str [120],.str [52,48,48,49]] = signsC:=Qm (f:=cStr) signsC
theorem signsC_ok:∀ t ∈ signsC,t.length ≤ 10:=by decide
@[go_sem] theorem signsC_sh:Short signsC = True:=eq_true signsC_ok
theorem bendT_lenC {ys:List UInt8} {p:Int} {s:List UInt8} {gs:List (List UInt8)} (hp:p ≤ 900000) (hg:1 ≤ gs.length) (h:∀ t ∈ gs,t.length ≤ 10):(bendT ys p s gs).length ≤ 2 * s.length + 10:=by
  have h2:=ofT_le ys (p:=p + 1 + 1) (by omega) hg h
  unfold bendT
  split
  · omega
  · split
    · omega
    · simp only [List.length_append,List.length_take,List.length_drop];omega
theorem certT_le (xs:List Int):(certT xs).length ≤ 20100:=by
  cases h:Za xs with
  | false=>rw [zani h];simp
  | true =>
    have h1:=zafm xs.length (zaji h) (Nat.le_refl _)
    have h2:=zasb h
    rw [zahy (Nat.le_refl _)] at h1
    rw [zalr h]
    omega

@[go_sem] def zabd:List UInt8 → D:=fun x=>.str x
@[go_sem] def zaae:List UInt8 → D:=fun x=>.str x
theorem zahh (x:List UInt8):dat (zaae x) = zabd x:=by simp [go_sem]
def zaab (xs:List UInt8):List UInt8 → Prop:=fun x=>x.length ≤ 1000000
def zaaf (xs:List UInt8) (c:Any):List UInt8:=sel (zaab xs) ([]) c
theorem zahu (xs:List UInt8)  (c:Any):zaab xs (zaaf xs c):=Xl (p:=zaab xs) (x0:=[]) (by simp [zaab]) c
theorem zahg (xs:List UInt8) {e_:Exit} {S_:St} (x:List UInt8) (he_:e_ = .ret ∨ e_ = .normal)
    (h1:(Qd Tryz.prog S_ Tryz.f16.results.toList).1 ∧ resD (Qd Tryz.prog S_ Tryz.f16.results.toList).2.1 = zaae x) (hg:zaab xs x) :
    retR Tryz.prog Tryz.f16 (fun c=>(zaae (zaaf xs c),fun _=>none)) e_ S_:=Xi (enc:=zaae) x he_ h1 hg
set_option maxHeartbeats 8000000 in
theorem zags (xs:List UInt8)  : SpecR Tryz.prog 16 [li cY xs] (fun _=>none) (fun c=>(zaae (zaaf xs c),fun _=>none)):=by
  refine SpecR.of_walk Tryz.func16 rfl (by simp [Tryz.f16]) fun B=>?_
  have hl:=cut_lenZ xs;obtain ⟨ys,hys⟩:∃ y,Yr xs = y:=⟨_,rfl⟩;rw [hys] at hl;(have u4:∀ a,(certT a).length ≤ 1000000:=(fun a=>Nat.le_trans (certT_le a) (by omega)))
  all_goals (repeat' (first
 | refine Qt ?_
 | refine Qc (id:=1) Γc9_ok [] (by kernel_rfl) ?_;simp [-zg,-zd,↓Qb,↓Qa,go_sem,hys];try (refine Xs 3 rfl fun b hb=>?_;clear hb)
 | refine Qc (id:=2) Γc9_ok [] (by kernel_rfl) ?_;simp [-zg,-zd,↓Qb,↓Qa,go_sem];try ((intro c2);(have z0:=zadd xs c2);(generalize zaao xs c2 = z at *);(obtain ⟨⟨⟨ga,gb⟩,lb,⟨xa,xb,xc⟩⟩,rs⟩:=z);(try dsimp only at z0 ⊢);(try simp [go_sem]);(refine Qy 7 ?_);(simp [go_sem]);(have h5:=bendT_lenC (ys:=ys) (p:=0) (s:=certT rs) (gs:=signsC) (by omega) (by decide) signsC_ok);(have h6:=certT_le rs))
 | refine Qc (id:=3) Γc9_ok [] (by kernel_rfl) ?_;simp [-zg,-zd,↓Qb,↓Qa,go_sem,hl,u4,(show 0 ≤ 0 by omega),(show 0 ≤ 1000000 by omega),(show 0 ≤ 0 + 1 by omega),(show 0 + 1 ≤ 1000000 by omega)]
 | (refine Qe ?_)
 | (refine Qs ?_;simp [-zg,-zd,↓Qb,↓Qa,go_sem])
 | (refine Qr ?_;simp [-zg,-zd,↓Qb,↓Qa,go_sem])
 | (refine Qq ?_;try simp [-zg,-zd,↓Qb,↓Qa,go_sem,Tryz.results16])
 | (intro hx;refine zA ?_)
 | (intro hx;change retR _ _ _ _ _)
 | (refine ⟨?_,?_⟩ <;> refine zA ?_)
 | (intro hx;constructor <;> intro hs)
 | (constructor <;> intro hs)
 | (refine ⟨?_,fun hs=>?_⟩;refine zA ?_)
 | (refine ⟨fun hs=>?_,?_⟩;rotate_left;refine zA ?_;rotate_left)
 | (refine Qc Γc9_ok [] (by kernel_rfl) ?_;simp [-zg,-zd,↓Qb,↓Qa,go_sem])
 | fail))
  all_goals (first
 | (refine zahg _ ((bendT ys 0 (certT rs) signsC)) ?_ ?_ ?_;(first | exact Or.inl rfl | exact Or.inr rfl);(focus (simp [-zg,-zd,↓Qb,↓Qa,go_sem,Tryz.results16];done));(focus (((simp only [zaab];omega));done)))
 | skip)
@[go_sem] def zaby:Con:=.rel fun args H=>match args with
  | [.list n_xs c_xs]=>((Is cY n_xs c_xs),fun c=>(zabd (zaaf (de cY c_xs) c),H))
  | _=>(False,fun _=>(.any,H))
theorem zahi:ConOk Tryz.prog 16 zaby:=by
  refine ⟨Qo Tryz.func16 (by decide) rfl,fun args H h=>?_⟩
  revert h
  dsimp only
  split
  · intro h
    obtain ⟨xs,rfl,rfl⟩:=h
    try simp only [Qm] at *
    have h1_:=(SpecR.frame0 (zags xs ) (H:=H)).shut
    simp only [zahh] at h1_
    exact h1_
  · intro h
    exact h.elim

theorem wpInts_pure (xs:List Int) (ys:List Int)  : Pure Tryz.prog 15 [li cI xs,li cI ys] (.bool (decide (xs = ys))):=by
  refine Pure.of_walk Tryz.func15 rfl (by simp [Tryz.f15]) (by simp [-zd,go_sem]) fun B hK=>?_
  (repeat' (first
 | refine Qt ?_
 | (refine Jb 0 rfl fun hm=>?_);refine Qc (id:=0) zama [] (by kernel_rfl) ?_;simp [-zg,-zd,↓Qb,↓Qa,go_sem]
 | (have cy:k < ys.length:=by omega);refine Xn (id:=6) zama mixed [] [5] (by kernel_rfl) (by kernel_rfl) ?_ ?_ <;> simp [-zg,-zd,↓Qb,↓Qa,go_sem,c14,Qk c14,zsP c14,cy,Qk cy,zsP cy]
 | refine Qc (id:=5) zama [] (by kernel_rfl) ?_;simp [-zg,-zd,↓Qb,↓Qa,go_sem,wrapS (k:=k) (by omega)]
 | refine Qj (c:=.tmp 10) ?_;simp [-zg,-zd,↓Qb,↓Qa,go_sem];try first | (refine ⟨?_,?_⟩ <;> refine zA ?_) | (refine ⟨fun c10=>?_,fun c10=>?_⟩ <;> (try simp [B_iff,B_not] at c10))
 | refine Qj (c:=.tmp 14) ?_;simp [-zg,-zd,↓Qb,↓Qa,go_sem];try first | (refine ⟨?_,?_⟩ <;> refine zA ?_) | (refine ⟨fun c14=>?_,fun c14=>?_⟩ <;> (try simp [B_iff,B_not] at c14))
 | refine Qj (c:=.tmp 25) ?_;simp [-zg,-zd,↓Qb,↓Qa,go_sem];try first | (refine ⟨?_,?_⟩ <;> refine zA ?_) | (refine ⟨fun c25=>?_,fun c25=>?_⟩ <;> (try simp [B_iff,B_not] at c25))
 | (refine Qe (id:=0) (Qw (ι:=Nat) (fun k:Nat=>⟨(upd (upd (upd (fun _=>.any) 0 (li cI xs)) 1 (li cI ys)) 5 (.int .i64 k)),fun _=>none⟩) (fun k=>k ≤ xs.length ∧ NoneTill (neAt xs ys) k) (fun k=>xs.length - k) (0) ?_ ?_ ?_);exact ⟨Nat.zero_le _,.zero _⟩;((repeat' (first | exact Qg (by assumption) | exact Qi | refine Qf ?_ ?_ | refine Qh ?_)) <;> simp [-zg,-zd,↓Qb,↓Qa,go_sem]);rintro k ⟨hk,ht⟩)
 | (refine ⟨k + 1,⟨by omega,ht.succ (by simp [neAt];first | exact c25 | simp_all)⟩,by first | omega | (simp;done) | (simp;omega),?_⟩;((repeat' (first | exact Qg (by assumption) | exact Qi | refine Qf ?_ ?_ | refine Qh ?_)) <;> simp [-zg,-zd,↓Qb,↓Qa,go_sem]))
 | (refine Qe ?_)
 | (refine Qs ?_;simp [-zg,-zd,↓Qb,↓Qa,go_sem])
 | (refine Qr ?_;simp [-zg,-zd,↓Qb,↓Qa,go_sem])
 | (refine Qq ?_;simp [-zg,-zd,↓Qb,↓Qa,go_sem,Tryz.results15])
 | (intro hx;refine zA ?_)
 | (refine ⟨?_,?_⟩ <;> refine zA ?_)
 | (intro hx;constructor <;> intro hs)
 | (constructor <;> intro hs)
 | (refine ⟨?_,fun hs=>?_⟩;refine zA ?_)
 | (refine ⟨fun hs=>?_,?_⟩;rotate_left;refine zA ?_;rotate_left)
 | (refine Qc zama [] (by kernel_rfl) ?_;simp [-zg,-zd,↓Qb,↓Qa,go_sem])
 | fail))
  all_goals (first
 | (rintro rfl;simp at c10;done)
 | (rintro rfl;simp at c25;done)
 | exact zafi (by omega) ht (by omega)
 | skip)
@[go_sem] def zajx:Con:=.pure fun
  | [.list n_xs c_xs,.list n_ys c_ys]=>((Is cI n_xs c_xs) ∧ (Is cI n_ys c_ys),.bool (decide ((de cI c_xs) = (de cI c_ys))))
  | _=>(False,.any)
theorem zasq:ConOk Tryz.prog 15 zajx:=by
  refine ⟨Qo Tryz.func15 (by decide) rfl,fun args h=>?_⟩
  revert h
  dsimp only
  split
  · intro h
    obtain ⟨⟨xs,rfl,rfl⟩,⟨ys,rfl,rfl⟩⟩:=h
    try simp only [Qm] at *
    exact ⟨wpInts_pure xs ys,by simp [go_sem]⟩
  · intro h
    exact h.elim
@[go_sem] def Γct1:FuncId → Con:=ext Γpc7 15 zajx
theorem Γct1_ok:∀ g,ConOk Tryz.prog g (Γct1 g):=Qn zama zasq

@[go_sem] def Γct2:FuncId → Con:=ext Γct1 11 zaas
theorem Γct2_ok:∀ g,ConOk Tryz.prog g (Γct2 g):=Qn Γct1_ok zact

@[go_sem] def Γct3:FuncId → Con:=ext Γct2 16 zaby
theorem Γct3_ok:∀ g,ConOk Tryz.prog g (Γct3 g):=Qn Γct2_ok zahi

@[go_sem] def Γct4:FuncId → Con:=Γct3
theorem Γct4_ok:∀ g,ConI Tryz.prog LibOk g (Γct4 g):=fun g=>(Γct3_ok g).toI

@[go_sem] def Γct5:FuncId → Con:=ext Γct4 12 zaah
theorem Γct5_ok:∀ g,ConI Tryz.prog LibOk g (Γct5 g):=ext_okI Γct4_ok zabf
@[go_sem] def Γct6:FuncId → Con:=ext Γct5 13 zaft
theorem We:∀ g,ConI Tryz.prog LibOk g (Γct6 g):=ext_okI Γct5_ok zane
theorem okC_text (a:List Int):(certT a = [] ∧ True ∧ okC (certR (certT a)) (certT a) = false ∧ okC (certR []) [] = false) ∨ (¬ certT a = [] ∧ certR (certT a) = a ∧ okC (certR (certT a)) (certT a) = true ∧ okC a (certT a) = true):=by
  cases h:Za a with
  | false =>
    have h1:=zani h
    have h2:okC (certR []) [] = false:=decide_eq_false fun k=>k.1 rfl
    refine .inl ⟨h1,trivial,?_,h2⟩
    rw [h1];exact h2
  | true =>
    have h1:=zalr h
    have h2:certR (certT a) = a:=by rw [h1];exact zaur h
    have h3:¬ certT a = []:=by rw [h1];simp [ranks]
    have h4:okC a (certT a) = true:=decide_eq_true ⟨h3,rfl⟩
    exact .inr ⟨h3,h2,by rw [h2];exact h4,h4⟩
theorem okC_printed {R:List Int} {t:List UInt8} (h:okC R t = true):certT R = t:=(of_decide_eq_true h).2

set_option maxHeartbeats 4000000 in

theorem lawCT (xs:List UInt8) (zs:List UInt8)  : PureI Tryz.prog LibOk 4 [li cY xs,li cY zs] (.bool true):=by
  refine PureI.of_walk Tryz.func4 rfl (by simp [Tryz.f4]) (by simp [-zd,go_sem]) LibOk.frm fun B hK hB=>?_
  (repeat' (first
 | refine Qt ?_
 | refine Zu (id:=1) We hB [17] (by kernel_rfl) ?_;simp [-zg,-zd,↓Qb,↓Qa,go_sem];try (refine ⟨fun s1a=>?_,fun s1a=>?_⟩ <;> (try simp [B_iff,B_not] at s1a) <;> try (refine ⟨fun s1b=>?_,fun s1b=>?_⟩ <;> (try simp [B_iff,B_not] at s1b)))
 | refine Zu (id:=3) We hB [] (by kernel_rfl) ?_;simp [-zg,-zd,↓Qb,↓Qa,go_sem];try ((intro c3);(have y0:=zahj xs c3);(generalize (zaaz xs c3) = a at *);(simp only [zaaa] at y0);(refine Xh hK 5 ?_);(simp [go_sem]);(have hle:(certT a).length ≤ 1048576:=Nat.le_trans (certT_le a) (by omega));(rcases okC_text a with ⟨hT,hR,hok,hok2⟩ | ⟨hT,hR,hok,hok2⟩))
 | refine Zu (id:=5) We hB [] (by kernel_rfl) ?_;simp [-zg,-zd,↓Qb,↓Qa,go_sem,hle,hok,hok2,hR];try ((refine Xh hK 7 ?_);(simp [go_sem]))
 | refine Zu (id:=6) We hB [35,41,43] (by kernel_rfl) ?_;simp [-zg,-zd,↓Qb,↓Qa,go_sem,hT,hR];try (refine ⟨fun s6a=>?_,fun s6a=>?_⟩ <;> (try simp [B_iff,B_not] at s6a) <;> try (refine ⟨fun s6b=>?_,fun s6b=>?_⟩ <;> (try simp [B_iff,B_not] at s6b) <;> try (refine ⟨fun s6c=>?_,fun s6c=>?_⟩ <;> (try simp [B_iff,B_not] at s6c) <;> try (refine ⟨fun s6d=>?_,fun s6d=>?_⟩ <;> (try simp [B_iff,B_not] at s6d)))))
 | refine Zu (id:=8) We hB [] (by kernel_rfl) ?_;simp [-zg,-zd,↓Qb,↓Qa,go_sem];try ((intro c8);(have y8:=zahu zs c8);(generalize (zaaf zs c8) = t at *);(simp only [zaab] at y8);(have hl:t.length ≤ 1048576:=Nat.le_trans y8 (by omega));(have hS:=okC_same t);(have hE:okC (certR t) t = true → specR t = certR t:=specR_eq);(have hF:okC (certR t) t = true → certT (certR t) = t:=okC_printed);(cases hq:okC (certR t) t))
 | refine Zu (id:=9) We hB [] (by kernel_rfl) ?_;simp [-zg,-zd,↓Qb,↓Qa,go_sem,hl,hq];try ((refine Xh hK 10 ?_);(simp [go_sem]))
 | refine Zu (id:=10) We hB [] (by kernel_rfl) ?_;simp [-zg,-zd,↓Qb,↓Qa,go_sem,hl,hS,hq,hE];try ((refine Xh hK 12 ?_);(simp [go_sem]))
 | refine Zu (id:=11) We hB [67,74,77] (by kernel_rfl) ?_;simp [-zg,-zd,↓Qb,↓Qa,go_sem,hq,hE,hF];try (refine ⟨fun s11a=>?_,fun s11a=>?_⟩ <;> (try simp [B_iff,B_not] at s11a) <;> try (refine ⟨fun s11b=>?_,fun s11b=>?_⟩ <;> (try simp [B_iff,B_not] at s11b) <;> try (refine ⟨fun s11c=>?_,fun s11c=>?_⟩ <;> (try simp [B_iff,B_not] at s11c) <;> try (refine ⟨fun s11d=>?_,fun s11d=>?_⟩ <;> (try simp [B_iff,B_not] at s11d)))))
 | (refine Qe ?_)
 | (refine Qs ?_;simp [-zg,-zd,↓Qb,↓Qa,go_sem])
 | (refine Qr ?_;simp [-zg,-zd,↓Qb,↓Qa,go_sem])
 | (refine Qq ?_;simp [-zg,-zd,↓Qb,↓Qa,go_sem,Tryz.results4])
 | (intro hx;refine zA ?_)
 | (refine ⟨?_,?_⟩ <;> refine zA ?_)
 | (intro hx;constructor <;> intro hs)
 | (constructor <;> intro hs)
 | (refine ⟨?_,fun hs=>?_⟩;refine zA ?_)
 | (refine ⟨fun hs=>?_,?_⟩;rotate_left;refine zA ?_;rotate_left)
 | (refine Qj ?_;simp [-zg,-zd,↓Qb,↓Qa,go_sem];try first | (refine ⟨?_,?_⟩ <;> refine zA ?_) | (refine ⟨fun c0z=>?_,fun c0z=>?_⟩ <;> (try simp [B_iff,B_not] at c0z)))
 | (refine Zu We hB [] (by kernel_rfl) ?_;simp [-zg,-zd,↓Qb,↓Qa,go_sem])
 | fail))

end
end Go.Proofs.YtiilmjojffjhlaaGreatDoor.Vm

