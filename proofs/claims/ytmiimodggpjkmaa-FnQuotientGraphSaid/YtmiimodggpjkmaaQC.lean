/-
  impl.QuotientGraph. No conditions.
-/
import Derived.Test.YtmiimodggpjkmaaQB
namespace Go.Proofs.Ytmiimodggpjkmaa.Vm
open Go
open Nat renaming sub_pos_of_lt → zsP
open List renaming getD_eq_getElem?_getD → zg,drop_one → zd,replicate → zrP
open Ne renaming symm → zS
noncomputable section
set_option linter.unusedVariables false
set_option linter.unusedSimpArgs false
set_option maxRecDepth 200000

theorem clipP_spec (b n c:Nat) (H:Hp) (hc:n ≤ c):Spec Try.prog 41 [.sl b 2 0 n c] H (.sl b 2 0 n n) H:=by
  refine Spec.of_walk Try.func41 rfl (by simp [Try.f41]) fun B=>?_
  (repeat' (first
 | refine Qs ?_
 | refine Qc (id:=0) Γqa6_ok [] (by kernel_rfl) ?_;simp [-zg,-zd,↓Qb,↓Qa,go_sem]
 | refine Qc (id:=1) Γqa6_ok [] (by kernel_rfl) ?_;simp [-zg,-zd,↓Qb,↓Qa,go_sem,hc]
 | (refine Qe ?_)
 | (refine Qr ?_;simp [-zg,-zd,↓Qb,↓Qa,go_sem])
 | (refine Qq ?_;simp [-zg,-zd,↓Qb,↓Qa,go_sem])
 | (refine Qp ?_;simp [-zg,-zd,↓Qb,↓Qa,go_sem,Try.results41])
 | (intro hx;refine zA ?_)
 | (refine ⟨?_,?_⟩ <;> refine zA ?_)
 | (intro hx;constructor <;> intro hs)
 | (constructor <;> intro hs)
 | (refine ⟨?_,fun hs=>?_⟩;refine zA ?_)
 | (refine ⟨fun hs=>?_,?_⟩;rotate_left;refine zA ?_;rotate_left)))
  all_goals (first
 | (intro b' cs' h;exact h)
 | skip)
@[go_sem] def clipPC:Con:=.gen fun args H=>match args with
  | [.sl b 2 0 n c]=>(n ≤ c,.sl b 2 0 n n,H)
  | _=>(False,.any,H)
theorem clipPC_ok:ConOk Try.prog 41 clipPC:=by
  refine ⟨Qn Try.func41 (by decide) rfl,fun args H h=>?_⟩
  revert h
  dsimp only
  split
  · intro h
    exact clipP_spec _ _ _ H h
  · intro h
    exact h.elim
@[go_sem] def Γqa7:FuncId → Con:=ext Γqa6 41 clipPC
theorem Γqa7_ok:∀ g,ConOk Try.prog g (Γqa7 g):=Qm Γqa6_ok clipPC_ok

theorem clipLL_spec (b n c:Nat) (H:Hp) (hc:n ≤ c):Spec Try.prog 42 [.sl b 1 0 n c] H (.sl b 1 0 n n) H:=by
  refine Spec.of_walk Try.func42 rfl (by simp [Try.f42]) fun B=>?_
  (repeat' (first
 | refine Qs ?_
 | refine Qc (id:=0) Γqa7_ok [] (by kernel_rfl) ?_;simp [-zg,-zd,↓Qb,↓Qa,go_sem]
 | refine Qc (id:=1) Γqa7_ok [] (by kernel_rfl) ?_;simp [-zg,-zd,↓Qb,↓Qa,go_sem,hc]
 | (refine Qe ?_)
 | (refine Qr ?_;simp [-zg,-zd,↓Qb,↓Qa,go_sem])
 | (refine Qq ?_;simp [-zg,-zd,↓Qb,↓Qa,go_sem])
 | (refine Qp ?_;simp [-zg,-zd,↓Qb,↓Qa,go_sem,Try.results42])
 | (intro hx;refine zA ?_)
 | (refine ⟨?_,?_⟩ <;> refine zA ?_)
 | (intro hx;constructor <;> intro hs)
 | (constructor <;> intro hs)
 | (refine ⟨?_,fun hs=>?_⟩;refine zA ?_)
 | (refine ⟨fun hs=>?_,?_⟩;rotate_left;refine zA ?_;rotate_left)))
  all_goals (first
 | (intro b' cs' h;exact h)
 | skip)
@[go_sem] def clipLLC:Con:=.gen fun args H=>match args with
  | [.sl b 1 0 n c]=>(n ≤ c,.sl b 1 0 n n,H)
  | _=>(False,.any,H)
theorem clipLLC_ok:ConOk Try.prog 42 clipLLC:=by
  refine ⟨Qn Try.func42 (by decide) rfl,fun args H h=>?_⟩
  revert h
  dsimp only
  split
  · intro h
    exact clipLL_spec _ _ _ H h
  · intro h
    exact h.elim
@[go_sem] def Γqa8:FuncId → Con:=ext Γqa7 42 clipLLC
theorem Γqa8_ok:∀ g,ConOk Try.prog g (Γqa8 g):=Qm Γqa7_ok clipLLC_ok

theorem copyOfS_pure (u:List Int) (v:List Int) (h0:u.length ≤ 1048576) (h1:v.length ≤ 1048576):Pure Try.prog 39 [.st [li cI u,li cI v]] (.st [fr 1 cI u,fr 1 cI v]):=by
  refine Pure.of_walk Try.func39 rfl (by simp [Try.f39]) (by simp [-zd,go_sem]) fun B hK=>?_
  (repeat' (first
 | refine Qs ?_
 | refine Qc (id:=0) Γqa8_ok [] (by kernel_rfl) ?_;simp [-zg,-zd,↓Qb,↓Qa,go_sem];try (refine Xb hK 1 ?_;simp [go_sem])
 | refine Xm (id:=1) Γqa8_ok mixed [] [1] (by kernel_rfl) (by kernel_rfl) (by simp [-zg,-zd,↓Qb,↓Qa,go_sem,h0,h1]) ?_;simp [-zg,-zd,↓Qb,↓Qa,go_sem,h0,h1]
 | (refine Qe ?_)
 | (refine Qr ?_;simp [-zg,-zd,↓Qb,↓Qa,go_sem])
 | (refine Qq ?_;simp [-zg,-zd,↓Qb,↓Qa,go_sem])
 | (refine Qp ?_;simp [-zg,-zd,↓Qb,↓Qa,go_sem,Try.results39])
 | (intro hx;refine zA ?_)
 | (refine ⟨?_,?_⟩ <;> refine zA ?_)
 | (intro hx;constructor <;> intro hs)
 | (constructor <;> intro hs)
 | (refine ⟨?_,fun hs=>?_⟩;refine zA ?_)
 | (refine ⟨fun hs=>?_,?_⟩;rotate_left;refine zA ?_;rotate_left)))
@[go_sem] def zafm:Con:=.pure fun
  | [.st [.list n_u c_u,.list n_v c_v]]=>((Is cI n_u c_u) ∧ (Is cI n_v c_v) ∧ ((de cI c_u).length ≤ 1048576) ∧ ((de cI c_v).length ≤ 1048576),.st [fr 1 cI (de cI c_u),fr 1 cI (de cI c_v)])
  | _=>(False,.any)
theorem zani:ConOk Try.prog 39 zafm:=by
  refine ⟨Qn Try.func39 (by decide) rfl,fun args h=>?_⟩
  revert h
  dsimp only
  split
  · intro h
    obtain ⟨⟨u,rfl,rfl⟩,⟨v,rfl,rfl⟩,h0,h1⟩:=h
    try simp only [Qo] at *
    exact ⟨copyOfS_pure u v h0 h1,by simp [go_sem]⟩
  · intro h
    exact h.elim
@[go_sem] def Γqa9:FuncId → Con:=ext Γqa8 39 zafm
theorem Zb:∀ g,ConOk Try.prog g (Γqa9 g):=Qm Γqa8_ok zani

structure QGx where
  k:Nat
  xb:Nat
  cx:Nat
  jx:Nat
  nb:Nat
  cn:Nat
  jn:Nat
  H:Hp
structure QGm (g:Nat) (ss:List Ints2) (ns:List (List Int)) (x:QGx) (H:Hp):Prop where
  hg:H g = some [.sl x.xb 2 0 ss.length x.cx,.sl x.nb 1 0 ns.length x.cn]
  hx:H x.xb = some (cat oP ss ++ zrP x.jx .any)
  hn:H x.nb = some (cat oL ns ++ zrP x.jn .any)
  n1:¬ x.xb = g
  n2:¬ x.nb = g
  n3:¬ x.nb = x.xb
  r1:ss.length ≤ x.cx
  r2:x.cx * 2 ≤ ss.length * 2 + x.jx
  r3:ns.length ≤ x.cn
  r4:x.cn ≤ ns.length + x.jn
structure LBq (g:Nat) (ss:List Ints2) (ns:List (List Int)) (q:QGx) (xs:List Int) (x:LB):Prop where
  m:LBm xs x
  qm:QGm g ss ns q x.H
  n1:¬ x.lb = g
  n2:¬ x.lb = q.xb
  n3:¬ x.lb = q.nb
theorem QGm.less {g:Nat} {ss:List Ints2} {ns:List (List Int)} {q:QGx} {H1 H2:Hp} (h:QGm g ss ns q H1) (e1:H2 g = H1 g) (e2:H2 q.xb = H1 q.xb) (e3:H2 q.nb = H1 q.nb):QGm g ss ns q H2 :=
  ⟨e1.trans h.hg,e2.trans h.hx,e3.trans h.hn,h.n1,h.n2,h.n3,h.r1,h.r2,h.r3,h.r4⟩
theorem QGm.at {g:Nat} {ss:List Ints2} {ns:List (List Int)} {q:QGx} {H:Hp} (h:QGm g ss ns q H) (k:Nat) (H2:Hp):QGm g ss ns ⟨k,q.xb,q.cx,q.jx,q.nb,q.cn,q.jn,H2⟩ H:=⟨h.hg,h.hx,h.hn,h.n1,h.n2,h.n3,h.r1,h.r2,h.r3,h.r4⟩
set_option maxHeartbeats 16000000 in

theorem implQg_pure (a:List Ints2) (b:List (List Int)) (p:List Int) (hm:msum mP a a.length ≤ 1048576):Pure Try.prog 8 [.st [li cP a,li cL b],li cI p] (.tup [if Vm.B (GraphOk a b ∧ Xy p ∧ p.length = a.length) = true then .st [fr 2 oP (qS a p p.length),fr 1 oL (qN b p p.length)] else .st [.nil,.nil],.bool (Vm.B (GraphOk a b ∧ Xy p ∧ p.length = a.length))]):=by
  refine Pure.of_walk Try.func8 rfl (by simp [Try.f8]) (by simp [-zd,go_sem]) fun B hK=>?_
  cases hg:Vm.B (GraphOk a b ∧ Xy p ∧ p.length = a.length)
  all_goals (repeat' (first
 | refine Qs ?_
 | refine Qc (id:=0) Zb [] (by kernel_rfl) ?_;simp [-zg,-zd,↓Qb,↓Qa,go_sem];try ((refine Xb hK 2 ?_);simp [go_sem])
 | refine Qc (id:=1) Zb [] (by kernel_rfl) ?_;simp [-zg,-zd,↓Qb,↓Qa,go_sem,hg]
 | refine Qc (id:=2) Zb [] (by kernel_rfl) ?_;simp [-zg,-zd,↓Qb,↓Qa,go_sem]
 | ((have hQ:QgOk a b p:=(by rw [B_iff] at hg;exact hg));(obtain ⟨⟨g1,g2,g3,g4,g5⟩,hP,e⟩:=id hQ);(have hrow:=fun i hi=>hQ.row (i:=i) hi));refine Qc (id:=3) Zb [] (by kernel_rfl) ?_;simp [-zg,-zd,↓Qb,↓Qa,go_sem];try ((refine AW_boxNilQ2 6 2 1 rfl ?_);(refine Zf 6 rfl fun g qg=>?_);(refine Za g 0 (all:=[.fr 2 0 [],.fr 1 0 []]) (by simp [upd]) rfl fun xb cx jx qx hcx hjx=>?_);(dsimp only at qx);(have n1:¬ xb = g:=(by rintro rfl;simp [upd] at qx));(refine Za g 1 (all:=[.sl xb 2 0 0 cx,.fr 1 0 []]) (by simp [upd,n1,zS n1]) rfl fun nb cn jn qn hcn hjn=>?_);(dsimp only at qn);(have n2:¬ nb = g:=(by rintro rfl;simp [upd,n1,zS n1] at qn));(have n3:¬ nb = xb:=(by rintro rfl;simp [upd,n1,zS n1] at qn));(clear qg qx qn);(refine Qw (fun H1=>QGm g (qS a p 0) (qN b p 0) ⟨0,xb,cx,jx,nb,cn,jn,H1⟩ H1) ⟨by simp [upd,n1,n2,n3,zS n1,zS n2,zS n3,qS,qN,fsN],by simp [upd,n1,n2,n3,zS n1,zS n2,zS n3,qS,fsN,Xj],by simp [upd,n1,n2,n3,zS n1,zS n2,zS n3,qN,fsN,Xj],n1,n2,n3,by simp [qS,fsN],by simp [qS,fsN];omega,by simp [qN,fsN],by simp [qN,fsN];omega⟩ fun H1 w1=>?_))
 | refine Qc (id:=4) Zb [] (by kernel_rfl) ?_;simp [-zg,-zd,↓Qb,↓Qa,go_sem]
 | refine Qc (id:=5) Zb [] (by kernel_rfl) ?_;simp [-zg,-zd,↓Qb,↓Qa,go_sem]
 | refine Qc (id:=6) Zb [] (by kernel_rfl) ?_;simp [-zg,-zd,↓Qb,↓Qa,go_sem,c20,Qg c20,zsP c20]
 | refine Qc (id:=7) Zb [] (by kernel_rfl) ?_;simp [-zg,-zd,↓Qb,↓Qa,go_sem]
 | ((have hyes:nth p q.k = ((fsN p q.k).length:Int):=(first_iff hP c20).1 (by first | assumption | (simp_all;done)));(have kb:q.k < b.length:=(by omega));(have ka:q.k < a.length:=(by omega));(obtain ⟨hpl,hrl⟩:=hrow q.k c20);(obtain ⟨row,hrw⟩:∃ r,nth b q.k = r:=⟨_,rfl⟩);(rw [hrw] at hpl hrl);(obtain ⟨xs,hxs⟩:∃ x,pickL p row = x:=⟨_,rfl⟩);(have hxl:xs.length = row.length:=(by rw [← hxs,zaku]));(have hqR:qR b p (q.k:Int) = ddN xs xs.length:=(by rw [qR_eq,Int.toNat_natCast,hrw,hxs,hxl])));refine Qc (id:=8) Zb [] (by kernel_rfl) ?_;simp [-zg,-zd,↓Qb,↓Qa,go_sem]
 | refine Qc (id:=9) Zb [] (by kernel_rfl) ?_;simp [-zg,-zd,↓Qb,↓Qa,go_sem,kb,Qg kb,zsP kb,hrw,hpl,hxs,(show row.length ≤ 1048576 by omega)];try ((refine Xb hK 35 ?_);(simp [go_sem]);(refine AW_nilfr 9 1 rfl ?_);(refine Zj 9 rfl fun lb cl jl ql hcl hjl=>?_);(dsimp only at ql);(have l1:¬ lb = g:=(by rintro rfl;rw [q2.hg] at ql;cases ql));(have l2:¬ lb = q.xb:=(by rintro rfl;rw [q2.hx] at ql;cases ql));(have l3:¬ lb = q.nb:=(by rintro rfl;rw [q2.hn] at ql;cases ql));(clear ql);(refine Qw (fun H2=>LBq g (qS a p q.k) (qN b p q.k) q (ddN xs 0) ⟨0,lb,cl,jl,H2⟩) ⟨⟨by simp [upd,ddN,Xj],by simp [ddN],by simp [ddN];omega⟩,q2.less (by simp [upd,l1,zS l1]) (by simp [upd,l2,zS l2]) (by simp [upd,l3,zS l3]),l1,l2,l3⟩ fun H2 w2=>?_))
 | refine Qc (id:=10) Zb [] (by kernel_rfl) ?_;simp [-zg,-zd,↓Qb,↓Qa,go_sem]
 | ((have cx:y.k < xs.length:=(by omega));(obtain ⟨z,hz⟩:∃ z,nth xs y.k = z:=⟨_,rfl⟩));refine Qc (id:=11) Zb [] (by kernel_rfl) ?_;simp [-zg,-zd,↓Qb,↓Qa,go_sem,cx,Qg cx,zsP cx,hz,c38]
 | ((obtain ⟨⟨m1,m2,m3⟩,m4,l1',l2',l3'⟩:=id k2);(have hdl:=ddN_le xs y.k));refine Qc (id:=12) Zb [] (by kernel_rfl) ?_;simp [-zg,-zd,↓Qb,↓Qa,go_sem,m1,Xz]
 | ((have hnew:¬ nth xs y.k ∈ ddN xs y.k:=(by rw [hz];exact c44));(have hys:=ddN_new hnew);(rw [hz] at hys);(have hyl:=congrArg List.length hys);(rw [List.length_append,List.length_singleton] at hyl));refine Qc (id:=13) Zb [] (by kernel_rfl) ?_;simp [-zg,-zd,↓Qb,↓Qa,go_sem,m1,m3,Wd,Xz,(show (ddN xs y.k).length ≤ 9223372036854775806 by omega),(show 2 * ((ddN xs y.k).length + 1) * 8 ≤ 281474976710656 by omega),(show (ddN xs y.k).length ≤ (ddN xs y.k).length + y.jl by omega)];try ((refine Zj 9 rfl fun lb2 cl2 jl2 ql2 hc2 hj2=>?_);(dsimp only at ql2);(have u1:¬ lb2 = g:=(by rintro rfl;simp [upd,m4.hg,l1',zS l1'] at ql2));(have u2:¬ lb2 = q.xb:=(by rintro rfl;simp [upd,m4.hx,l2',zS l2'] at ql2));(have u3:¬ lb2 = q.nb:=(by rintro rfl;simp [upd,m4.hn,l3',zS l3'] at ql2));(clear ql2);(refine Qw (fun H3=>LBq g (qS a p q.k) (qN b p q.k) q (ddN xs (y.k + 1)) ⟨y.k + 1,lb2,cl2,jl2,H3⟩) ⟨⟨by simp [upd,hys],by dsimp only;omega,by dsimp only;omega⟩,m4.less (by simp [upd,u1,zS u1,l1',zS l1']) (by simp [upd,u2,zS u2,l2',zS l2']) (by simp [upd,u3,zS u3,l3',zS l3']),u1,u2,u3⟩ fun H3 w3=>?_))
 | (try (have hin:nth xs y.k ∈ ddN xs y.k:=(by rw [hz];assumption)));refine Qc (id:=14) Zb [] (by kernel_rfl) ?_;simp [-zg,-zd,↓Qb,↓Qa,go_sem,wrapS (k:=y.k) (by omega)]
 | ((obtain ⟨ky,ly,cy,jy,Hy⟩:=y);(dsimp only at *);(obtain rfl:ky = row.length:=by omega);(obtain ⟨⟨m1,m2,m3⟩,m4,l1',l2',l3'⟩:=id k2);(dsimp only at m1 m2 m3 l1' l2' l3');(obtain ⟨v1,v2,v3,v4,v5,v6,v7,v8,v9,v10⟩:=id m4);(dsimp only at v1 v2 v3);(have hdl:=ddN_le xs row.length);(have hsl:=Vw a p q.k);(have hnl:=qN_len b p q.k);(have hfl:=fsN_le p q.k);(have hsy:=qS_yes (a:=a) hyes);(have hny:=qN_yes (b:=b) hyes);(rw [hqR,hxl] at hny);(have hms:=msum_at (m:=mP) ka);(simp only [mP] at hms);(have hsy2:cat oP (qS a p q.k) ++ [D.fr 1 (nth a q.k).1.length (cat cI (nth a q.k).1),D.fr 1 (nth a q.k).2.length (cat cI (nth a q.k).2)] = cat oP (qS a p (q.k + 1)):=(by rw [hsy,Xi,Xd];rfl));(have hsl2:=congrArg List.length hsy);(rw [List.length_append,List.length_singleton] at hsl2);(have hnl2:=congrArg List.length hny);(rw [List.length_append,List.length_singleton] at hnl2));refine Zt (id:=15) Zb mixed [(g,[.sl q.xb 2 0 (qS a p q.k).length q.cx,.sl q.nb 1 0 (qN b p q.k).length q.cn])] [] [] (by kernel_rfl) (by kernel_rfl) (by simp [-zg,-zd,↓Qb,↓Qa,go_sem,v1,v2,v4,zS v4,ka,Qg ka,zsP ka,hsy2,(show (nth a q.k).1.length ≤ 1048576 by omega),(show (nth a q.k).2.length ≤ 1048576 by omega),(show (qS a p q.k).length ≤ 9223372036854775806 by omega),(show 2 * ((qS a p q.k).length + 1) * 48 ≤ 281474976710656 by omega),(show (qS a p q.k).length * 2 ≤ (qS a p q.k).length * 2 + q.jx by omega),v8,(show makeD [D.nil,D.nil] 2 = [D.nil,D.nil] from rfl)]) (by simp [-zg,-zd,↓Qb,↓Qa,go_sem,v1,v2,v4,zS v4,ka,Qg ka,zsP ka,hsy2,(show (nth a q.k).1.length ≤ 1048576 by omega),(show (nth a q.k).2.length ≤ 1048576 by omega),(show (qS a p q.k).length ≤ 9223372036854775806 by omega),(show 2 * ((qS a p q.k).length + 1) * 48 ≤ 281474976710656 by omega),(show (qS a p q.k).length * 2 ≤ (qS a p q.k).length * 2 + q.jx by omega),v8,(show makeD [D.nil,D.nil] 2 = [D.nil,D.nil] from rfl)]) ?_;simp [-zg,-zd,↓Qb,↓Qa,go_sem,v1,v2,v4,zS v4,ka,Qg ka,zsP ka,hsy2,(show (nth a q.k).1.length ≤ 1048576 by omega),(show (nth a q.k).2.length ≤ 1048576 by omega),(show (qS a p q.k).length ≤ 9223372036854775806 by omega),(show 2 * ((qS a p q.k).length + 1) * 48 ≤ 281474976710656 by omega),(show (qS a p q.k).length * 2 ≤ (qS a p q.k).length * 2 + q.jx by omega),v8,(show makeD [D.nil,D.nil] 2 = [D.nil,D.nil] from rfl)];try ((refine Za g 0 (all:=[.fr 2 ((qS a p q.k).length + 1) (cat oP (qS a p (q.k + 1))),.sl q.nb 1 0 (qN b p q.k).length q.cn]) (by simp [upd,v4,zS v4]) rfl fun xb2 cx2 jx2 qx hcx2 hjx2=>?_);(dsimp only at qx);(have s1:¬ xb2 = g:=(by rintro rfl;simp [upd,v4,zS v4] at qx));(have s2:¬ xb2 = q.nb:=(by rintro rfl;simp [upd,v1,v3,v4,v5,v6,zS v4,zS v5,zS v6] at qx));(have s3:¬ xb2 = ly:=(by rintro rfl;simp [upd,m1,l1',l2',zS l1',zS l2'] at qx));(clear qx);(refine Qw (fun H4=>H4 g = some [.sl xb2 2 0 (qS a p (q.k + 1)).length cx2,.sl q.nb 1 0 (qN b p q.k).length q.cn] ∧ H4 xb2 = some (cat oP (qS a p (q.k + 1)) ++ zrP jx2 D.any) ∧ H4 q.nb = some (cat oL (qN b p q.k) ++ zrP q.jn D.any) ∧ H4 ly = some (cat cI (ddN xs row.length) ++ zrP jy D.any)) ⟨by simp [upd,s1,zS s1,hsl2],by simp [upd],by simp [upd,v3,s1,s2,zS s2,v5,zS v5,v6,zS v6],by simp [upd,m1,s3,zS s3,l1',zS l1',l2',zS l2']⟩ fun H4 ⟨t1,t2,t3,t4⟩=>?_))
 | ((refine Ji 9 (b:=ly) (all:=cat cI (ddN xs row.length) ++ zrP jy D.any) rfl t4 (by omega) (by simp [Qt]) (by simp [Qt];omega) ?_);(rw [Nat.mul_one,Xz]);(have hnyc:cat oL (qN b p q.k) ++ [D.fr 1 (ddN xs row.length).length (cat cI (ddN xs row.length))] = cat oL (qN b p (q.k + 1)):=(by rw [hny,snoc_oLq])));refine Zt (id:=16) Zb mixed [(g,[.sl xb2 2 0 (qS a p (q.k + 1)).length cx2,.sl q.nb 1 0 (qN b p q.k).length q.cn])] [] [] (by kernel_rfl) (by kernel_rfl) (by simp [-zg,-zd,↓Qb,↓Qa,go_sem,t1,t3,l1',zS l1',l3',zS l3',v5,zS v5,hnyc,(show (qN b p q.k).length ≤ 9223372036854775806 by omega),(show 2 * ((qN b p q.k).length + 1) * 24 ≤ 281474976710656 by omega),(show (qN b p q.k).length ≤ (qN b p q.k).length + q.jn by omega),v10]) (by simp [-zg,-zd,↓Qb,↓Qa,go_sem,t1,t3,l1',zS l1',l3',zS l3',v5,zS v5,hnyc,(show (qN b p q.k).length ≤ 9223372036854775806 by omega),(show 2 * ((qN b p q.k).length + 1) * 24 ≤ 281474976710656 by omega),(show (qN b p q.k).length ≤ (qN b p q.k).length + q.jn by omega),v10]) ?_;simp [-zg,-zd,↓Qb,↓Qa,go_sem,t1,t3,l1',zS l1',l3',zS l3',v5,zS v5,hnyc,(show (qN b p q.k).length ≤ 9223372036854775806 by omega),(show 2 * ((qN b p q.k).length + 1) * 24 ≤ 281474976710656 by omega),(show (qN b p q.k).length ≤ (qN b p q.k).length + q.jn by omega),v10];try ((refine Za g 1 (all:=[.sl xb2 2 0 (qS a p (q.k + 1)).length cx2,.fr 1 ((qN b p q.k).length + 1) (cat oL (qN b p (q.k + 1)))]) (by simp [upd,v5,zS v5,l1',zS l1']) rfl fun nb2 cn2 jn2 qn hcn2 hjn2=>?_);(dsimp only at qn);(have r1:¬ nb2 = g:=(by rintro rfl;simp [upd] at qn));(have r2:¬ nb2 = xb2:=(by rintro rfl;simp [upd,t2,s1,s2,s3,zS s1,zS s2,zS s3] at qn));(clear qn);(refine Qw (fun H5=>QGm g (qS a p (q.k + 1)) (qN b p (q.k + 1)) ⟨q.k + 1,xb2,cx2,jx2,nb2,cn2,jn2,H5⟩ H5) ⟨by simp [upd,r1,zS r1,hnl2],by simp [upd,t2,r1,r2,zS r2,s1,s2,s3,zS s1,zS s2,zS s3],by simp [upd],s1,r1,r2,by dsimp only;omega,by dsimp only;omega,by dsimp only;omega,by dsimp only;omega⟩ fun H5 w5=>?_))
 | (try (have hno:¬ nth p q.k = ((fsN p q.k).length:Int):=(fun h=>by have:=(first_iff hP c20).2 h;exact absurd this (by assumption))));refine Qc (id:=17) Zb [] (by kernel_rfl) ?_;simp [-zg,-zd,↓Qb,↓Qa,go_sem,wrapS (k:=q.k) (by omega)]
 | ((obtain ⟨kx,xb3,cx3,jx3,nb3,cn3,jn3,Hx⟩:=q);(dsimp only at *);(obtain rfl:kx = p.length:=by omega);(obtain ⟨v1,v2,v3,v4,v5,v6,v7,v8,v9,v10⟩:=id q2);(dsimp only at v1 v2 v3 v4 v5 v6 v7 v8 v9 v10));refine Zt (id:=18) Zb mixed [(g,[.sl xb3 2 0 (qS a p p.length).length cx3,.sl nb3 1 0 (qN b p p.length).length cn3])] [] [6] (by kernel_rfl) (by kernel_rfl) (by simp [-zg,-zd,↓Qb,↓Qa,go_sem,v1,v7,v9]) (by simp [-zg,-zd,↓Qb,↓Qa,go_sem,v1,v7,v9]) ?_;simp [-zg,-zd,↓Qb,↓Qa,go_sem,v1,v7,v9];try ((refine Zf 4 rfl fun r qr=>?_);(dsimp only at qr);(have e1:¬ r = xb3:=(by rintro rfl;rw [v2] at qr;cases qr));(have e2:¬ r = nb3:=(by rintro rfl;rw [v3] at qr;cases qr));(clear qr);(refine Xu r 0 (b':=xb3) (sz:=2) (m:=(qS a p p.length).length) (cp:=(qS a p p.length).length) (all:=[.sl xb3 2 0 (qS a p p.length).length (qS a p p.length).length,.sl nb3 1 0 (qN b p p.length).length (qN b p p.length).length]) (cs:=cat oP (qS a p p.length) ++ zrP jx3 D.any) (by simp [upd]) rfl e1 (by simp [upd,v2,e1,zS e1]) (by omega) (by simp [Qt]) (by simp [Qt]) ?_);(refine Xu r 1 (b':=nb3) (sz:=1) (m:=(qN b p p.length).length) (cp:=(qN b p p.length).length) (all:=[.fr 2 (qS a p p.length).length (cat oP (qS a p p.length)),.sl nb3 1 0 (qN b p p.length).length (qN b p p.length).length]) (cs:=cat oL (qN b p p.length) ++ zrP jn3 D.any) (by simp [upd,e1,zS e1,zaop]) rfl e2 (by simp [upd,v3,e1,e2,zS e1,zS e2,v6,zS v6]) (by omega) (by simp [Qt]) (by simp [Qt]) ?_);(simp [go_sem,Xz]))
 | refine Qd (c:=.tmp 15) ?_;simp [-zg,-zd,↓Qb,↓Qa,go_sem];try first | (refine ⟨?_,?_⟩ <;> refine zA ?_) | (refine ⟨fun c15=>?_,fun c15=>?_⟩ <;> (try simp [B_iff,B_not] at c15))
 | refine Qd (c:=.tmp 20) ?_;simp [-zg,-zd,↓Qb,↓Qa,go_sem];try first | (refine ⟨?_,?_⟩ <;> refine zA ?_) | (refine ⟨fun c20=>?_,fun c20=>?_⟩ <;> (try simp [B_iff,B_not] at c20))
 | refine Qd (c:=.tmp 28) ?_;simp [-zg,-zd,↓Qb,↓Qa,go_sem];try first | (refine ⟨?_,?_⟩ <;> refine zA ?_) | (refine ⟨fun c28=>?_,fun c28=>?_⟩ <;> (try simp [B_iff,B_not] at c28))
 | refine Qd (c:=.tmp 38) ?_;simp [-zg,-zd,↓Qb,↓Qa,go_sem];try first | (refine ⟨?_,?_⟩ <;> refine zA ?_) | (refine ⟨fun c38=>?_,fun c38=>?_⟩ <;> (try simp [B_iff,B_not] at c38))
 | refine Qd (c:=.tmp 44) ?_;simp [-zg,-zd,↓Qb,↓Qa,go_sem];try first | (refine ⟨?_,?_⟩ <;> refine zA ?_) | (refine ⟨fun c44=>?_,fun c44=>?_⟩ <;> (try simp [B_iff,B_not] at c44))
 | (refine Qe (id:=0) (Qy (ι:=QGx) (fun q:QGx=>⟨(upd (upd (upd (upd (upd (upd (upd (upd (fun _=>.any) 1 (li cI p)) 2 (.pd [li cP a,li cL b])) 4 (.box [.nil,.nil])) 5 (.bool false)) 6 (.ptr g 0)) 17 (li cI p)) 18 (.int .i64 p.length)) 19 (.int .i64 q.k)),q.H⟩) (fun q=>q.k ≤ p.length ∧ QGm g (qS a p q.k) (qN b p q.k) q q.H) (fun q=>p.length - q.k) (⟨0,xb,cx,jx,nb,cn,jn,H1⟩) ?_ ?_ ?_);exact ⟨Nat.zero_le _,w1⟩;((repeat' (first | exact Qh (by assumption) | exact Qj | refine Qk ?_ ?_ | refine Qi ?_)) <;> simp [-zg,-zd,↓Qb,↓Qa,go_sem]);rintro q ⟨q1,q2⟩)
 | (refine ⟨⟨q.k + 1,q.xb,q.cx,q.jx,q.nb,q.cn,q.jn,q.H⟩,⟨by dsimp only;omega,by dsimp only;rw [qS_no hno,qN_no hno];exact q2.at _ _⟩,by first | omega | (simp;done) | (simp;omega),?_⟩;((repeat' (first | exact Qh (by assumption) | exact Qj | refine Qk ?_ ?_ | refine Qi ?_)) <;> simp [-zg,-zd,↓Qb,↓Qa,go_sem]))
 | (refine Qe (id:=2) (Qy (ι:=LB) (fun y:LB=>⟨(upd (upd (upd (upd (upd (upd (upd (upd (upd (upd (upd (upd (upd (fun _=>.any) 1 (li cI p)) 2 (.pd [li cP a,li cL b])) 4 (.box [.nil,.nil])) 5 (.bool false)) 6 (.ptr g 0)) 7 (.int .i64 q.k)) 17 (li cI p)) 18 (.int .i64 p.length)) 19 (.int .i64 q.k)) 9 (.sl y.lb 1 0 (ddN xs y.k).length y.cl)) 35 (li cI xs)) 36 (.int .i64 row.length)) 37 (.int .i64 y.k)),y.H⟩) (fun y=>y.k ≤ row.length ∧ LBq g (qS a p q.k) (qN b p q.k) q (ddN xs y.k) y) (fun y=>row.length - y.k) (⟨0,lb,cl,jl,H2⟩) ?_ ?_ ?_);exact ⟨Nat.zero_le _,w2⟩;((repeat' (first | exact Qh (by assumption) | exact Qj | refine Qk ?_ ?_ | refine Qi ?_)) <;> simp [-zg,-zd,↓Qb,↓Qa,go_sem,ddN,hxl]);rintro y ⟨k1,k2⟩)
 | (refine ⟨⟨y.k + 1,y.lb,y.cl,y.jl,y.H⟩,⟨by dsimp only;omega,by dsimp only;rw [ddN_in hin];exact ⟨⟨k2.m.h,k2.m.r1,k2.m.r2⟩,k2.qm,k2.n1,k2.n2,k2.n3⟩⟩,by first | omega | (simp;done) | (simp;omega),?_⟩;((repeat' (first | exact Qh (by assumption) | exact Qj | refine Qk ?_ ?_ | refine Qi ?_)) <;> simp [-zg,-zd,↓Qb,↓Qa,go_sem,ddN_in hin]))
 | (refine Qe ?_)
 | (refine Qr ?_;simp [-zg,-zd,↓Qb,↓Qa,go_sem])
 | (refine Qq ?_;simp [-zg,-zd,↓Qb,↓Qa,go_sem])
 | (refine Qp ?_;simp [-zg,-zd,↓Qb,↓Qa,go_sem,Try.results8])
 | (intro hx;refine zA ?_)
 | (refine ⟨?_,?_⟩ <;> refine zA ?_)
 | (intro hx;constructor <;> intro hs)
 | (constructor <;> intro hs)
 | (refine ⟨?_,fun hs=>?_⟩;refine zA ?_)
 | (refine ⟨fun hs=>?_,?_⟩;rotate_left;refine zA ?_;rotate_left)
 | (refine ⟨⟨y.k + 1,lb2,cl2,jl2,H3⟩,⟨by dsimp only;omega,w3⟩,by dsimp only;omega,?_⟩;((repeat' (first | exact Qh (by assumption) | exact Qj | refine Qk ?_ ?_ | refine Qi ?_)) <;> simp [-zg,-zd,go_sem,hyl]);done)
 | (refine ⟨⟨q.k + 1,xb2,cx2,jx2,nb2,cn2,jn2,H5⟩,⟨by dsimp only;omega,w5⟩,by dsimp only;omega,?_⟩;((repeat' (first | exact Qh (by assumption) | exact Qj | refine Qk ?_ ?_ | refine Qi ?_)) <;> simp [-zg,-zd,go_sem]);done)))
  all_goals (first
 | (simp [fr];done)
 | skip)
@[go_sem] def zahd:Con:=.pure fun
  | [.st [.list n_a c_a,.list n_b c_b],.list n_p c_p]=>((Is cP n_a c_a) ∧ (Is cL n_b c_b) ∧ (Is cI n_p c_p) ∧ (msum mP (de cP c_a) (de cP c_a).length ≤ 1048576),.tup [if Vm.B (GraphOk (de cP c_a) (de cL c_b) ∧ Xy (de cI c_p) ∧ (de cI c_p).length = (de cP c_a).length) = true then .st [fr 2 oP (qS (de cP c_a) (de cI c_p) (de cI c_p).length),fr 1 oL (qN (de cL c_b) (de cI c_p) (de cI c_p).length)] else .st [.nil,.nil],.bool (Vm.B (GraphOk (de cP c_a) (de cL c_b) ∧ Xy (de cI c_p) ∧ (de cI c_p).length = (de cP c_a).length))])
  | _=>(False,.any)
theorem zaol:ConOk Try.prog 8 zahd:=by
  refine ⟨Qn Try.func8 (by decide) rfl,fun args h=>?_⟩
  revert h
  dsimp only
  split
  · intro h
    obtain ⟨⟨a,rfl,rfl⟩,⟨b,rfl,rfl⟩,⟨p,rfl,rfl⟩,hm⟩:=h
    try simp only [Qo] at *
    exact ⟨implQg_pure a b p hm,by simp [go_sem]⟩
  · intro h
    exact h.elim
end
end Go.Proofs.Ytmiimodggpjkmaa.Vm

