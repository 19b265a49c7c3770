/-
  spec.QuotientGraph. No conditions.
-/
import Derived.Test.YtkjimmkemnmajaaQA
namespace Go.Proofs.Ytkjimmkemnmajaa.Vm
open Go
open Nat renaming sub_pos_of_lt → zsP
open List renaming getD_eq_getElem?_getD → zg,drop_one → zd
set_option linter.unusedVariables false
set_option linter.unusedSimpArgs false
set_option maxRecDepth 200000

section
variable {P:Program} {B:Base} {n:Nat} {S:St}
theorem zacf {sz:Nat} {μ:Nat → Nat} {I:Nat → Prop} {w:World} {v:Value} {f:List Nat} (h:Rep μ I w .nil v f):Rep μ I w (.fr sz 0 []) v f:=by
  simp only [Rep] at h ⊢
  exact ⟨Nat.zero_le _,by simp,.inl ⟨trivial,h.1,h.2⟩⟩
theorem AW_boxNilQ1 {c:Code} {Q:Exit → St → Prop} (t sz:Nat) {d:D} (hT:S.T t = .box [d,.nil]) (h:AW P B n c Q ⟨upd S.T t (.box [d,.fr sz 0 []]),S.H⟩):AW P B n c Q S :=
  AW_rebox t hT (fun μ I w vs f hr=>by
    simp only [RepL] at hr ⊢
    obtain ⟨v,vs',f1,f2,e1,e2,r1,v2,vs2,g1,g2,e3,e4,r2,r3⟩:=hr
    exact ⟨v,vs',f1,f2,e1,e2,r1,v2,vs2,g1,g2,e3,e4,zacf r2,r3⟩) (fun N hb=>by simp only [bndL,bnd] at hb ⊢;exact ⟨hb.1,trivial,trivial⟩) h
theorem AW_boxNilQ2 {c:Code} {Q:Exit → St → Prop} (t z1 z2:Nat) (hT:S.T t = .box [.nil,.nil]) (h:AW P B n c Q ⟨upd S.T t (.box [.fr z1 0 [],.fr z2 0 []]),S.H⟩):AW P B n c Q S :=
  AW_rebox t hT (fun μ I w vs f hr=>by
    simp only [RepL] at hr ⊢
    obtain ⟨v,vs',f1,f2,e1,e2,r1,v2,vs2,g1,g2,e3,e4,r2,r3⟩:=hr
    exact ⟨v,vs',f1,f2,e1,e2,zacf r1,v2,vs2,g1,g2,e3,e4,zacf r2,r3⟩) (fun N hb=>by simp only [bndL,bnd];exact ⟨trivial,trivial,trivial⟩) h
end
theorem qR_eq (b:List (List Int)) (p:List Int) (x:Int):qR b p x = ddN (pickL p (nth b x.toNat)) (nth b x.toNat).length:=rfl
theorem nth_qN {b:List (List Int)} {p:List Int} {i k:Nat} (h:k < (fsN p i).length):nth (qN b p i) k = qR b p (nth (fsN p i) k):=by
  rw [Qt (by rw [qN_len];exact h),Qt h];simp [qN]
theorem snoc_oLq (xs:List (List Int)) (y:List Int):cat oL xs ++ [D.fr 1 y.length (cat cI y)] = cat oL (xs ++ [y]):=by rw [Jo,Zx];rfl
structure LBg (w:Nat) (gs:List D) (xs:List Int) (x:LB):Prop where
  m:LBm xs x
  g:x.H w = some gs
  ne:¬ x.lb = w
set_option maxHeartbeats 8000000 in

theorem zahs (a:List Ints2) (b:List (List Int)) (p:List Int) (hm:msum mP a a.length ≤ 1048576):Pure Try.prog 28 [.st [li cP a,li cL b],li cI p] (.tup [if Vm.B (GraphOk a b ∧ Xd p ∧ p.length = a.length) = true then .st [fr 2 oP (qS a p p.length),fr 1 oL (qN b p p.length)] else .st [.nil,.nil],.bool (Vm.B (GraphOk a b ∧ Xd p ∧ p.length = a.length))]):=by
  refine Pure.of_walk Try.func28 rfl (by simp [Try.f28]) (by simp [-zd,go_sem]) fun B hK=>?_
  cases hg:Vm.B (GraphOk a b ∧ Xd p ∧ p.length = a.length)
  all_goals (repeat' (first
 | refine Qr ?_
 | refine Qc (id:=0) Xp [] (by kernel_rfl) ?_;simp [-zg,-zd,↓Qb,↓Qa,go_sem];try ((refine Xg hK 2 ?_);simp [go_sem])
 | refine Qc (id:=1) Xp [] (by kernel_rfl) ?_;simp [-zg,-zd,↓Qb,↓Qa,go_sem,hg]
 | refine Qc (id:=2) Xp [] (by kernel_rfl) ?_;simp [-zg,-zd,↓Qb,↓Qa,go_sem]
 | ((have hQ:QgOk a b p:=(by rw [B_iff] at hg;exact hg));(obtain ⟨⟨g1,g2,g3,g4,g5⟩,hP,e⟩:=id hQ);(have hfl:=fsN_le p p.length);(have hfp:=fsN_places (p:=p) e);(have hrow:=fun i hi=>hQ.row (i:=i) hi);(have hqn:=fun k h=>nth_qN (b:=b) (p:=p) (i:=p.length) (k:=k) h);(have hqs:(fsN p p.length).map (fun y=>nth a y.toNat) = qS a p p.length:=rfl);(have hql:=qN_len b p p.length);(have hsl:=qS_len a p p.length);(obtain ⟨Fs,hFs⟩:∃ F,fsN p p.length = F:=⟨_,rfl⟩);(rw [hFs] at hfl hfp hqs hql hsl);(simp only [hFs] at hqn);(obtain ⟨SS,hSS⟩:∃ F,qS a p p.length = F:=⟨_,rfl⟩);(obtain ⟨NN,hNN⟩:∃ F,qN b p p.length = F:=⟨_,rfl⟩);(rw [hSS] at hqs hsl ⊢);(rw [hNN] at hql ⊢);(simp only [hNN] at hqn));refine Qc (id:=3) Xp [] (by kernel_rfl) ?_;simp [-zg,-zd,↓Qb,↓Qa,go_sem,hFs,(show p.length ≤ 1048576 by omega)];try ((refine Xg hK 6 ?_);simp [go_sem])
 | refine Qc (id:=4) Xp [] (by kernel_rfl) ?_;simp [-zg,-zd,↓Qb,↓Qa,go_sem,hfp,hm,hqs,(show Fs.length ≤ 1048576 by omega)];try ((refine AW_boxNilQ1 7 1 rfl ?_);(refine zabu 7 rfl fun w qw=>?_);(clear qw);(refine Xo (fun H1=>H1 w = some [.fr 2 SS.length (cat oP SS),.fr 1 0 (cat oL (NN.take 0))]) (by simp [upd,fr,zagr,hsl]) fun H1 w1=>?_))
 | refine Qc (id:=5) Xp [] (by kernel_rfl) ?_;simp [-zg,-zd,↓Qb,↓Qa,go_sem]
 | refine Qc (id:=6) Xp [] (by kernel_rfl) ?_;simp [-zg,-zd,↓Qb,↓Qa,go_sem]
 | refine Qc (id:=8) Xp [] (by kernel_rfl) ?_;simp [-zg,-zd,↓Qb,↓Qa,go_sem];try ((refine Zi 9 rfl fun lb cl jl ql hcl hjl=>?_);(dsimp only at ql);(have nlw:¬ lb = w:=(by rintro rfl;rw [i2] at ql;cases ql));(clear ql);(obtain ⟨f,hf⟩:∃ f,nth Fs i.1 = f:=⟨_,rfl⟩);(have hfr:=hfp i.1 c26);(rw [hf] at hfr);(obtain ⟨f0,f1⟩:=hfr);(have ft:f.toNat < a.length:=(by omega));(have ftb:f.toNat < b.length:=(by omega));(obtain ⟨hpl,hrl⟩:=hrow f.toNat (by omega));(obtain ⟨row,hrw⟩:∃ r,nth b f.toNat = r:=⟨_,rfl⟩);(rw [hrw] at hpl hrl);(obtain ⟨xs,hxs⟩:∃ x,pickL p row = x:=⟨_,rfl⟩);(have hxl:xs.length = row.length:=(by rw [← hxs,zaex]));(have hxn:∀ m,m < row.length → nth p (nth row m).toNat = nth xs m:=(fun m h=>by rw [← hxs,nth_pickL h]));(have hni:=hqn i.1 c26);(rw [hf,qR_eq,hrw,hxs] at hni);(refine Xo (fun H2=>LBg w [.fr 2 SS.length (cat oP SS),.fr 1 i.1 (cat oL (NN.take i.1))] (ddN xs 0) ⟨0,lb,cl,jl,H2⟩) ⟨⟨by simp [upd,ddN,zagr],by simp [ddN],by simp [ddN];omega⟩,by simp [upd,nlw,Ne.symm nlw,i2],nlw⟩ fun H2 w2=>?_))
 | refine Qc (id:=9) Xp [] (by kernel_rfl) ?_;simp [-zg,-zd,↓Qb,↓Qa,go_sem]
 | refine Xw (id:=10) Xp mixed [] [] (by kernel_rfl) (by kernel_rfl) (by simp [-zg,-zd,↓Qb,↓Qa,go_sem,c26,Qh c26,zsP c26,hf,f0,f1,ft,ftb,Qh ftb,zsP ftb,hrw,(show f < (b.length:Int) by omega)]) ?_;simp [-zg,-zd,↓Qb,↓Qa,go_sem,c26,Qh c26,zsP c26,hf,f0,f1,ft,ftb,Qh ftb,zsP ftb,hrw,(show f < (b.length:Int) by omega)]
 | ((obtain ⟨p0,p1⟩:=hpl q.k c40);(obtain ⟨y,hy⟩:∃ y,nth row q.k = y:=⟨_,rfl⟩);(have hxq:=hxn q.k c40);(rw [hy] at p0 p1 hxq);(have yt:y.toNat < p.length:=(by omega)));refine Xw (id:=12) Xp mixed [] [] (by kernel_rfl) (by kernel_rfl) (by simp [-zg,-zd,↓Qb,↓Qa,go_sem,c26,Qh c26,zsP c26,hf,f0,f1,ft,ftb,Qh ftb,zsP ftb,hrw,(show f < (b.length:Int) by omega),c40,Qh c40,zsP c40,hy,p0,p1,yt,Qh yt,zsP yt,hxq]) ?_;simp [-zg,-zd,↓Qb,↓Qa,go_sem,c26,Qh c26,zsP c26,hf,f0,f1,ft,ftb,Qh ftb,zsP ftb,hrw,(show f < (b.length:Int) by omega),c40,Qh c40,zsP c40,hy,p0,p1,yt,Qh yt,zsP yt,hxq]
 | ((obtain ⟨⟨m1,m2,m3⟩,m4,m5⟩:=id k2);(have hdl:=ddN_le xs q.k);(obtain ⟨z,hz⟩:∃ z,nth xs q.k = z:=⟨_,rfl⟩);(rw [hz]));refine Qc (id:=13) Xp [] (by kernel_rfl) ?_;simp [-zg,-zd,↓Qb,↓Qa,go_sem,m1,hz,Xc]
 | ((have hnew:¬ nth xs q.k ∈ ddN xs q.k:=(by rw [hz];exact c60));(have hys:=ddN_new hnew);(rw [hz] at hys);(have hyl:=congrArg List.length hys);(rw [List.length_append,List.length_singleton] at hyl));refine Qc (id:=14) Xp [] (by kernel_rfl) ?_;simp [-zg,-zd,↓Qb,↓Qa,go_sem,m1,m3,m5,Ne.symm m5,snoc_cI,Xc,(show (ddN xs q.k).length ≤ 9223372036854775806 by omega),(show 2 * ((ddN xs q.k).length + 1) * 8 ≤ 281474976710656 by omega),(show (ddN xs q.k).length ≤ (ddN xs q.k).length + q.jl by omega)];try ((refine Zi 9 rfl fun lb2 cl2 jl2 q2 hc2 hj2=>?_);(dsimp only at q2);(have nl2:¬ lb2 = w:=(by rintro rfl;simp [upd,m4,m5,Ne.symm m5] at q2));(clear q2);(refine Xo (fun H3=>LBg w [.fr 2 SS.length (cat oP SS),.fr 1 i.1 (cat oL (NN.take i.1))] (ddN xs (q.k + 1)) ⟨q.k + 1,lb2,cl2,jl2,H3⟩) ⟨⟨by simp [upd,hys],by dsimp only;omega,by dsimp only;omega⟩,by simp [upd,nl2,Ne.symm nl2,m4,m5,Ne.symm m5],nl2⟩ fun H3 w3=>?_))
 | (try (have hin:nth xs q.k ∈ ddN xs q.k:=(by rw [hz];assumption)));refine Qc (id:=11) Xp [] (by kernel_rfl) ?_;simp [-zg,-zd,↓Qb,↓Qa,go_sem,wrapS (k:=q.k) (by omega)]
 | ((obtain ⟨kx,lx,cx,jx,Hx⟩:=q);(dsimp only at *);(obtain rfl:kx = row.length:=by omega);(obtain ⟨⟨m1,m2,m3⟩,m4,m5⟩:=id k2);(dsimp only at m1 m2 m3 m4 m5);(have hdl:=ddN_le xs row.length);(have hNt:=List.take_succ_eq_append_getElem (l:=NN) (i:=i.1) (by omega));(rw [← Qt (by omega),hni] at hNt);(refine Jr 9 (b:=lx) (all:=cat cI (ddN xs row.length) ++ List.replicate jx D.any) rfl m1 (by omega) (by simp [Qw]) (by simp [Qw];omega) ?_);(rw [Nat.mul_one,Xc]));refine Qc (id:=15) Xp [] (by kernel_rfl) ?_;simp [-zg,-zd,↓Qb,↓Qa,go_sem,m4,m5,Ne.symm m5,(show i.1 ≤ 9223372036854775806 by omega),(show 2 * (i.1 + 1) * 24 ≤ 281474976710656 by omega),(show i.1 + 1 ≤ 9223372036854775807 by omega)];try ((refine Xo (fun H9=>H9 w = some [.fr 2 SS.length (cat oP SS),.fr 1 (i.1 + 1) (cat oL (NN.take (i.1 + 1)))]) (by simp [upd,m4,m5,Ne.symm m5,hNt,← snoc_oLq]) fun H9 t9=>?_))
 | refine Qc (id:=7) Xp [] (by kernel_rfl) ?_;simp [-zg,-zd,↓Qb,↓Qa,go_sem,wrapS (k:=i.1) (by omega)]
 | ((obtain ⟨kx,Hx⟩:=i);(dsimp only at *);(obtain rfl:kx = Fs.length:=by omega);(rw [List.take_of_length_le (by omega),← hql] at i2));refine Qc (id:=16) Xp [] (by kernel_rfl) ?_;simp [-zg,-zd,↓Qb,↓Qa,go_sem,i2]
 | refine Qe (c:=.tmp 15) ?_;simp [-zg,-zd,↓Qb,↓Qa,go_sem];try first | (refine ⟨?_,?_⟩ <;> refine zA ?_) | (refine ⟨fun c15=>?_,fun c15=>?_⟩ <;> (try simp [B_iff,B_not] at c15))
 | refine Qe (c:=.tmp 26) ?_;simp [-zg,-zd,↓Qb,↓Qa,go_sem];try first | (refine ⟨?_,?_⟩ <;> refine zA ?_) | (refine ⟨fun c26=>?_,fun c26=>?_⟩ <;> (try simp [B_iff,B_not] at c26))
 | refine Qe (c:=.tmp 40) ?_;simp [-zg,-zd,↓Qb,↓Qa,go_sem];try first | (refine ⟨?_,?_⟩ <;> refine zA ?_) | (refine ⟨fun c40=>?_,fun c40=>?_⟩ <;> (try simp [B_iff,B_not] at c40))
 | refine Qe (c:=.tmp 60) ?_;simp [-zg,-zd,↓Qb,↓Qa,go_sem];try first | (refine ⟨?_,?_⟩ <;> refine zA ?_) | (refine ⟨fun c60=>?_,fun c60=>?_⟩ <;> (try simp [B_iff,B_not] at c60))
 | (refine Qf (id:=0) (Xa (ι:=Nat × Hp) (fun i:Nat × Hp=>⟨(upd (upd (upd (upd (upd (upd (upd (fun _=>.any) 1 (li cI p)) 2 (.pd [li cP a,li cL b])) 4 (.box [.nil,.nil])) 5 (.bool false)) 6 (li cI Fs)) 7 (.ptr w 0)) 8 (.int .i64 i.1)),i.2⟩) (fun i=>i.1 ≤ Fs.length ∧ i.2 w = some [.fr 2 SS.length (cat oP SS),.fr 1 i.1 (cat oL (NN.take i.1))]) (fun i=>Fs.length - i.1) ((0,H1)) ?_ ?_ ?_);exact ⟨Nat.zero_le _,w1⟩;((repeat' (first | exact Qi (by assumption) | exact Qk | refine Ql ?_ ?_ | refine Qj ?_)) <;> simp [-zg,-zd,↓Qb,↓Qa,go_sem]);rintro i ⟨i1,i2⟩)
 | (refine ⟨(i.1 + 1,H9),⟨by dsimp only;omega,t9⟩,by first | omega | (simp;done) | (simp;omega),?_⟩;((repeat' (first | exact Qi (by assumption) | exact Qk | refine Ql ?_ ?_ | refine Qj ?_)) <;> simp [-zg,-zd,↓Qb,↓Qa,go_sem]))
 | (refine Qf (id:=2) (Xa (ι:=LB) (fun q:LB=>⟨(upd (upd (upd (upd (upd (upd (upd (upd (upd (fun _=>.any) 1 (li cI p)) 2 (.pd [li cP a,li cL b])) 4 (.box [.nil,.nil])) 5 (.bool false)) 6 (li cI Fs)) 7 (.ptr w 0)) 8 (.int .i64 i.1)) 9 (.sl q.lb 1 0 (ddN xs q.k).length q.cl)) 10 (.int .i64 q.k)),q.H⟩) (fun q=>q.k ≤ row.length ∧ LBg w [.fr 2 SS.length (cat oP SS),.fr 1 i.1 (cat oL (NN.take i.1))] (ddN xs q.k) q) (fun q=>row.length - q.k) (⟨0,lb,cl,jl,H2⟩) ?_ ?_ ?_);exact ⟨Nat.zero_le _,w2⟩;((repeat' (first | exact Qi (by assumption) | exact Qk | refine Ql ?_ ?_ | refine Qj ?_)) <;> simp [-zg,-zd,↓Qb,↓Qa,go_sem,ddN]);rintro q ⟨k1,k2⟩)
 | (refine ⟨⟨q.k + 1,q.lb,q.cl,q.jl,q.H⟩,⟨by dsimp only;omega,by dsimp only;rw [ddN_in hin];exact ⟨⟨k2.m.h,k2.m.r1,k2.m.r2⟩,k2.g,k2.ne⟩⟩,by first | omega | (simp;done) | (simp;omega),?_⟩;((repeat' (first | exact Qi (by assumption) | exact Qk | refine Ql ?_ ?_ | refine Qj ?_)) <;> simp [-zg,-zd,↓Qb,↓Qa,go_sem,ddN_in hin]))
 | (refine Qf ?_)
 | (refine Qp ?_;simp [-zg,-zd,↓Qb,↓Qa,go_sem])
 | (refine Qo ?_;simp [-zg,-zd,↓Qb,↓Qa,go_sem])
 | (refine Qs ?_;simp [-zg,-zd,↓Qb,↓Qa,go_sem,Try.results28])
 | (intro hx;refine zA ?_)
 | (refine ⟨?_,?_⟩ <;> refine zA ?_)
 | (intro hx;constructor <;> intro hs)
 | (constructor <;> intro hs)
 | (refine ⟨?_,fun hs=>?_⟩;refine zA ?_)
 | (refine ⟨fun hs=>?_,?_⟩;rotate_left;refine zA ?_;rotate_left)
 | (refine ⟨⟨q.k + 1,lb2,cl2,jl2,H3⟩,⟨by dsimp only;omega,w3⟩,by dsimp only;omega,?_⟩;((repeat' (first | exact Qi (by assumption) | exact Qk | refine Ql ?_ ?_ | refine Qj ?_)) <;> simp [-zg,-zd,go_sem,hyl]);done)))
  all_goals (first
 | (simp [fr];done)
 | skip)
noncomputable def zacz:Con:=.pure fun
  | [.st [.list n_a c_a,.list n_b c_b],.list n_p c_p]=>((Is cP n_a c_a) ∧ (Is cL n_b c_b) ∧ (Is cI n_p c_p) ∧ (msum mP (de cP c_a) (de cP c_a).length ≤ 1048576),.tup [if Vm.B (GraphOk (de cP c_a) (de cL c_b) ∧ Xd (de cI c_p) ∧ (de cI c_p).length = (de cP c_a).length) = true then .st [fr 2 oP (qS (de cP c_a) (de cI c_p) (de cI c_p).length),fr 1 oL (qN (de cL c_b) (de cI c_p) (de cI c_p).length)] else .st [.nil,.nil],.bool (Vm.B (GraphOk (de cP c_a) (de cL c_b) ∧ Xd (de cI c_p) ∧ (de cI c_p).length = (de cP c_a).length))])
  | _=>(False,.any)
attribute [go_sem] zacz
theorem zaha:ConOk Try.prog 28 zacz:=by
  refine ⟨Qm Try.func28 (by decide) rfl,fun args h=>?_⟩
  revert h
  dsimp only
  split
  · intro h
    obtain ⟨⟨a,rfl,rfl⟩,⟨b,rfl,rfl⟩,⟨p,rfl,rfl⟩,hm⟩:=h
    try simp only [Qu] at *
    exact ⟨zahs a b p hm,by simp [go_sem]⟩
  · intro h
    exact h.elim
noncomputable def Γqa6:FuncId → Con:=ext Γqa5 28 zacz
attribute [go_sem] Γqa6
theorem Γqa6_ok:∀ g,ConOk Try.prog g (Γqa6 g):=Qq Xp zaha

end Go.Proofs.Ytkjimmkemnmajaa.Vm

