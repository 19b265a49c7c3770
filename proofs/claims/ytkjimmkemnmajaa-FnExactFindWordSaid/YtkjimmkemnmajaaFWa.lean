/-
  spec.FindWord. No conditions.
-/
import Derived.Test.YtkjimmkemnmajaaFW9
namespace Go.Proofs.Ytkjimmkemnmajaa.Vm
open Go
open Nat renaming sub_pos_of_lt → zsP
open List renaming getD_eq_getElem?_getD → zg,drop_one → zd
set_option linter.unusedVariables false
set_option linter.unusedSimpArgs false
set_option maxRecDepth 200000

theorem fwS_at {n:Nat} {es:List Tr4} (hr:InRng n es) {acc:List Bool} {ss:List Int} (hS:Starts n ss) {k:Nat} (hk:k < (bfsE (nxE n es es.length) ss).2.length) (hn:NoneTill (fun i=>fwG (nxE n es es.length) acc (nth (bfsE (nxE n es es.length) ss).2 i)) k) (he:fwG (nxE n es es.length) acc (nth (bfsE (nxE n es es.length) ss).2 k) = true) :
    0 ≤ fwI (nxE n es es.length) acc ss ∧ fwS es (nxE n es es.length) acc ss = bk es (viaP es (bfsE (nxE n es es.length) ss).1) (viaP es (bfsE (nxE n es es.length) ss).1).length (nth (bfsE (nxE n es es.length) ss).2 k) ∧ fwL es (nxE n es es.length) acc ss = cyA es (nxE n es es.length) (nth (bfsE (nxE n es es.length) ss).2 k):=by
  have hnl:=Xr n es es.length (Nat.le_refl _)
  have hx:=Zk hr
  have hS':Starts (nxE n es es.length).length ss:=by rw [hnl];exact hS
  have hB:=Zi hx hS'
  obtain ⟨e1,e2⟩:=fwI_at hk hn he
  have hc:Cyc (nxE n es es.length) (nth (bfsE (nxE n es es.length) ss).2 k):=by
    simp only [fwG,Bool.and_eq_true,B_iff] at he;exact he.2
  have har:=(arL_cyc hx (hB.rng k hk)).2 hc
  refine ⟨by omega,?_,?_⟩
  · unfold fwS
    rw [e2,if_neg (by omega),(via_back hr hS hk).2.2]
    obtain ⟨j,j1,j2,j3⟩:=shW_to hx hS' hk
    rw [j3,j2]
  · unfold fwL cyA
    rw [e2,if_neg (by omega),if_neg har]
theorem cyA_cyc {n:Nat} {es:List Tr4} (hr:InRng n es) {q:Int} (hq:Nd (nxE n es es.length) q):cyA es (nxE n es es.length) q = [] ↔ ¬ Cyc (nxE n es es.length) q:=by
  rw [← arL_cyc (Zk hr) hq]
  unfold cyA
  constructor
  · intro h k
    rw [if_neg k] at h
    have:=congrArg List.length h
    rw [Zo,List.length_append,List.length_singleton,Nat.add_sub_cancel] at this
    exact k (List.length_eq_zero_iff.1 (by simpa using this))
  · intro h
    have h':arL (nxE n es es.length) q = []:=Classical.byContradiction h
    rw [if_pos h']
set_option maxHeartbeats 4000000 in

theorem zajc (a:List Int) (b:List Bool) (c:List Tr4) (hS:Zf c):Pure Try.prog 16 [.st [li cI a,li cB b,li cT c]] (.tup [if fwOk a b c = true then .st [fr 1 cI (fwS c (nxE b.length c c.length) b a),fr 1 cI (fwL c (nxE b.length c c.length) b a)] else .st [.nil,.nil],.bool (fwOk a b c)]):=by
  refine Pure.of_walk Try.func16 rfl (by simp [Try.f16]) (by simp [-zd,go_sem]) fun B hK=>?_
  cases hg:Vm.B (AutOk a b.length c)
  all_goals (repeat' (first
 | refine Qq ?_
 | refine Qc (id:=0) Zy [] (by kernel_rfl) ?_;simp [-zg,-zd,↓Qb,↓Qa,go_sem];try ((refine Xa hK 1 ?_);simp [go_sem])
 | refine Qc (id:=1) Zy [] (by kernel_rfl) ?_;simp [-zg,-zd,↓Qb,↓Qa,go_sem,hg,hS]
 | ((have hf:=fwOk_no1 hg));refine Qc (id:=2) Zy [] (by kernel_rfl) ?_;simp [-zg,-zd,↓Qb,↓Qa,go_sem,hf]
 | ((have hA:AutOk a b.length c:=(by rw [B_iff] at hg;exact hg));(obtain ⟨n1,n2,n3,n4⟩:=hA.sizes);(have hr:=hA.rng);(have hnl:=Xr b.length c c.length (Nat.le_refl _));(have hx:=Zk hr);(have hst:=hA.starts (Nat.le_refl b.length));(have hB:=Zi hx (by rw [hnl];exact hst));(have hrg:=hB.rng);(have hQl:=hB.le);(have hback:=fun m hm=>via_back hr hst (m:=m) hm);(have hat:=fun k hk hn he=>fwS_at hr (acc:=b) hst (k:=k) hk hn he);(have hno:=fun k hk hn=>fwI_none (nx:=nxE b.length c c.length) (acc:=b) (ss:=a) (k:=k) hk hn);(obtain ⟨Q,hQ⟩:∃ Q,(bfsE (nxE b.length c c.length) a).2 = Q:=⟨_,rfl⟩);(obtain ⟨V,hV⟩:∃ V,viaP c (bfsE (nxE b.length c c.length) a).1 = V:=⟨_,rfl⟩);(have hVl:V.length = b.length:=(by rw [← hV,Ja,hB.len,hnl]));(simp only [hQ,hV] at hrg hQl hback hat hno));refine Qc (id:=3) Zy [] (by kernel_rfl) ?_;simp [-zg,-zd,↓Qb,↓Qa,go_sem,hr,hst,n3,hQ,hV,(show b.length ≤ 1048576 by omega),(show c.length ≤ 1048576 by omega)];try ((refine Xa hK 4 ?_);(refine Xa hK 5 ?_);(simp [go_sem]))
 | refine Qc (id:=4) Zy [] (by kernel_rfl) ?_;simp [-zg,-zd,↓Qb,↓Qa,go_sem]
 | refine Qc (id:=5) Zy [] (by kernel_rfl) ?_;simp [-zg,-zd,↓Qb,↓Qa,go_sem]
 | ((obtain ⟨q,hq⟩:∃ q,nth Q k = q:=⟨_,rfl⟩);(have hqr:=hrg k c22);(rw [hq] at hqr);(obtain ⟨q0,q1⟩:=hqr);(have q2:q < (b.length:Int):=(by omega));(have q3:q.toNat < b.length:=(by omega));(have hql:=cyA_len hr (s:=q) ⟨q0,q1⟩);(have hqc:=cyA_cyc hr (q:=q) ⟨q0,q1⟩));refine Xp (id:=7) Zy mixed [] [] (by kernel_rfl) (by kernel_rfl) (by simp [-zg,-zd,↓Qb,↓Qa,go_sem,c22,Qk c22,zsP c22,hq,q0,q2,q3,Qk q3,zsP q3]) ?_;simp [-zg,-zd,↓Qb,↓Qa,go_sem,c22,Qk c22,zsP c22,hq,q0,q2,q3,Qk q3,zsP q3]
 | refine Xp (id:=8) Zy mixed [] [] (by kernel_rfl) (by kernel_rfl) (by simp [-zg,-zd,↓Qb,↓Qa,go_sem,c22,Qk c22,zsP c22,hq,hr,q0,q2,(show b.length ≤ 1048576 by omega),(show c.length ≤ 1048576 by omega)]) ?_;simp [-zg,-zd,↓Qb,↓Qa,go_sem,c22,Qk c22,zsP c22,hq,hr,q0,q2,(show b.length ≤ 1048576 by omega),(show c.length ≤ 1048576 by omega)];try (by_cases hc0:cyA c (nxE b.length c c.length) q = [])
 | ((have hc1:¬ cyA c (nxE b.length c c.length) q = []:=hc0);(have hcy:Cyc (nxE b.length c c.length) q:=Classical.byContradiction fun h=>hc1 (hqc.2 h));(obtain ⟨o,ho⟩:∃ o,cyA c (nxE b.length c c.length) q = o:=⟨_,rfl⟩);(rw [ho];rw [ho] at hc1 hql);(have hop:0 < o.length:=(by rcases Nat.eq_zero_or_pos o.length with z | z;(exact absurd (List.length_eq_zero_iff.1 z) hc1);exact z));(refine Xy 7 rfl fun ob oc oj qo hoc hoj=>?_);(clear qo));refine Qc (id:=9) Zy [] (by kernel_rfl) ?_;simp [-zg,-zd,↓Qb,↓Qa,go_sem,hop,(show (0:Int) < (o.length:Int) by omega)]
 | refine Qc (id:=9) Zy [] (by kernel_rfl) ?_;simp [-zg,-zd,↓Qb,↓Qa,go_sem,hc0]
 | ((obtain ⟨v1,v2,v3⟩:=hback k c22);(rw [hq] at v2 v3);(obtain ⟨e1,e2,e3⟩:=hat k c22 hgn (by rw [hq];exact fwG_yes (by first | assumption | (simp_all;done)) hcy));(rw [hq] at e2 e3);(rw [hVl] at v2 e2);(rw [ho] at e3);(have hf:=fwOk_yes hA e1);(refine Jl 7 (b:=ob) (all:=cat cI o ++ List.replicate oj D.any) rfl (by simp [upd]) (by omega) (by simp [Qu]) (by simp [Qu];omega) ?_);(rw [Nat.mul_one,Xi]);(rw [e2,e3]));refine Xp (id:=10) Zy mixed [] [] (by kernel_rfl) (by kernel_rfl) (by simp [-zg,-zd,↓Qb,↓Qa,go_sem,c22,Qk c22,zsP c22,hq,v2,hVl,hf,(show b.length ≤ 1048576 by omega),(show c.length ≤ 1048576 by omega)]) ?_;simp [-zg,-zd,↓Qb,↓Qa,go_sem,c22,Qk c22,zsP c22,hq,v2,hVl,hf,(show b.length ≤ 1048576 by omega),(show c.length ≤ 1048576 by omega)]
 | refine Qc (id:=6) Zy [] (by kernel_rfl) ?_;simp [-zg,-zd,↓Qb,↓Qa,go_sem,wrapS (k:=k) (by omega)]
 | ((have hf:=fwOk_no2 (hno k (by omega) hgn)));refine Qc (id:=11) Zy [] (by kernel_rfl) ?_;simp [-zg,-zd,↓Qb,↓Qa,go_sem,hf]
 | refine Qd (c:=.tmp 10) ?_;simp [-zg,-zd,↓Qb,↓Qa,go_sem];try first | (refine ⟨?_,?_⟩ <;> refine zA ?_) | (refine ⟨fun c10=>?_,fun c10=>?_⟩ <;> (try simp [B_iff,B_not] at c10))
 | refine Qd (c:=.tmp 22) ?_;simp [-zg,-zd,↓Qb,↓Qa,go_sem];try first | (refine ⟨?_,?_⟩ <;> refine zA ?_) | (refine ⟨fun c22=>?_,fun c22=>?_⟩ <;> (try simp [B_iff,B_not] at c22))
 | refine Qd (c:=.tmp 32) ?_;simp [-zg,-zd,↓Qb,↓Qa,go_sem];try first | (refine ⟨?_,?_⟩ <;> refine zA ?_) | (refine ⟨fun c32=>?_,fun c32=>?_⟩ <;> (try simp [B_iff,B_not] at c32))
 | refine Qd (c:=.tmp 41) ?_;simp [-zg,-zd,↓Qb,↓Qa,go_sem];try first | (refine ⟨?_,?_⟩ <;> refine zA ?_) | (refine ⟨fun c41=>?_,fun c41=>?_⟩ <;> (try simp [B_iff,B_not] at c41))
 | (refine Qf (id:=0) (Qv (ι:=Nat) (fun k:Nat=>⟨(upd (upd (upd (upd (upd (fun _=>.any) 1 (.pd [li cI a,li cB b,li cT c])) 2 (.box [.nil,.nil])) 4 (li cI V)) 5 (li cI Q)) 6 (.int .i64 k)),fun _=>none⟩) (fun k=>k ≤ Q.length ∧ NoneTill (fun i=>fwG (nxE b.length c c.length) b (nth Q i)) k) (fun k=>Q.length - k) (0) ?_ ?_ ?_);exact ⟨Nat.zero_le _,.zero _⟩;((repeat' (first | exact Qg (by assumption) | exact Qi | refine Qj ?_ ?_ | refine Qh ?_)) <;> simp [-zg,-zd,↓Qb,↓Qa,go_sem]);rintro k ⟨hk,hgn⟩)
 | (refine ⟨k + 1,⟨by omega,hgn.succ (by rw [hq];exact fwG_no (by first | (left;assumption) | (right;assumption) | (right;exact hqc.1 hc0) | (left;simp_all;done)))⟩,by first | omega | (simp;done) | (simp;omega),?_⟩;((repeat' (first | exact Qg (by assumption) | exact Qi | refine Qj ?_ ?_ | refine Qh ?_)) <;> simp [-zg,-zd,↓Qb,↓Qa,go_sem]))
 | (refine Qf ?_)
 | (refine Qo ?_;simp [-zg,-zd,↓Qb,↓Qa,go_sem])
 | (refine Qn ?_;simp [-zg,-zd,↓Qb,↓Qa,go_sem])
 | (refine Qr ?_;simp [-zg,-zd,↓Qb,↓Qa,go_sem,Try.results16])
 | (intro hx;refine zA ?_)
 | (refine ⟨?_,?_⟩ <;> refine zA ?_)
 | (intro hx;constructor <;> intro hs)
 | (constructor <;> intro hs)
 | (refine ⟨?_,fun hs=>?_⟩;refine zA ?_)
 | (refine ⟨fun hs=>?_,?_⟩;rotate_left;refine zA ?_;rotate_left)))
  all_goals (first
 | (simp [hf];done)
 | skip)
noncomputable def zadg:Con:=.pure fun
  | [.st [.list n_a c_a,.list n_b c_b,.list n_c c_c]]=>((Is cI n_a c_a) ∧ (Is cB n_b c_b) ∧ (Is cT n_c c_c) ∧ (Zf (de cT c_c)),.tup [if fwOk (de cI c_a) (de cB c_b) (de cT c_c) = true then .st [fr 1 cI (fwS (de cT c_c) (nxE (de cB c_b).length (de cT c_c) (de cT c_c).length) (de cB c_b) (de cI c_a)),fr 1 cI (fwL (de cT c_c) (nxE (de cB c_b).length (de cT c_c) (de cT c_c).length) (de cB c_b) (de cI c_a))] else .st [.nil,.nil],.bool (fwOk (de cI c_a) (de cB c_b) (de cT c_c))])
  | _=>(False,.any)
attribute [go_sem] zadg
theorem zaih:ConOk Try.prog 16 zadg:=by
  refine ⟨Qs Try.func16 (by decide) rfl,fun args h=>?_⟩
  revert h
  dsimp only
  split
  · intro h
    obtain ⟨⟨a,rfl,rfl⟩,⟨b,rfl,rfl⟩,⟨c,rfl,rfl⟩,hS⟩:=h
    try simp only [Qw] at *
    exact ⟨zajc a b c hS,by simp [go_sem]⟩
  · intro h
    exact h.elim
noncomputable def Γw16:FuncId → Con:=ext Γw15 16 zadg
attribute [go_sem] Γw16
theorem Γw16_ok:∀ g,ConOk Try.prog g (Γw16 g):=Qp Zy zaih

end Go.Proofs.Ytkjimmkemnmajaa.Vm

