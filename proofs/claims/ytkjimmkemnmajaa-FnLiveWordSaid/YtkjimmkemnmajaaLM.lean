import Derived.Test.YtkjimmkemnmajaaFW9
/-
  spec.FindWord. No conditions.
-/
namespace Go.Proofs.Ytkjimmkemnmajaa.Vm
open Go
open Nat renaming sub_pos_of_lt → zsP
open List renaming getD_eq_getElem?_getD → zg,drop_one → zd
noncomputable section
set_option linter.unusedVariables false
set_option linter.unusedSimpArgs false
set_option maxRecDepth 200000

theorem fwS_at {n:Nat} {es:List Tr4} (hr:InRng n es) {acc:List Bool} {ss:List Int} (hS:Starts n ss) {k:Nat} (hk:k < (bfsE (nxE n es es.length) ss).2.length) (hn:NoneTill (fun i=>fwG (nxE n es es.length) acc (nth (bfsE (nxE n es es.length) ss).2 i)) k) (he:fwG (nxE n es es.length) acc (nth (bfsE (nxE n es es.length) ss).2 k) = true) :
    0 ≤ fwI (nxE n es es.length) acc ss ∧ fwS es (nxE n es es.length) acc ss = bk es (viaP es (bfsE (nxE n es es.length) ss).1) (viaP es (bfsE (nxE n es es.length) ss).1).length (nth (bfsE (nxE n es es.length) ss).2 k) ∧ fwL es (nxE n es es.length) acc ss = cyA es (nxE n es es.length) (nth (bfsE (nxE n es es.length) ss).2 k):=by
  have hnl:=Xp n es es.length (Nat.le_refl _)
  have hx:=Zh hr
  have hS':Starts (nxE n es es.length).length ss:=by rw [hnl];exact hS
  have hB:=Zq hx hS'
  obtain ⟨e1,e2⟩:=fwI_at hk hn he
  have hc:Cyc (nxE n es es.length) (nth (bfsE (nxE n es es.length) ss).2 k):=by
    simp only [fwG,Bool.and_eq_true,B_iff] at he;exact he.2
  have har:=(arL_cyc hx (hB.rng k hk)).2 hc
  refine ⟨by omega,?_,?_⟩
  · unfold fwS
    rw [e2,if_neg (by omega),(via_back hr hS hk).2.2]
    obtain ⟨j,j1,j2,j3⟩:=shW_to hx hS' hk
    rw [j3,j2]
  · unfold fwL cyA
    rw [e2,if_neg (by omega),if_neg har]
theorem cyA_cyc {n:Nat} {es:List Tr4} (hr:InRng n es) {q:Int} (hq:Nd (nxE n es es.length) q):cyA es (nxE n es es.length) q = [] ↔ ¬ Cyc (nxE n es es.length) q:=by
  rw [← arL_cyc (Zh hr) hq]
  unfold cyA
  constructor
  · intro h k
    rw [if_neg k] at h
    have:=congrArg List.length h
    rw [Jm,List.length_append,List.length_singleton,Nat.add_sub_cancel] at this
    exact k (List.length_eq_zero_iff.1 (by simpa using this))
  · intro h
    have h':arL (nxE n es es.length) q = []:=Classical.byContradiction h
    rw [if_pos h']
set_option maxHeartbeats 4000000 in

theorem zape (a:List Int) (b:List Bool) (c:List Tr4) (hS:Xy c):Pure Try.prog 16 [.st [li cI a,li cB b,li cT c]] (.tup [if fwOk a b c = true then .st [fr 1 cI (fwS c (nxE b.length c c.length) b a),fr 1 cI (fwL c (nxE b.length c c.length) b a)] else .st [.nil,.nil],.bool (fwOk a b c)]):=by
  refine Pure.of_walk Try.func16 rfl (by simp [Try.f16]) (by simp [-zd,go_sem]) fun B hK=>?_
  cases hg:Vm.B (AutOk a b.length c)
  all_goals (repeat' (first
 | refine Qt ?_
 | refine Qc (id:=0) Jw [] (by kernel_rfl) ?_;simp [-zg,-zd,↓Qb,↓Qa,go_sem];try ((refine Xa hK 1 ?_);simp [go_sem])
 | refine Qc (id:=1) Jw [] (by kernel_rfl) ?_;simp [-zg,-zd,↓Qb,↓Qa,go_sem,hg,hS]
 | ((have hf:=fwOk_no1 hg));refine Qc (id:=2) Jw [] (by kernel_rfl) ?_;simp [-zg,-zd,↓Qb,↓Qa,go_sem,hf]
 | ((have hA:AutOk a b.length c:=(by rw [B_iff] at hg;exact hg));(obtain ⟨n1,n2,n3,n4⟩:=hA.sizes);(have hr:=hA.rng);(have hnl:=Xp b.length c c.length (Nat.le_refl _));(have hx:=Zh hr);(have hst:=hA.starts (Nat.le_refl b.length));(have hB:=Zq hx (by rw [hnl];exact hst));(have hrg:=hB.rng);(have hQl:=hB.le);(have hback:=fun m hm=>via_back hr hst (m:=m) hm);(have hat:=fun k hk hn he=>fwS_at hr (acc:=b) hst (k:=k) hk hn he);(have hno:=fun k hk hn=>fwI_none (nx:=nxE b.length c c.length) (acc:=b) (ss:=a) (k:=k) hk hn);(obtain ⟨Q,hQ⟩:∃ Q,(bfsE (nxE b.length c c.length) a).2 = Q:=⟨_,rfl⟩);(obtain ⟨V,hV⟩:∃ V,viaP c (bfsE (nxE b.length c c.length) a).1 = V:=⟨_,rfl⟩);(have hVl:V.length = b.length:=(by rw [← hV,Jy,hB.len,hnl]));(simp only [hQ,hV] at hrg hQl hback hat hno));refine Qc (id:=3) Jw [] (by kernel_rfl) ?_;simp [-zg,-zd,↓Qb,↓Qa,go_sem,hr,hst,n3,hQ,hV,(show b.length ≤ 1048576 by omega),(show c.length ≤ 1048576 by omega)];try ((refine Xa hK 4 ?_);(refine Xa hK 5 ?_);(simp [go_sem]))
 | refine Qc (id:=4) Jw [] (by kernel_rfl) ?_;simp [-zg,-zd,↓Qb,↓Qa,go_sem]
 | refine Qc (id:=5) Jw [] (by kernel_rfl) ?_;simp [-zg,-zd,↓Qb,↓Qa,go_sem]
 | ((obtain ⟨q,hq⟩:∃ q,nth Q k = q:=⟨_,rfl⟩);(have hqr:=hrg k c22);(rw [hq] at hqr);(obtain ⟨q0,q1⟩:=hqr);(have q2:q < (b.length:Int):=(by omega));(have q3:q.toNat < b.length:=(by omega));(have hql:=cyA_len hr (s:=q) ⟨q0,q1⟩);(have hqc:=cyA_cyc hr (q:=q) ⟨q0,q1⟩));refine Xu (id:=7) Jw mixed [] [] (by kernel_rfl) (by kernel_rfl) (by simp [-zg,-zd,↓Qb,↓Qa,go_sem,c22,Qj c22,zsP c22,hq,q0,q2,q3,Qj q3,zsP q3]) ?_;simp [-zg,-zd,↓Qb,↓Qa,go_sem,c22,Qj c22,zsP c22,hq,q0,q2,q3,Qj q3,zsP q3]
 | refine Xu (id:=8) Jw mixed [] [] (by kernel_rfl) (by kernel_rfl) (by simp [-zg,-zd,↓Qb,↓Qa,go_sem,c22,Qj c22,zsP c22,hq,hr,q0,q2,(show b.length ≤ 1048576 by omega),(show c.length ≤ 1048576 by omega)]) ?_;simp [-zg,-zd,↓Qb,↓Qa,go_sem,c22,Qj c22,zsP c22,hq,hr,q0,q2,(show b.length ≤ 1048576 by omega),(show c.length ≤ 1048576 by omega)];try (by_cases hc0:cyA c (nxE b.length c c.length) q = [])
 | ((have hc1:¬ cyA c (nxE b.length c c.length) q = []:=hc0);(have hcy:Cyc (nxE b.length c c.length) q:=Classical.byContradiction fun h=>hc1 (hqc.2 h));(obtain ⟨o,ho⟩:∃ o,cyA c (nxE b.length c c.length) q = o:=⟨_,rfl⟩);(rw [ho];rw [ho] at hc1 hql);(have hop:0 < o.length:=(by rcases Nat.eq_zero_or_pos o.length with z | z;(exact absurd (List.length_eq_zero_iff.1 z) hc1);exact z));(refine Xk 7 rfl fun ob oc oj qo hoc hoj=>?_);(clear qo));refine Qc (id:=9) Jw [] (by kernel_rfl) ?_;simp [-zg,-zd,↓Qb,↓Qa,go_sem,hop,(show (0:Int) < (o.length:Int) by omega)]
 | refine Qc (id:=9) Jw [] (by kernel_rfl) ?_;simp [-zg,-zd,↓Qb,↓Qa,go_sem,hc0]
 | ((obtain ⟨v1,v2,v3⟩:=hback k c22);(rw [hq] at v2 v3);(obtain ⟨e1,e2,e3⟩:=hat k c22 hgn (by rw [hq];exact fwG_yes (by first | assumption | (simp_all;done)) hcy));(rw [hq] at e2 e3);(rw [hVl] at v2 e2);(rw [ho] at e3);(have hf:=fwOk_yes hA e1);(refine Je 7 (b:=ob) (all:=cat cI o ++ List.replicate oj D.any) rfl (by simp [upd]) (by omega) (by simp [Qz]) (by simp [Qz];omega) ?_);(rw [Nat.mul_one,Xt]);(rw [e2,e3]));refine Xu (id:=10) Jw mixed [] [] (by kernel_rfl) (by kernel_rfl) (by simp [-zg,-zd,↓Qb,↓Qa,go_sem,c22,Qj c22,zsP c22,hq,v2,hVl,hf,(show b.length ≤ 1048576 by omega),(show c.length ≤ 1048576 by omega)]) ?_;simp [-zg,-zd,↓Qb,↓Qa,go_sem,c22,Qj c22,zsP c22,hq,v2,hVl,hf,(show b.length ≤ 1048576 by omega),(show c.length ≤ 1048576 by omega)]
 | refine Qc (id:=6) Jw [] (by kernel_rfl) ?_;simp [-zg,-zd,↓Qb,↓Qa,go_sem,wrapS (k:=k) (by omega)]
 | ((have hf:=fwOk_no2 (hno k (by omega) hgn)));refine Qc (id:=11) Jw [] (by kernel_rfl) ?_;simp [-zg,-zd,↓Qb,↓Qa,go_sem,hf]
 | refine Qd (c:=.tmp 10) ?_;simp [-zg,-zd,↓Qb,↓Qa,go_sem];try first | (refine ⟨?_,?_⟩ <;> refine zA ?_) | (refine ⟨fun c10=>?_,fun c10=>?_⟩ <;> (try simp [B_iff,B_not] at c10))
 | refine Qd (c:=.tmp 22) ?_;simp [-zg,-zd,↓Qb,↓Qa,go_sem];try first | (refine ⟨?_,?_⟩ <;> refine zA ?_) | (refine ⟨fun c22=>?_,fun c22=>?_⟩ <;> (try simp [B_iff,B_not] at c22))
 | refine Qd (c:=.tmp 32) ?_;simp [-zg,-zd,↓Qb,↓Qa,go_sem];try first | (refine ⟨?_,?_⟩ <;> refine zA ?_) | (refine ⟨fun c32=>?_,fun c32=>?_⟩ <;> (try simp [B_iff,B_not] at c32))
 | refine Qd (c:=.tmp 41) ?_;simp [-zg,-zd,↓Qb,↓Qa,go_sem];try first | (refine ⟨?_,?_⟩ <;> refine zA ?_) | (refine ⟨fun c41=>?_,fun c41=>?_⟩ <;> (try simp [B_iff,B_not] at c41))
 | (refine Qe (id:=0) (Qy (ι:=Nat) (fun k:Nat=>⟨(upd (upd (upd (upd (upd (fun _=>.any) 1 (.pd [li cI a,li cB b,li cT c])) 2 (.box [.nil,.nil])) 4 (li cI V)) 5 (li cI Q)) 6 (.int .i64 k)),fun _=>none⟩) (fun k=>k ≤ Q.length ∧ NoneTill (fun i=>fwG (nxE b.length c c.length) b (nth Q i)) k) (fun k=>Q.length - k) (0) ?_ ?_ ?_);exact ⟨Nat.zero_le _,.zero _⟩;((repeat' (first | exact Qg (by assumption) | exact Qi | refine Qf ?_ ?_ | refine Qh ?_)) <;> simp [-zg,-zd,↓Qb,↓Qa,go_sem]);rintro k ⟨hk,hgn⟩)
 | (refine ⟨k + 1,⟨by omega,hgn.succ (by rw [hq];exact fwG_no (by first | (left;assumption) | (right;assumption) | (right;exact hqc.1 hc0) | (left;simp_all;done)))⟩,by first | omega | (simp;done) | (simp;omega),?_⟩;((repeat' (first | exact Qg (by assumption) | exact Qi | refine Qf ?_ ?_ | refine Qh ?_)) <;> simp [-zg,-zd,↓Qb,↓Qa,go_sem]))
 | (refine Qe ?_)
 | (refine Qs ?_;simp [-zg,-zd,↓Qb,↓Qa,go_sem])
 | (refine Qr ?_;simp [-zg,-zd,↓Qb,↓Qa,go_sem])
 | (refine Qu ?_;simp [-zg,-zd,↓Qb,↓Qa,go_sem,Try.results16])
 | (intro hx;refine zA ?_)
 | (refine ⟨?_,?_⟩ <;> refine zA ?_)
 | (intro hx;constructor <;> intro hs)
 | (constructor <;> intro hs)
 | (refine ⟨?_,fun hs=>?_⟩;refine zA ?_)
 | (refine ⟨fun hs=>?_,?_⟩;rotate_left;refine zA ?_;rotate_left)))
  all_goals (first
 | (simp [hf];done)
 | skip)
@[go_sem] def zagc:Con:=.pure fun
  | [.st [.list n_a c_a,.list n_b c_b,.list n_c c_c]]=>((Is cI n_a c_a) ∧ (Is cB n_b c_b) ∧ (Is cT n_c c_c) ∧ (Xy (de cT c_c)),.tup [if fwOk (de cI c_a) (de cB c_b) (de cT c_c) = true then .st [fr 1 cI (fwS (de cT c_c) (nxE (de cB c_b).length (de cT c_c) (de cT c_c).length) (de cB c_b) (de cI c_a)),fr 1 cI (fwL (de cT c_c) (nxE (de cB c_b).length (de cT c_c) (de cT c_c).length) (de cB c_b) (de cI c_a))] else .st [.nil,.nil],.bool (fwOk (de cI c_a) (de cB c_b) (de cT c_c))])
  | _=>(False,.any)
theorem zaod:ConOk Try.prog 16 zagc:=by
  refine ⟨Qp Try.func16 (by decide) rfl,fun args h=>?_⟩
  revert h
  dsimp only
  split
  · intro h
    obtain ⟨⟨a,rfl,rfl⟩,⟨b,rfl,rfl⟩,⟨c,rfl,rfl⟩,hS⟩:=h
    try simp only [Qm] at *
    exact ⟨zape a b c hS,by simp [go_sem]⟩
  · intro h
    exact h.elim
@[go_sem] def Γw16:FuncId → Con:=ext Γw15 16 zagc
theorem Γw16_ok:∀ g,ConOk Try.prog g (Γw16 g):=Qo Jw zaod


@[go_sem] def Γw17:FuncId → Con:=Γw16
theorem zakz:∀ g,ConOk Try.prog g (Γw17 g):=Γw16_ok

set_option maxHeartbeats 1000000 in
theorem markLs_spec (a b:List Int) (k:Int) (b1 b2 c1 c2:Nat) (j1 j2:List D) (H:Hp) (h1:H b1 = some (cat cI a ++ j1)) (h2:H b2 = some (cat cI b ++ j2)) (hne:¬ b1 = b2) (h0:0 ≤ k) (hk:k + a.length + b.length ≤ 1099511627776) :
    Spec Try.prog 22 [.st [.sl b1 1 0 a.length c1,.sl b2 1 0 b.length c2],.int .i64 k] H (.int .i64 (k + a.length + b.length)) (upd (upd H b1 (some (cat cI (marks k a.length) ++ j1))) b2 (some (cat cI (marks (k + a.length) b.length) ++ j2))):=by
  refine Spec.of_walk Try.func22 rfl (by simp [Try.f22]) fun B=>?_
  (repeat' (first
 | refine Qt ?_
 | refine Qc (id:=0) zakz [] (by kernel_rfl) ?_;simp [-zg,-zd,↓Qb,↓Qa,go_sem];try (refine Zi 2 rfl fun b0 hb0=>?_;have n1:¬ b1 = b0:=(by rintro rfl;dsimp only at hb0;rw [h1] at hb0;cases hb0);have n2:¬ b2 = b0:=(by rintro rfl;dsimp only at hb0;rw [h2] at hb0;cases hb0))
 | refine Qc (id:=1) zakz [] (by kernel_rfl) ?_;simp [-zg,-zd,↓Qb,↓Qa,go_sem,n1,h1,h0,(show k + a.length ≤ 1099511627776 by omega)]
 | refine Qc (id:=2) zakz [] (by kernel_rfl) ?_;simp [-zg,-zd,↓Qb,↓Qa,go_sem,n1,n2,Ne.symm n1,Ne.symm n2,hne,Ne.symm hne,h2,(show 0 ≤ k + (a.length:Int) by omega),hk]
 | refine Qc (id:=3) zakz [] (by kernel_rfl) ?_;simp [-zg,-zd,↓Qb,↓Qa,go_sem]
 | (refine Qe ?_)
 | (refine Qs ?_;simp [-zg,-zd,↓Qb,↓Qa,go_sem])
 | (refine Qr ?_;simp [-zg,-zd,↓Qb,↓Qa,go_sem])
 | (refine Qu ?_;simp [-zg,-zd,↓Qb,↓Qa,go_sem,Try.results22])
 | (intro hx;refine zA ?_)
 | (refine ⟨?_,?_⟩ <;> refine zA ?_)
 | (intro hx;constructor <;> intro hs)
 | (constructor <;> intro hs)
 | (refine ⟨?_,fun hs=>?_⟩;refine zA ?_)
 | (refine ⟨fun hs=>?_,?_⟩;rotate_left;refine zA ?_;rotate_left)))
  all_goals (first
 | (intro b' cs' h;dsimp only at hb0;by_cases e2:b' = b2 <;> by_cases e1:b' = b1 <;> by_cases e0:b' = b0 <;> simp_all)
 | skip)
@[go_sem] def markLsC:Con:=.gen fun args H=>match args with
  | [.st [.sl b1 1 0 n _,.sl b2 1 0 m _],.int .i64 k]=>match H b1,H b2 with
    | some a1,some a2=>(¬ b1 = b2 ∧ n ≤ a1.length ∧ m ≤ a2.length ∧ Is cI n (a1.take n) ∧ Is cI m (a2.take m) ∧ 0 ≤ k ∧ k + n + m ≤ 1099511627776,.int .i64 (k + n + m),upd (upd H b1 (some (cat cI (marks k n) ++ a1.drop n))) b2 (some (cat cI (marks (k + n) m) ++ a2.drop m)))
    | _,_=>(False,.any,H)
  | _=>(False,.any,H)
theorem markLsC_ok:ConOk Try.prog 22 markLsC:=by
  refine ⟨Qp Try.func22 (by decide) rfl,fun args H h=>?_⟩
  revert h
  dsimp only
  split
  · rename_i b1 n c1 b2 m c2 k
    split
    · rename_i a1 a2 hH1 hH2
      rintro ⟨g0,g1,g2,⟨xs,hn,he⟩,⟨ys,hm,hf⟩,g5,g6⟩
      subst hn hm
      have e1:a1 = cat cI xs ++ a1.drop xs.length:=by rw [← he,List.take_append_drop]
      have e2:a2 = cat cI ys ++ a2.drop ys.length:=by rw [← hf,List.take_append_drop]
      rw [e1] at hH1
      rw [e2] at hH2
      exact markLs_spec xs ys k b1 b2 c1 c2 _ _ H hH1 hH2 g0 g5 g6
    · intro h;exact h.elim
  · intro h
    exact h.elim

@[go_sem] def Γw18:FuncId → Con:=ext Γw17 22 markLsC
theorem Wa:∀ g,ConOk Try.prog g (Γw18 g):=Qo zakz markLsC_ok

theorem heldLs_pure (a:List Int) (b:List Int) (k:Int) (h0:0 ≤ k) (h1:k + a.length + b.length ≤ 1099511627776):Pure Try.prog 23 [.st [li cI a,li cI b],.int .i64 k] (.int .i64 (heldL k a b)):=by
  refine Pure.of_walk Try.func23 rfl (by simp [Try.f23]) (by simp [-zd,go_sem]) fun B hK=>?_
  (repeat' (first
 | refine Qt ?_
 | refine Qc (id:=0) Wa [] (by kernel_rfl) ?_;simp [-zg,-zd,↓Qb,↓Qa,go_sem];try (refine Xa hK 2 ?_;simp [go_sem])
 | refine Qc (id:=1) Wa [] (by kernel_rfl) ?_;simp [-zg,-zd,↓Qb,↓Qa,go_sem,h0,(show k + a.length ≤ 1099511627776 by omega)]
 | refine Qc (id:=2) Wa [] (by kernel_rfl) ?_;simp [-zg,-zd,↓Qb,↓Qa,go_sem]
 | refine Qc (id:=3) Wa [] (by kernel_rfl) ?_;simp [-zg,-zd,↓Qb,↓Qa,go_sem]
 | (have q:=heldI_le k a h0);refine Qc (id:=4) Wa [] (by kernel_rfl) ?_;simp [-zg,-zd,↓Qb,↓Qa,go_sem,c10,(show heldI k a + b.length ≤ 1099511627776 by omega)]
 | refine Qc (id:=5) Wa [] (by kernel_rfl) ?_;simp [-zg,-zd,↓Qb,↓Qa,go_sem]
 | refine Qc (id:=6) Wa [] (by kernel_rfl) ?_;simp [-zg,-zd,↓Qb,↓Qa,go_sem]
 | refine Qc (id:=7) Wa [] (by kernel_rfl) ?_;simp [-zg,-zd,↓Qb,↓Qa,go_sem]
 | refine Qd (c:=.tmp 10) ?_;simp [-zg,-zd,↓Qb,↓Qa,go_sem];try first | (refine ⟨?_,?_⟩ <;> refine zA ?_) | (refine ⟨fun c10=>?_,fun c10=>?_⟩ <;> (try simp [B_iff,B_not] at c10))
 | refine Qd (c:=.tmp 16) ?_;simp [-zg,-zd,↓Qb,↓Qa,go_sem];try first | (refine ⟨?_,?_⟩ <;> refine zA ?_) | (refine ⟨fun c16=>?_,fun c16=>?_⟩ <;> (try simp [B_iff,B_not] at c16))
 | (refine Qe ?_)
 | (refine Qs ?_;simp [-zg,-zd,↓Qb,↓Qa,go_sem])
 | (refine Qr ?_;simp [-zg,-zd,↓Qb,↓Qa,go_sem])
 | (refine Qu ?_;simp [-zg,-zd,↓Qb,↓Qa,go_sem,Try.results23])
 | (intro hx;refine zA ?_)
 | (refine ⟨?_,?_⟩ <;> refine zA ?_)
 | (intro hx;constructor <;> intro hs)
 | (constructor <;> intro hs)
 | (refine ⟨?_,fun hs=>?_⟩;refine zA ?_)
 | (refine ⟨fun hs=>?_,?_⟩;rotate_left;refine zA ?_;rotate_left)))
  all_goals (first
 | (rw [heldL,if_pos c10])
 | (rw [heldL,if_neg (by omega),if_pos (by assumption)])
 | (rw [heldL,if_neg (by omega),if_neg (by omega)])
 | skip)
@[go_sem] def zags:Con:=.pure fun
  | [.st [.list n_a c_a,.list n_b c_b],.int .i64 k]=>((Is cI n_a c_a) ∧ (Is cI n_b c_b) ∧ (0 ≤ k) ∧ (k + (de cI c_a).length + (de cI c_b).length ≤ 1099511627776),.int .i64 (heldL k (de cI c_a) (de cI c_b)))
  | _=>(False,.any)
theorem zaos:ConOk Try.prog 23 zags:=by
  refine ⟨Qp Try.func23 (by decide) rfl,fun args h=>?_⟩
  revert h
  dsimp only
  split
  · intro h
    obtain ⟨⟨a,rfl,rfl⟩,⟨b,rfl,rfl⟩,h0,h1⟩:=h
    try simp only [Qm] at *
    exact ⟨heldLs_pure a b _ h0 h1,by simp [go_sem]⟩
  · intro h
    exact h.elim
@[go_sem] def Γw19:FuncId → Con:=ext Γw18 23 zags
theorem Γw19_ok:∀ g,ConOk Try.prog g (Γw19 g):=Qo Wa zaos

theorem las_nilfr {f:FuncId} {args:List D} {bo:Bool} (h:Pure Try.prog f args (.tup [.st [.nil,.nil],.bool bo])):Pure Try.prog f args (.tup [.st [.fr 1 0 [],.fr 1 0 []],.bool bo]):=by
  intro μ w vs hb hr
  refine (h μ w vs hb hr).mono fun ex w' hq=>?_
  obtain ⟨v,fl,h1,h2,h3⟩:=hq
  refine ⟨v,fl,h1,?_,h3⟩
  rw [Rep] at h2 ⊢
  obtain ⟨vs,e1,h2⟩:=h2
  refine ⟨vs,e1,?_⟩
  rw [RepL] at h2 ⊢
  obtain ⟨v1,vs1,f1,f2,e2,e3,r1,r2⟩:=h2
  refine ⟨v1,vs1,f1,f2,e2,e3,?_,r2⟩
  rw [Rep] at r1 ⊢
  obtain ⟨us,e4,r1⟩:=r1
  refine ⟨us,e4,?_⟩
  rw [RepL] at r1 ⊢
  obtain ⟨u1,us1,g1,g2,k1,k2,s1,r1⟩:=r1
  refine ⟨u1,us1,g1,g2,k1,k2,zalr s1,?_⟩
  rw [RepL] at r1 ⊢
  obtain ⟨u2,us2,g3,g4,k3,k4,s2,r1⟩:=r1
  exact ⟨u2,us2,g3,g4,k3,k4,zalr s2,r1⟩
def fS (a:List Int) (b:List Bool) (c:List Tr4):List Int:=if fwOk a b c = true then fwS c (nxE b.length c c.length) b a else []
def fL (a:List Int) (b:List Bool) (c:List Tr4):List Int:=if fwOk a b c = true then fwL c (nxE b.length c c.length) b a else []
theorem fwOk_iff {a:List Int} {b:List Bool} {c:List Tr4}:fwOk a b c = true ↔ AutOk a b.length c ∧ 0 ≤ fwI (nxE b.length c c.length) b a:=by
  unfold fwOk;rw [Bool.and_eq_true,B_iff,decide_eq_true_eq]
theorem fSL_ok {a:List Int} {b:List Bool} {c:List Tr4} (h:fwOk a b c = true):LasOk (fS a b c) (fL a b c) ∧ SAcc b a c (ltr (fS a b c) (fL a b c)):=by
  obtain ⟨h1,h2⟩:=fwOk_iff.1 h
  unfold fS fL
  rw [if_pos h,if_pos h]
  exact fw_ok h1 h2
theorem las_any {f:FuncId} {args:List D} (a:List Int) (b:List Bool) (c:List Tr4) (h:Pure Try.prog f args (.tup [if fwOk a b c = true then .st [fr 1 cI (fwS c (nxE b.length c c.length) b a),fr 1 cI (fwL c (nxE b.length c c.length) b a)] else .st [.nil,.nil],.bool (fwOk a b c)])) :
    Pure Try.prog f args (.tup [.st [fr 1 cI (fS a b c),fr 1 cI (fL a b c)],.bool (fwOk a b c)]):=by
  unfold fS fL
  cases hu:fwOk a b c with
  | true=>rw [hu] at h;simpa using h
  | false =>
    rw [hu] at h
    have:=las_nilfr (by simpa using h)
    simpa [fr,cat] using this
theorem implFwF (a:List Int) (b:List Bool) (c:List Tr4) (hS:Xy c):Pure Try.prog 18 [.st [li cI a,li cB b,li cT c]] (.tup [.st [fr 1 cI (fS a b c),fr 1 cI (fL a b c)],.bool (fwOk a b c)]):=las_any a b c (zapj a b c hS)
theorem specFwF (a:List Int) (b:List Bool) (c:List Tr4) (hS:Xy c):Pure Try.prog 16 [.st [li cI a,li cB b,li cT c]] (.tup [.st [fr 1 cI (fS a b c),fr 1 cI (fL a b c)],.bool (fwOk a b c)]):=las_any a b c (zape a b c hS)

@[go_sem] def implFwFC:Con:=.pure fun
  | [.st [.list n_a c_a,.list n_b c_b,.list n_c c_c]]=>((Is cI n_a c_a) ∧ (Is cB n_b c_b) ∧ (Is cT n_c c_c) ∧ (Xy (de cT c_c)),.tup [.st [fr 1 cI (fS (de cI c_a) (de cB c_b) (de cT c_c)),fr 1 cI (fL (de cI c_a) (de cB c_b) (de cT c_c))],.bool (fwOk (de cI c_a) (de cB c_b) (de cT c_c))])
  | _=>(False,.any)
theorem implFwFC_ok:ConOk Try.prog 18 implFwFC:=by
  refine ⟨Qp Try.func18 (by decide) rfl,fun args h=>?_⟩
  revert h
  dsimp only
  split
  · intro h
    obtain ⟨⟨a,rfl,rfl⟩,⟨b,rfl,rfl⟩,⟨c,rfl,rfl⟩,hS⟩:=h
    try simp only [Qm] at *
    exact ⟨implFwF a b c hS,by simp [go_sem]⟩
  · intro h
    exact h.elim
@[go_sem] def Γw20:FuncId → Con:=ext Γw19 18 implFwFC
theorem Γw20_ok:∀ g,ConOk Try.prog g (Γw20 g):=Qo Γw19_ok implFwFC_ok

@[go_sem] def specFwFC:Con:=.pure fun
  | [.st [.list n_a c_a,.list n_b c_b,.list n_c c_c]]=>((Is cI n_a c_a) ∧ (Is cB n_b c_b) ∧ (Is cT n_c c_c) ∧ (Xy (de cT c_c)),.tup [.st [fr 1 cI (fS (de cI c_a) (de cB c_b) (de cT c_c)),fr 1 cI (fL (de cI c_a) (de cB c_b) (de cT c_c))],.bool (fwOk (de cI c_a) (de cB c_b) (de cT c_c))])
  | _=>(False,.any)
theorem specFwFC_ok:ConOk Try.prog 16 specFwFC:=by
  refine ⟨Qp Try.func16 (by decide) rfl,fun args h=>?_⟩
  revert h
  dsimp only
  split
  · intro h
    obtain ⟨⟨a,rfl,rfl⟩,⟨b,rfl,rfl⟩,⟨c,rfl,rfl⟩,hS⟩:=h
    try simp only [Qm] at *
    exact ⟨specFwF a b c hS,by simp [go_sem]⟩
  · intro h
    exact h.elim
@[go_sem] def Γw21:FuncId → Con:=ext Γw20 16 specFwFC
theorem Γw21_ok:∀ g,ConOk Try.prog g (Γw21 g):=Qo Γw20_ok specFwFC_ok

end
end Go.Proofs.Ytkjimmkemnmajaa.Vm

