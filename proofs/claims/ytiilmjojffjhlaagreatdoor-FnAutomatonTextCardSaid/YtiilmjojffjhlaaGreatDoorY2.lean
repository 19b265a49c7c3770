import Derived.Test.YtiilmjojffjhlaaGreatDoorZL
/-
  Formulas: their shape, their size, where they are valid. No conditions.
-/
namespace Go.Proofs.YtiilmjojffjhlaaGreatDoor.Vm
open Go
open Nat renaming sub_pos_of_lt → zsP
open List renaming getD_eq_getElem?_getD → zg,drop_one → zd
noncomputable section
set_option linter.unusedVariables false
set_option linter.unusedSimpArgs false
set_option maxRecDepth 200000

@[go_sem] def Γy0:FuncId → Con:=Γz3
theorem Zf:∀ g,ConOk Tryz.prog g (Γy0 g):=Γz3_ok

def arF (k:Int):Int:=if k = 1 ∨ k = 2 then 0 else if k = 3 ∨ k = 6 ∨ k = 9 ∨ k = 10 then 1 else if k = 4 ∨ k = 5 ∨ k = 7 ∨ k = 8 then 2 else -1
def ShapeF:Nat → Tree → Prop
  | 0,_=>False
  | d + 1,t=>(t.ks.length:Int) = arF t.k ∧ 0 ≤ t.v ∧ t.v < 3 ∧ (t.k = 2 ∨ t.v = 0) ∧ ∀ i,i < t.ks.length → ShapeF d (nth t.ks i)
theorem arF_le (k:Int):arF k ≤ 2:=by unfold arF;split;omega;split;omega;split <;> omega
theorem ShapeF.two {d:Nat} {t:Tree} (h:ShapeF d t):t.ks.length ≤ 2:=by
  cases d with
  | zero=>exact h.elim
  | succ d=>have:=h.1;have:=arF_le t.k;omega
theorem zakg {d:Int} (h:1 ≤ d) {k v:Int} {ks:List Tree}:ShapeF d.toNat (.mk k v ks) ↔ (ks.length:Int) = arF k ∧ 0 ≤ v ∧ v < 3 ∧ (k = 2 ∨ v = 0) ∧ ∀ i,i < ks.length → ShapeF (d.toNat - 1) (nth ks i):=by
  obtain ⟨d',e⟩:∃ d',d.toNat = d' + 1:=⟨d.toNat - 1,by omega⟩
  rw [e,Nat.add_sub_cancel];exact Iff.rfl
theorem cntF_rng:∀ (d:Nat) (t:Tree),ShapeF d t → 1 ≤ cntT d t ∧ cntT d t ≤ ((4 ^ d:Nat):Int)
  | 0,t,h=>h.elim
  | d + 1,t,h=>by
    have h2:=h.two
    have h3:=csum_rng (m:=cntT d) (ks:=t.ks) (M:=((4 ^ d:Nat):Int)) (fun i hi=>cntF_rng d _ (h.2.2.2.2 i hi)) t.ks.length (Nat.le_refl _)
    have p:1 ≤ 4 ^ d:=Nat.one_le_pow _ _ (by omega)
    have h4:(t.ks.length:Int) * ((4 ^ d:Nat):Int) ≤ 2 * ((4 ^ d:Nat):Int):=Int.mul_le_mul_of_nonneg_right (by omega) (by omega)
    have h5:4 ^ (d + 1) = 4 * 4 ^ d:=by rw [Nat.pow_succ,Nat.mul_comm]
    rw [cntT,h5]
    omega
theorem cntF_bd {d:Nat} {t:Tree} (h:ShapeF d t) (hd:d ≤ 20):1 ≤ cntT d t ∧ cntT d t ≤ 1099511627776:=by
  have:=cntF_rng d t h;have:=pow_le20 hd;omega
theorem shapeF_at {d:Int} {k v:Int} {ks:List Tree} (h:ShapeF d.toNat (.mk k v ks)):1 ≤ d ∧ (ks.length:Int) = arF k ∧ ks.length ≤ 2 ∧ (0 ≤ v ∧ v < 3) ∧ ∀ i,i < ks.length → ShapeF (d.toNat - 1) (nth ks i):=by
  have h1:1 ≤ d:=by
    rcases Int.lt_or_le d 1 with q | q
    · rw [show d.toNat = 0 by omega] at h;exact h.elim
    · exact q
  obtain ⟨q1,q2,q3,_,q4⟩:=(zakg h1).1 h
  exact ⟨h1,q1,h.two,⟨q2,q3⟩,q4⟩
def WellF (t:Tree):Prop:=∃ d,ShapeF d t
theorem WellF.at {k v:Int} {ks:List Tree} (h:WellF (.mk k v ks)):(ks.length:Int) = arF k ∧ 0 ≤ v ∧ v < 3 ∧ ∀ i,i < ks.length → WellF (nth ks i):=by
  obtain ⟨d,h⟩:=h
  cases d with
  | zero=>exact h.elim
  | succ d=>obtain ⟨q1,q2,q3,_,q4⟩:=h;exact ⟨q1,q2,q3,fun i hi=>⟨d,q4 i hi⟩⟩
def ForOk (t:Tree):Prop:=ShapeF 6 t ∧ cntT 6 t ≤ 12
theorem ForOk.well {t:Tree} (h:ForOk t):WellF t:=⟨6,h.1⟩

set_option maxHeartbeats 4000000 in
theorem l5Arity_pure (k:Int)  : Pure Tryz.prog 150 [.int .i64 k] (.int .i64 (arF k)):=by
  refine Pure.of_walk Tryz.func150 rfl (by simp [Tryz.f150]) (by simp [-zd,go_sem]) fun B hK=>?_
  (repeat' (first
 | refine Qs ?_
 | refine Qc (id:=0) Zf [] (by kernel_rfl) ?_;simp [-zg,-zd,↓Qb,↓Qa,go_sem]
 | refine Qc (id:=1) Zf [] (by kernel_rfl) ?_;simp [-zg,-zd,↓Qb,↓Qa,go_sem]
 | refine Qc (id:=2) Zf [] (by kernel_rfl) ?_;simp [-zg,-zd,↓Qb,↓Qa,go_sem]
 | refine Qc (id:=3) Zf [] (by kernel_rfl) ?_;simp [-zg,-zd,↓Qb,↓Qa,go_sem]
 | refine Qc (id:=4) Zf [] (by kernel_rfl) ?_;simp [-zg,-zd,↓Qb,↓Qa,go_sem]
 | refine Qc (id:=5) Zf [] (by kernel_rfl) ?_;simp [-zg,-zd,↓Qb,↓Qa,go_sem]
 | refine Qc (id:=6) Zf [] (by kernel_rfl) ?_;simp [-zg,-zd,↓Qb,↓Qa,go_sem]
 | refine Qc (id:=7) Zf [] (by kernel_rfl) ?_;simp [-zg,-zd,↓Qb,↓Qa,go_sem]
 | refine Qc (id:=8) Zf [] (by kernel_rfl) ?_;simp [-zg,-zd,↓Qb,↓Qa,go_sem]
 | refine Qc (id:=9) Zf [] (by kernel_rfl) ?_;simp [-zg,-zd,↓Qb,↓Qa,go_sem]
 | refine Qc (id:=10) Zf [] (by kernel_rfl) ?_;simp [-zg,-zd,↓Qb,↓Qa,go_sem]
 | refine Qc (id:=11) Zf [] (by kernel_rfl) ?_;simp [-zg,-zd,↓Qb,↓Qa,go_sem]
 | refine Qc (id:=12) Zf [] (by kernel_rfl) ?_;simp [-zg,-zd,↓Qb,↓Qa,go_sem]
 | refine Qc (id:=13) Zf [] (by kernel_rfl) ?_;simp [-zg,-zd,↓Qb,↓Qa,go_sem]
 | refine Qc (id:=14) Zf [] (by kernel_rfl) ?_;simp [-zg,-zd,↓Qb,↓Qa,go_sem]
 | refine Qc (id:=15) Zf [] (by kernel_rfl) ?_;simp [-zg,-zd,↓Qb,↓Qa,go_sem]
 | refine Qe (c:=.tmp 4) ?_;simp [-zg,-zd,↓Qb,↓Qa,go_sem];try first | (refine ⟨?_,?_⟩ <;> refine zA ?_) | (refine ⟨fun c4=>?_,fun c4=>?_⟩ <;> (try simp [B_iff,B_not] at c4))
 | refine Qe (c:=.tmp 7) ?_;simp [-zg,-zd,↓Qb,↓Qa,go_sem];try first | (refine ⟨?_,?_⟩ <;> refine zA ?_) | (refine ⟨fun c7=>?_,fun c7=>?_⟩ <;> (try simp [B_iff,B_not] at c7))
 | refine Qe (c:=.tmp 12) ?_;simp [-zg,-zd,↓Qb,↓Qa,go_sem];try first | (refine ⟨?_,?_⟩ <;> refine zA ?_) | (refine ⟨fun c12=>?_,fun c12=>?_⟩ <;> (try simp [B_iff,B_not] at c12))
 | (refine Qf ?_)
 | (refine Qr ?_;simp [-zg,-zd,↓Qb,↓Qa,go_sem])
 | (refine Qq ?_;simp [-zg,-zd,↓Qb,↓Qa,go_sem])
 | (refine Qt ?_;simp [-zg,-zd,↓Qb,↓Qa,go_sem,Tryz.results150])
 | (intro hx;refine zA ?_)
 | (refine ⟨?_,?_⟩ <;> refine zA ?_)
 | (intro hx;constructor <;> intro hs)
 | (constructor <;> intro hs)
 | (refine ⟨?_,fun hs=>?_⟩;refine zA ?_)
 | (refine ⟨fun hs=>?_,?_⟩;rotate_left;refine zA ?_;rotate_left)))
  all_goals (first
 | (unfold arF;simp_all;done)
 | (unfold arF;(repeat' split) <;> omega)
 | skip)
@[go_sem] def zaey:Con:=.pure fun
  | [.int .i64 k]=>(True,.int .i64 (arF k))
  | _=>(False,.any)
theorem zalp:ConOk Tryz.prog 150 zaey:=by
  refine ⟨Qo Tryz.func150 (by decide) rfl,fun args h=>?_⟩
  revert h
  dsimp only
  split
  · intro h
    skip
    skip
    exact ⟨l5Arity_pure _,by simp [go_sem]⟩
  · intro h
    exact h.elim
@[go_sem] def Γy1:FuncId → Con:=ext Γy0 150 zaey
theorem Γy1_ok:∀ g,ConOk Tryz.prog g (Γy1 g):=Qn Zf zalp

@[go_sem] def zahi (n_:Nat):Con:=.pure fun
  | [.st [.int .i64 k,.int .i64 v,.list n_ks c_ks],.int .i64 d]=>((Is cX n_ks c_ks) ∧ (d ≤ 1000000) ∧ (d.toNat < n_),.bool (B (ShapeF d.toNat (.mk k v (de cX c_ks)))))
  | _=>(False,.any)
theorem zajf {n_:Nat} (ih:∀ (k:Int) (v:Int) (ks:List Tree) (d:Int) (h0:d ≤ 1000000) (hm_:d.toNat < n_),Pure Tryz.prog 151 [.st [.int .i64 k,.int .i64 v,li cX ks],.int .i64 d] (.bool (B (ShapeF d.toNat (.mk k v ks))))):ConOk Tryz.prog 151 (zahi n_):=by
  refine ⟨Qo Tryz.func151 (by decide) rfl,fun args h=>?_⟩
  revert h
  dsimp only
  split
  · intro h
    obtain ⟨⟨ks,rfl,rfl⟩,h0,hm_⟩:=h
    try simp only [Qp] at *
    exact ⟨ih _ _ ks _ h0 hm_,by simp [go_sem]⟩
  · intro h
    exact h.elim
set_option maxHeartbeats 1000000 in
theorem zali:∀ (n_:Nat),∀ (k:Int) (v:Int) (ks:List Tree) (d:Int) (h0:d ≤ 1000000) (hm_:d.toNat < n_),Pure Tryz.prog 151 [.st [.int .i64 k,.int .i64 v,li cX ks],.int .i64 d] (.bool (B (ShapeF d.toNat (.mk k v ks)))):=by
  intro n_
  induction n_ with
  | zero=>intros;omega
  | succ n_ ih =>
  intro k v ks d h0 hm_
  have Γr_ok:=Qn Γy1_ok (zajf ih)
  refine Pure.of_walk Tryz.func151 rfl (by simp [Tryz.f151]) (by simp [-zd,go_sem]) fun B hK=>?_
  (repeat' (first
 | refine Qs ?_
 | refine Qc (id:=0) Γr_ok [] (by kernel_rfl) ?_;simp [-zg,-zd,↓Qb,↓Qa,go_sem];try (refine Xg hK 2 ?_;simp [go_sem])
 | (refine Uy 2 2 ⟨rfl,rfl⟩ fun hm=>?_);refine Xx (id:=1) Γr_ok mixed [8] [2] (by kernel_rfl) (by kernel_rfl) (by simp [-zg,-zd,↓Qb,↓Qa,go_sem]) ?_;simp [-zg,-zd,↓Qb,↓Qa,go_sem];try (refine ⟨fun s1a=>?_,fun s1a=>?_⟩ <;> (try simp [B_iff,B_not] at s1a) <;> try (refine ⟨fun s1b=>?_,fun s1b=>?_⟩ <;> (try simp [B_iff,B_not] at s1b)))
 | refine Qc (id:=2) Γr_ok [] (by kernel_rfl) ?_;simp [-zg,-zd,↓Qb,↓Qa,go_sem]
 | refine Qc (id:=3) Γr_ok [20,25,29] (by kernel_rfl) ?_;simp [-zg,-zd,↓Qb,↓Qa,go_sem];try (refine ⟨fun s3a=>?_,fun s3a=>?_⟩ <;> (try simp [B_iff,B_not] at s3a) <;> try (refine ⟨fun s3b=>?_,fun s3b=>?_⟩ <;> (try simp [B_iff,B_not] at s3b) <;> try (refine ⟨fun s3c=>?_,fun s3c=>?_⟩ <;> (try simp [B_iff,B_not] at s3c) <;> try (refine ⟨fun s3d=>?_,fun s3d=>?_⟩ <;> (try simp [B_iff,B_not] at s3d)))))
 | refine Qc (id:=4) Γr_ok [] (by kernel_rfl) ?_;simp [-zg,-zd,↓Qb,↓Qa,go_sem]
 | refine Qc (id:=5) Γr_ok [] (by kernel_rfl) ?_;simp [-zg,-zd,↓Qb,↓Qa,go_sem]
 | refine Qc (id:=6) Γr_ok [] (by kernel_rfl) ?_;simp [-zg,-zd,↓Qb,↓Qa,go_sem]
 | refine Qc (id:=8) Γr_ok [] (by kernel_rfl) ?_;simp [-zg,-zd,↓Qb,↓Qa,go_sem,c39,Qi c39,zsP c39,wrap_in (x:=d - 1) (by omega) (by omega),(show d - 1 ≤ 1000000 by omega),(show d ≤ 1000000 + 1 by omega),(show d.toNat - 1 < n_ by omega),(show 0 < d.toNat by omega),Tree.eta]
 | refine Qc (id:=9) Γr_ok [] (by kernel_rfl) ?_;simp [-zg,-zd,↓Qb,↓Qa,go_sem]
 | refine Qc (id:=7) Γr_ok [] (by kernel_rfl) ?_;simp [-zg,-zd,↓Qb,↓Qa,go_sem,wrapS (k:=i) (by omega)]
 | refine Qc (id:=10) Γr_ok [] (by kernel_rfl) ?_;simp [-zg,-zd,↓Qb,↓Qa,go_sem]
 | refine Qe (c:=.tmp 16) ?_;simp [-zg,-zd,↓Qb,↓Qa,go_sem];try first | (refine ⟨?_,?_⟩ <;> refine zA ?_) | (refine ⟨fun c16=>?_,fun c16=>?_⟩ <;> (try simp [B_iff,B_not] at c16))
 | refine Qe (c:=.tmp 34) ?_;simp [-zg,-zd,↓Qb,↓Qa,go_sem];try first | (refine ⟨?_,?_⟩ <;> refine zA ?_) | (refine ⟨fun c34=>?_,fun c34=>?_⟩ <;> (try simp [B_iff,B_not] at c34))
 | refine Qe (c:=.tmp 39) ?_;simp [-zg,-zd,↓Qb,↓Qa,go_sem];try first | (refine ⟨?_,?_⟩ <;> refine zA ?_) | (refine ⟨fun c39=>?_,fun c39=>?_⟩ <;> (try simp [B_iff,B_not] at c39))
 | refine Qe (c:=.tmp 50) ?_;simp [-zg,-zd,↓Qb,↓Qa,go_sem];try first | (refine ⟨?_,?_⟩ <;> refine zA ?_) | (refine ⟨fun c50=>?_,fun c50=>?_⟩ <;> (try simp [B_iff,B_not] at c50))
 | (refine Qf (id:=0) (Qz (ι:=Nat) (fun i:Nat=>⟨(upd (upd (upd (fun _=>.any) 1 (.int .i64 d)) 2 (.pd [.int .i64 k,.int .i64 v,li cX ks])) 5 (.int .i64 i)),fun _=>none⟩) (fun i=>i ≤ ks.length ∧ AllTill (fun i=>ShapeF (d.toNat - 1) (nth ks i)) i) (fun i=>ks.length - i) (0) ?_ ?_ ?_);exact ⟨Nat.zero_le _,.zero _⟩;((repeat' (first | exact Qk (by assumption) | exact Qm | refine Qj ?_ ?_ | refine Ql ?_)) <;> simp [-zg,-zd,↓Qb,↓Qa,go_sem]);rintro i ⟨hi,hu⟩)
 | (refine ⟨i + 1,⟨by omega,hu.succ c50⟩,by first | omega | (simp;done) | (simp;omega),?_⟩;((repeat' (first | exact Qk (by assumption) | exact Qm | refine Qj ?_ ?_ | refine Ql ?_)) <;> simp [-zg,-zd,↓Qb,↓Qa,go_sem]))
 | (refine Qf ?_)
 | (refine Qr ?_;simp [-zg,-zd,↓Qb,↓Qa,go_sem])
 | (refine Qq ?_;simp [-zg,-zd,↓Qb,↓Qa,go_sem])
 | (refine Qt ?_;simp [-zg,-zd,↓Qb,↓Qa,go_sem,Tryz.results151])
 | (intro hx;refine zA ?_)
 | (refine ⟨?_,?_⟩ <;> refine zA ?_)
 | (intro hx;constructor <;> intro hs)
 | (constructor <;> intro hs)
 | (refine ⟨?_,fun hs=>?_⟩;refine zA ?_)
 | (refine ⟨fun hs=>?_,?_⟩;rotate_left;refine zA ?_;rotate_left)))
  all_goals (first
 | (rw [zakg (by omega)];exact ⟨by omega,by omega,by omega,by omega,fun j hj=>hu j (by omega)⟩)
 | (intro h;rw [show d.toNat = 0 by omega] at h;exact h)
 | (rw [zakg (by omega)];rintro ⟨q1,q2,q3,q4,q5⟩;first | (exact absurd (q5 i (by assumption)) (by assumption)) | (exfalso;omega))
 | skip)
theorem l5Shape_pure (k:Int) (v:Int) (ks:List Tree) (d:Int) (h0:d ≤ 1000000):Pure Tryz.prog 151 [.st [.int .i64 k,.int .i64 v,li cX ks],.int .i64 d] (.bool (B (ShapeF d.toNat (.mk k v ks)))):=zali (d.toNat + 1) k v ks d h0 (by omega)
@[go_sem] def zaew:Con:=.pure fun
  | [.st [.int .i64 k,.int .i64 v,.list n_ks c_ks],.int .i64 d]=>((Is cX n_ks c_ks) ∧ (d ≤ 1000000),.bool (B (ShapeF d.toNat (.mk k v (de cX c_ks)))))
  | _=>(False,.any)
theorem zalj:ConOk Tryz.prog 151 zaew:=by
  refine ⟨Qo Tryz.func151 (by decide) rfl,fun args h=>?_⟩
  revert h
  dsimp only
  split
  · intro h
    obtain ⟨⟨ks,rfl,rfl⟩,h0⟩:=h
    try simp only [Qp] at *
    exact ⟨l5Shape_pure _ _ ks _ h0,by simp [go_sem]⟩
  · intro h
    exact h.elim
@[go_sem] def Γy2:FuncId → Con:=ext Γy1 151 zaew
theorem Γy2_ok:∀ g,ConOk Tryz.prog g (Γy2 g):=Qn Γy1_ok zalj

@[go_sem] def zahk (n_:Nat):Con:=.pure fun
  | [.st [.int .i64 k,.int .i64 v,.list n_ks c_ks],.int .i64 d]=>((Is cX n_ks c_ks) ∧ (d ≤ 20) ∧ (ShapeF d.toNat (.mk k v (de cX c_ks))) ∧ (d.toNat < n_),.int .i64 (cntT d.toNat (.mk k v (de cX c_ks))))
  | _=>(False,.any)
theorem zajg {n_:Nat} (ih:∀ (k:Int) (v:Int) (ks:List Tree) (d:Int) (h0:d ≤ 20) (hS:ShapeF d.toNat (.mk k v ks)) (hm_:d.toNat < n_),Pure Tryz.prog 152 [.st [.int .i64 k,.int .i64 v,li cX ks],.int .i64 d] (.int .i64 (cntT d.toNat (.mk k v ks)))):ConOk Tryz.prog 152 (zahk n_):=by
  refine ⟨Qo Tryz.func152 (by decide) rfl,fun args h=>?_⟩
  revert h
  dsimp only
  split
  · intro h
    obtain ⟨⟨ks,rfl,rfl⟩,h0,hS,hm_⟩:=h
    try simp only [Qp] at *
    exact ⟨ih _ _ ks _ h0 hS hm_,by simp [go_sem]⟩
  · intro h
    exact h.elim
theorem zalm:∀ (n_:Nat),∀ (k:Int) (v:Int) (ks:List Tree) (d:Int) (h0:d ≤ 20) (hS:ShapeF d.toNat (.mk k v ks)) (hm_:d.toNat < n_),Pure Tryz.prog 152 [.st [.int .i64 k,.int .i64 v,li cX ks],.int .i64 d] (.int .i64 (cntT d.toNat (.mk k v ks))):=by
  intro n_
  induction n_ with
  | zero=>intros;omega
  | succ n_ ih =>
  intro k v ks d h0 hS hm_
  have Γr_ok:=Qn Γy2_ok (zajg ih)
  refine Pure.of_walk Tryz.func152 rfl (by simp [Tryz.f152]) (by simp [-zd,go_sem]) fun B hK=>?_
  obtain ⟨s1,s2,s3,s4,s5⟩:=shapeF_at hS;have hcb:∀ i,i < ks.length → 1 ≤ cntT (d.toNat - 1) (nth ks i) ∧ cntT (d.toNat - 1) (nth ks i) ≤ 1099511627776:=(fun i hi=>cntF_bd (s5 i hi) (by omega))
  all_goals (repeat' (first
 | refine Qs ?_
 | refine Qc (id:=0) Γr_ok [] (by kernel_rfl) ?_;simp [-zg,-zd,↓Qb,↓Qa,go_sem];try (refine Xg hK 2 ?_;simp [go_sem])
 | refine Qc (id:=1) Γr_ok [] (by kernel_rfl) ?_;simp [-zg,-zd,↓Qb,↓Qa,go_sem]
 | refine Qc (id:=2) Γr_ok [] (by kernel_rfl) ?_;simp [-zg,-zd,↓Qb,↓Qa,go_sem]
 | refine Qc (id:=3) Γr_ok [12] (by kernel_rfl) ?_;simp [-zg,-zd,↓Qb,↓Qa,go_sem,(show 0 < d by omega)];try (refine ⟨fun s3a=>?_,fun s3a=>?_⟩ <;> (try simp [B_iff,B_not] at s3a) <;> try (refine ⟨fun s3b=>?_,fun s3b=>?_⟩ <;> (try simp [B_iff,B_not] at s3b)))
 | (have q1:=csum_rng hcb i hi;have q2:=hcb i s3a);refine Qc (id:=5) Γr_ok [] (by kernel_rfl) ?_;simp [-zg,-zd,↓Qb,↓Qa,go_sem,s3a,Qi s3a,zsP s3a,wrap_in (x:=d - 1) (by omega) (by omega),(show d - 1 ≤ 20 by omega),(show d ≤ 20 + 1 by omega),(show d.toNat - 1 < n_ by omega),(show 0 < d.toNat by omega),Tree.eta,s5 i s3a,wrap_in (x:=1 + csum (cntT (d.toNat - 1)) ks i + cntT (d.toNat - 1) (nth ks i)) (by omega) (by omega)]
 | refine Qc (id:=4) Γr_ok [] (by kernel_rfl) ?_;simp [-zg,-zd,↓Qb,↓Qa,go_sem,wrapS (k:=i) (by omega)]
 | refine Qc (id:=6) Γr_ok [] (by kernel_rfl) ?_;simp [-zg,-zd,↓Qb,↓Qa,go_sem]
 | refine Qe (c:=.tmp 15) ?_;simp [-zg,-zd,↓Qb,↓Qa,go_sem];try first | (refine ⟨?_,?_⟩ <;> refine zA ?_) | (refine ⟨fun c15=>?_,fun c15=>?_⟩ <;> (try simp [B_iff,B_not] at c15))
 | (refine Qf (id:=0) (Qz (ι:=Nat) (fun i:Nat=>⟨(upd (upd (upd (upd (fun _=>.any) 1 (.int .i64 d)) 2 (.pd [.int .i64 k,.int .i64 v,li cX ks])) 5 (.int .i64 (1 + csum (cntT (d.toNat - 1)) ks i))) 6 (.int .i64 i)),fun _=>none⟩) (fun i=>i ≤ ks.length) (fun i=>ks.length - i) (0) ?_ ?_ ?_);exact Nat.zero_le _;((repeat' (first | exact Qk (by assumption) | exact Qm | refine Qj ?_ ?_ | refine Ql ?_)) <;> simp [-zg,-zd,↓Qb,↓Qa,go_sem,csum_zero]);rintro i hi)
 | (refine ⟨i + 1,by omega,by first | omega | (simp;done) | (simp;omega),?_⟩;((repeat' (first | exact Qk (by assumption) | exact Qm | refine Qj ?_ ?_ | refine Ql ?_)) <;> simp [-zg,-zd,↓Qb,↓Qa,go_sem,csum_succ (cntT (d.toNat - 1)) s3a,Int.add_assoc]))
 | (refine Qf ?_)
 | (refine Qr ?_;simp [-zg,-zd,↓Qb,↓Qa,go_sem])
 | (refine Qq ?_;simp [-zg,-zd,↓Qb,↓Qa,go_sem])
 | (refine Qt ?_;simp [-zg,-zd,↓Qb,↓Qa,go_sem,Tryz.results152])
 | (intro hx;refine zA ?_)
 | (refine ⟨?_,?_⟩ <;> refine zA ?_)
 | (intro hx;constructor <;> intro hs)
 | (constructor <;> intro hs)
 | (refine ⟨?_,fun hs=>?_⟩;refine zA ?_)
 | (refine ⟨fun hs=>?_,?_⟩;rotate_left;refine zA ?_;rotate_left)))
  all_goals (first
 | (obtain ⟨d',e⟩:∃ d',d.toNat = d' + 1:=⟨d.toNat - 1,by omega⟩;obtain rfl:i = ks.length:=(by omega);rw [e];simp only [cntT,Nat.add_sub_cancel,Tree.ks])
 | skip)
theorem l5Count_pure (k:Int) (v:Int) (ks:List Tree) (d:Int) (h0:d ≤ 20) (hS:ShapeF d.toNat (.mk k v ks)):Pure Tryz.prog 152 [.st [.int .i64 k,.int .i64 v,li cX ks],.int .i64 d] (.int .i64 (cntT d.toNat (.mk k v ks))):=zalm (d.toNat + 1) k v ks d h0 hS (by omega)
@[go_sem] def zaex:Con:=.pure fun
  | [.st [.int .i64 k,.int .i64 v,.list n_ks c_ks],.int .i64 d]=>((Is cX n_ks c_ks) ∧ (d ≤ 20) ∧ (ShapeF d.toNat (.mk k v (de cX c_ks))),.int .i64 (cntT d.toNat (.mk k v (de cX c_ks))))
  | _=>(False,.any)
theorem zaln:ConOk Tryz.prog 152 zaex:=by
  refine ⟨Qo Tryz.func152 (by decide) rfl,fun args h=>?_⟩
  revert h
  dsimp only
  split
  · intro h
    obtain ⟨⟨ks,rfl,rfl⟩,h0,hS⟩:=h
    try simp only [Qp] at *
    exact ⟨l5Count_pure _ _ ks _ h0 hS,by simp [go_sem]⟩
  · intro h
    exact h.elim
@[go_sem] def Γy3:FuncId → Con:=ext Γy2 152 zaex
theorem Γy3_ok:∀ g,ConOk Tryz.prog g (Γy3 g):=Qn Γy2_ok zaln

theorem zaji (k:Int) (v:Int) (ks:List Tree)  : Pure Tryz.prog 112 [.st [.int .i64 k,.int .i64 v,li cX ks]] (.bool (B (ForOk (.mk k v ks)))):=by
  refine Pure.of_walk Tryz.func112 rfl (by simp [Tryz.f112]) (by simp [-zd,go_sem]) fun B hK=>?_
  cases hs:Vm.B (ShapeF 6 (.mk k v ks))
  all_goals (repeat' (first
 | refine Qs ?_
 | refine Qc (id:=0) Γy3_ok [] (by kernel_rfl) ?_;simp [-zg,-zd,↓Qb,↓Qa,go_sem];try (refine Xg hK 1 ?_;simp [go_sem])
 | ((try (have hS:ShapeF 6 (.mk k v ks):=(by rw [B_iff] at hs;exact hs)));skip);refine Qc (id:=1) Γy3_ok [5] (by kernel_rfl) ?_;simp [-zg,-zd,↓Qb,↓Qa,go_sem,hs,hS];try (refine ⟨fun s1a=>?_,fun s1a=>?_⟩ <;> (try simp [B_iff,B_not] at s1a) <;> try (refine ⟨fun s1b=>?_,fun s1b=>?_⟩ <;> (try simp [B_iff,B_not] at s1b)))
 | refine Qc (id:=1) Γy3_ok [5] (by kernel_rfl) ?_;simp [-zg,-zd,↓Qb,↓Qa,go_sem,hs];try (refine ⟨fun s1a=>?_,fun s1a=>?_⟩ <;> (try simp [B_iff,B_not] at s1a) <;> try (refine ⟨fun s1b=>?_,fun s1b=>?_⟩ <;> (try simp [B_iff,B_not] at s1b)))
 | (refine Qf ?_)
 | (refine Qr ?_;simp [-zg,-zd,↓Qb,↓Qa,go_sem])
 | (refine Qq ?_;simp [-zg,-zd,↓Qb,↓Qa,go_sem])
 | (refine Qt ?_;simp [-zg,-zd,↓Qb,↓Qa,go_sem,Tryz.results112])
 | (intro hx;refine zA ?_)
 | (refine ⟨?_,?_⟩ <;> refine zA ?_)
 | (intro hx;constructor <;> intro hs)
 | (constructor <;> intro hs)
 | (refine ⟨?_,fun hs=>?_⟩;refine zA ?_)
 | (refine ⟨fun hs=>?_,?_⟩;rotate_left;refine zA ?_;rotate_left)))
  all_goals (first
 | (rw [eq_comm,B_not];intro h;have:=B_yes h.1;rw [hs] at this;cases this;done)
 | (rw [B_not];intro h;have:=B_yes h.1;rw [hs] at this;cases this;done)
 | (rw [Bool.eq_iff_iff,B_iff,decide_eq_true_eq];exact ⟨fun h=>⟨hS,h⟩,fun h=>h.2⟩)
 | (intro h;have:=B_yes h.1;rw [hs] at this;cases this;done)
 | skip)
@[go_sem] def zabw:Con:=.pure fun
  | [.st [.int .i64 k,.int .i64 v,.list n_ks c_ks]]=>((Is cX n_ks c_ks),.bool (B (ForOk (.mk k v (de cX c_ks)))))
  | _=>(False,.any)
theorem zafv:ConOk Tryz.prog 112 zabw:=by
  refine ⟨Qo Tryz.func112 (by decide) rfl,fun args h=>?_⟩
  revert h
  dsimp only
  split
  · intro h
    obtain ⟨ks,rfl,rfl⟩:=h
    try simp only [Qp] at *
    exact ⟨zaji _ _ ks,by simp [go_sem]⟩
  · intro h
    exact h.elim
@[go_sem] def Γy4:FuncId → Con:=ext Γy3 112 zabw
theorem Γy4_ok:∀ g,ConOk Tryz.prog g (Γy4 g):=Qn Γy3_ok zafv

def TEq (a b:Tree):Prop:=a = b
theorem teq_iff {k v k' v':Int} {ks ks':List Tree}:TEq (.mk k v ks) (.mk k' v' ks') ↔ k = k' ∧ v = v' ∧ ks.length = ks'.length ∧ ∀ i,i < ks.length → TEq (nth ks i) (nth ks' i):=by
  unfold TEq
  rw [Tree.mk.injEq]
  constructor
  · rintro ⟨rfl,rfl,rfl⟩;exact ⟨rfl,rfl,rfl,fun _ _=>rfl⟩
  · rintro ⟨h1,h2,h3,h4⟩
    refine ⟨h1,h2,List.ext_getElem h3 fun i p q=>?_⟩
    rw [← nth_lt p,← nth_lt q];exact h4 i p

@[go_sem] def zadv (n_:Nat):Con:=.pure fun
  | [.st [.int .i64 k,.int .i64 v,.list n_ks c_ks],.st [.int .i64 k',.int .i64 v',.list n_ls c_ls]]=>((Is cX n_ks c_ks) ∧ (Is cX n_ls c_ls) ∧ (tsz (.mk k v (de cX c_ks)) < n_),.bool (B (TEq (.mk k v (de cX c_ks)) (.mk k' v' (de cX c_ls)))))
  | _=>(False,.any)
theorem zafw {n_:Nat} (ih:∀ (k:Int) (v:Int) (ks:List Tree) (k':Int) (v':Int) (ls:List Tree)  (hm_:tsz (.mk k v ks) < n_),Pure Tryz.prog 182 [.st [.int .i64 k,.int .i64 v,li cX ks],.st [.int .i64 k',.int .i64 v',li cX ls]] (.bool (B (TEq (.mk k v ks) (.mk k' v' ls))))):ConOk Tryz.prog 182 (zadv n_):=by
  refine ⟨Qo Tryz.func182 (by decide) rfl,fun args h=>?_⟩
  revert h
  dsimp only
  split
  · intro h
    obtain ⟨⟨ks,rfl,rfl⟩,⟨ls,rfl,rfl⟩,hm_⟩:=h
    try simp only [Qp] at *
    exact ⟨ih _ _ ks _ _ ls hm_,by simp [go_sem]⟩
  · intro h
    exact h.elim
set_option maxHeartbeats 1000000 in
theorem zagt:∀ (n_:Nat),∀ (k:Int) (v:Int) (ks:List Tree) (k':Int) (v':Int) (ls:List Tree)  (hm_:tsz (.mk k v ks) < n_),Pure Tryz.prog 182 [.st [.int .i64 k,.int .i64 v,li cX ks],.st [.int .i64 k',.int .i64 v',li cX ls]] (.bool (B (TEq (.mk k v ks) (.mk k' v' ls)))):=by
  intro n_
  induction n_ with
  | zero=>intros;omega
  | succ n_ ih =>
  intro k v ks k' v' ls  hm_
  have Γr_ok:=Qn Γy4_ok (zafw ih)
  refine Pure.of_walk Tryz.func182 rfl (by simp [Tryz.f182]) (by simp [-zd,go_sem]) fun B hK=>?_
  (repeat' (first
 | refine Qs ?_
 | refine Qc (id:=0) Γr_ok [] (by kernel_rfl) ?_;simp [-zg,-zd,↓Qb,↓Qa,go_sem];try (refine Xg hK 2 ?_;simp [go_sem];refine Xg hK 3 ?_;simp [go_sem])
 | (refine Uy 2 2 ⟨rfl,rfl⟩ fun hm=>?_);refine Qc (id:=1) Γr_ok [11,18] (by kernel_rfl) ?_;simp [-zg,-zd,↓Qb,↓Qa,go_sem];try (refine ⟨fun s1a=>?_,fun s1a=>?_⟩ <;> (try simp [B_iff,B_not] at s1a) <;> try (refine ⟨fun s1b=>?_,fun s1b=>?_⟩ <;> (try simp [B_iff,B_not] at s1b) <;> try (refine ⟨fun s1c=>?_,fun s1c=>?_⟩ <;> (try simp [B_iff,B_not] at s1c))))
 | refine Qc (id:=2) Γr_ok [] (by kernel_rfl) ?_;simp [-zg,-zd,↓Qb,↓Qa,go_sem]
 | refine Qc (id:=3) Γr_ok [] (by kernel_rfl) ?_;simp [-zg,-zd,↓Qb,↓Qa,go_sem]
 | refine Qc (id:=4) Γr_ok [] (by kernel_rfl) ?_;simp [-zg,-zd,↓Qb,↓Qa,go_sem]
 | (have cy:i < ls.length:=(by omega);have qt:=Xq (k:=k) (v:=v) c31);refine Xx (id:=6) Γr_ok mixed [] [5] (by kernel_rfl) (by kernel_rfl) (by simp [-zg,-zd,↓Qb,↓Qa,go_sem,c31,Qi c31,zsP c31,cy,Qi cy,zsP cy,Tree.eta,(show tsz (nth ks i) < n_ by omega)]) ?_;simp [-zg,-zd,↓Qb,↓Qa,go_sem,c31,Qi c31,zsP c31,cy,Qi cy,zsP cy,Tree.eta,(show tsz (nth ks i) < n_ by omega)]
 | refine Qc (id:=7) Γr_ok [] (by kernel_rfl) ?_;simp [-zg,-zd,↓Qb,↓Qa,go_sem]
 | refine Qc (id:=5) Γr_ok [] (by kernel_rfl) ?_;simp [-zg,-zd,↓Qb,↓Qa,go_sem,wrapS (k:=i) (by omega)]
 | refine Qc (id:=8) Γr_ok [] (by kernel_rfl) ?_;simp [-zg,-zd,↓Qb,↓Qa,go_sem]
 | refine Qe (c:=.tmp 26) ?_;simp [-zg,-zd,↓Qb,↓Qa,go_sem];try first | (refine ⟨?_,?_⟩ <;> refine zA ?_) | (refine ⟨fun c26=>?_,fun c26=>?_⟩ <;> (try simp [B_iff,B_not] at c26))
 | refine Qe (c:=.tmp 31) ?_;simp [-zg,-zd,↓Qb,↓Qa,go_sem];try first | (refine ⟨?_,?_⟩ <;> refine zA ?_) | (refine ⟨fun c31=>?_,fun c31=>?_⟩ <;> (try simp [B_iff,B_not] at c31))
 | refine Qe (c:=.tmp 45) ?_;simp [-zg,-zd,↓Qb,↓Qa,go_sem];try first | (refine ⟨?_,?_⟩ <;> refine zA ?_) | (refine ⟨fun c45=>?_,fun c45=>?_⟩ <;> (try simp [B_iff,B_not] at c45))
 | (refine Qf (id:=0) (Qz (ι:=Nat) (fun i:Nat=>⟨(upd (upd (upd (fun _=>.any) 2 (.pd [.int .i64 k,.int .i64 v,li cX ks])) 3 (.pd [.int .i64 k',.int .i64 v',li cX ls])) 5 (.int .i64 i)),fun _=>none⟩) (fun i=>i ≤ ks.length ∧ AllTill (fun i=>TEq (nth ks i) (nth ls i)) i) (fun i=>ks.length - i) (0) ?_ ?_ ?_);exact ⟨Nat.zero_le _,.zero _⟩;((repeat' (first | exact Qk (by assumption) | exact Qm | refine Qj ?_ ?_ | refine Ql ?_)) <;> simp [-zg,-zd,↓Qb,↓Qa,go_sem]);rintro i ⟨hi,hu⟩)
 | (refine ⟨i + 1,⟨by omega,hu.succ c45⟩,by first | omega | (simp;done) | (simp;omega),?_⟩;((repeat' (first | exact Qk (by assumption) | exact Qm | refine Qj ?_ ?_ | refine Ql ?_)) <;> simp [-zg,-zd,↓Qb,↓Qa,go_sem]))
 | (refine Qf ?_)
 | (refine Qr ?_;simp [-zg,-zd,↓Qb,↓Qa,go_sem])
 | (refine Qq ?_;simp [-zg,-zd,↓Qb,↓Qa,go_sem])
 | (refine Qt ?_;simp [-zg,-zd,↓Qb,↓Qa,go_sem,Tryz.results182])
 | (intro hx;refine zA ?_)
 | (refine ⟨?_,?_⟩ <;> refine zA ?_)
 | (intro hx;constructor <;> intro hs)
 | (constructor <;> intro hs)
 | (refine ⟨?_,fun hs=>?_⟩;refine zA ?_)
 | (refine ⟨fun hs=>?_,?_⟩;rotate_left;refine zA ?_;rotate_left)))
  all_goals (first
 | (rw [teq_iff];exact ⟨by omega,by omega,by omega,fun j hj=>hu j (by omega)⟩)
 | (rw [teq_iff];rintro ⟨q1,q2,q3,q4⟩;first | (exact absurd (q4 i (by assumption)) (by assumption)) | (exfalso;omega))
 | skip)
theorem zame (k:Int) (v:Int) (ks:List Tree) (k':Int) (v':Int) (ls:List Tree)  : Pure Tryz.prog 182 [.st [.int .i64 k,.int .i64 v,li cX ks],.st [.int .i64 k',.int .i64 v',li cX ls]] (.bool (B (TEq (.mk k v ks) (.mk k' v' ls)))):=zagt (tsz (.mk k v ks) + 1) k v ks k' v' ls  (by omega)
@[go_sem] def zacg:Con:=.pure fun
  | [.st [.int .i64 k,.int .i64 v,.list n_ks c_ks],.st [.int .i64 k',.int .i64 v',.list n_ls c_ls]]=>((Is cX n_ks c_ks) ∧ (Is cX n_ls c_ls),.bool (B (TEq (.mk k v (de cX c_ks)) (.mk k' v' (de cX c_ls)))))
  | _=>(False,.any)
theorem zagu:ConOk Tryz.prog 182 zacg:=by
  refine ⟨Qo Tryz.func182 (by decide) rfl,fun args h=>?_⟩
  revert h
  dsimp only
  split
  · intro h
    obtain ⟨⟨ks,rfl,rfl⟩,⟨ls,rfl,rfl⟩⟩:=h
    try simp only [Qp] at *
    exact ⟨zame _ _ ks _ _ ls,by simp [go_sem]⟩
  · intro h
    exact h.elim
@[go_sem] def Γy5:FuncId → Con:=ext Γy4 182 zacg
theorem Us:∀ g,ConOk Tryz.prog g (Γy5 g):=Qn Γy4_ok zagu

theorem l5Find_pure (xs:List Tree) (k:Int) (v:Int) (ks:List Tree)  : Pure Tryz.prog 146 [li cX xs,.st [.int .i64 k,.int .i64 v,li cX ks]] (.int .i64 (findI (fun z=>B (TEq z (.mk k v ks))) xs)):=by
  refine Pure.of_walk Tryz.func146 rfl (by simp [Tryz.f146]) (by simp [-zd,go_sem]) fun B hK=>?_
  (repeat' (first
 | refine Qs ?_
 | (refine Vn 0 rfl fun hm=>?_);refine Qc (id:=0) Us [] (by kernel_rfl) ?_;simp [-zg,-zd,↓Qb,↓Qa,go_sem];try (refine Xg hK 3 ?_;simp [go_sem])
 | refine Qc (id:=1) Us [] (by kernel_rfl) ?_;simp [-zg,-zd,↓Qb,↓Qa,go_sem]
 | refine Qc (id:=2) Us [] (by kernel_rfl) ?_;simp [-zg,-zd,↓Qb,↓Qa,go_sem]
 | refine Xx (id:=4) Us mixed [] [] (by kernel_rfl) (by kernel_rfl) (by simp [-zg,-zd,↓Qb,↓Qa,go_sem,c9,Qi c9,zsP c9,Tree.eta]) ?_;simp [-zg,-zd,↓Qb,↓Qa,go_sem,c9,Qi c9,zsP c9,Tree.eta]
 | refine Qc (id:=5) Us [] (by kernel_rfl) ?_;simp [-zg,-zd,↓Qb,↓Qa,go_sem]
 | refine Qc (id:=3) Us [] (by kernel_rfl) ?_;simp [-zg,-zd,↓Qb,↓Qa,go_sem,wrapS (k:=i) (by omega)]
 | refine Qc (id:=6) Us [] (by kernel_rfl) ?_;simp [-zg,-zd,↓Qb,↓Qa,go_sem]
 | refine Qe (c:=.tmp 9) ?_;simp [-zg,-zd,↓Qb,↓Qa,go_sem];try first | (refine ⟨?_,?_⟩ <;> refine zA ?_) | (refine ⟨fun c9=>?_,fun c9=>?_⟩ <;> (try simp [B_iff,B_not] at c9))
 | refine Qe (c:=.tmp 17) ?_;simp [-zg,-zd,↓Qb,↓Qa,go_sem];try first | (refine ⟨?_,?_⟩ <;> refine zA ?_) | (refine ⟨fun c17=>?_,fun c17=>?_⟩ <;> (try simp [B_iff,B_not] at c17))
 | (refine Qf (id:=0) (Qz (ι:=Nat) (fun i:Nat=>⟨(upd (upd (upd (fun _=>.any) 0 (li cX xs)) 3 (.pd [.int .i64 k,.int .i64 v,li cX ks])) 5 (.int .i64 i)),fun _=>none⟩) (fun i=>i ≤ xs.length ∧ NoneTill (fun i=>Vm.B (TEq (nth xs i) (.mk k v ks))) i) (fun i=>xs.length - i) (0) ?_ ?_ ?_);exact ⟨Nat.zero_le _,.zero _⟩;((repeat' (first | exact Qk (by assumption) | exact Qm | refine Qj ?_ ?_ | refine Ql ?_)) <;> simp [-zg,-zd,↓Qb,↓Qa,go_sem]);rintro i ⟨hi,ht⟩)
 | (refine ⟨i + 1,⟨by omega,ht.succ (B_no c17)⟩,by first | omega | (simp;done) | (simp;omega),?_⟩;((repeat' (first | exact Qk (by assumption) | exact Qm | refine Qj ?_ ?_ | refine Ql ?_)) <;> simp [-zg,-zd,↓Qb,↓Qa,go_sem]))
 | (refine Qf ?_)
 | (refine Qr ?_;simp [-zg,-zd,↓Qb,↓Qa,go_sem])
 | (refine Qq ?_;simp [-zg,-zd,↓Qb,↓Qa,go_sem])
 | (refine Qt ?_;simp [-zg,-zd,↓Qb,↓Qa,go_sem,Tryz.results146])
 | (intro hx;refine zA ?_)
 | (refine ⟨?_,?_⟩ <;> refine zA ?_)
 | (intro hx;constructor <;> intro hs)
 | (constructor <;> intro hs)
 | (refine ⟨?_,fun hs=>?_⟩;refine zA ?_)
 | (refine ⟨fun hs=>?_,?_⟩;rotate_left;refine zA ?_;rotate_left)))
  all_goals (first
 | (rw [findI_at (p:=fun z=>Vm.B (TEq z (.mk k v ks))) ht c9 (B_yes c17)])
 | (rw [findI_none (p:=fun z=>Vm.B (TEq z (.mk k v ks))) ht (by omega)])
 | skip)
@[go_sem] def zagl:Con:=.pure fun
  | [.list n_xs c_xs,.st [.int .i64 k,.int .i64 v,.list n_ks c_ks]]=>((Is cX n_xs c_xs) ∧ (Is cX n_ks c_ks),.int .i64 (findI (fun z=>B (TEq z (.mk k v (de cX c_ks)))) (de cX c_xs)))
  | _=>(False,.any)
theorem zamq:ConOk Tryz.prog 146 zagl:=by
  refine ⟨Qo Tryz.func146 (by decide) rfl,fun args h=>?_⟩
  revert h
  dsimp only
  split
  · intro h
    obtain ⟨⟨xs,rfl,rfl⟩,⟨ks,rfl,rfl⟩⟩:=h
    try simp only [Qp] at *
    exact ⟨l5Find_pure xs _ _ ks,by simp [go_sem]⟩
  · intro h
    exact h.elim
@[go_sem] def Γy6:FuncId → Con:=ext Γy5 146 zagl
theorem Γy6_ok:∀ g,ConOk Tryz.prog g (Γy6 g):=Qn Us zamq

def hasF (x i:Int):Bool:=decide (bitsD .and .i64 (x.fdiv (2 ^ (min (IntKind.u64.wrap i).toNat 64))) 1 = 1)
theorem wrapu_nn (i:Int):0 ≤ IntKind.u64.wrap i:=by
  unfold IntKind.wrap;simp [IntKind.bits,IntKind.signed];omega

theorem l6Has_pure (x:Int) (i:Int)  : Pure Tryz.prog 145 [.int .i64 x,.int .i64 i] (.bool (hasF x i)):=by
  refine Pure.of_walk Tryz.func145 rfl (by simp [Tryz.f145]) (by simp [-zd,go_sem]) fun B hK=>?_
  (repeat' (first
 | refine Qs ?_
 | refine Qc (id:=0) Γy6_ok [] (by kernel_rfl) ?_;simp [-zg,-zd,↓Qb,↓Qa,go_sem]
 | refine Qc (id:=1) Γy6_ok [] (by kernel_rfl) ?_;simp [-zg,-zd,↓Qb,↓Qa,go_sem,wrapu_nn i,hasF]
 | (refine Qf ?_)
 | (refine Qr ?_;simp [-zg,-zd,↓Qb,↓Qa,go_sem])
 | (refine Qq ?_;simp [-zg,-zd,↓Qb,↓Qa,go_sem])
 | (refine Qt ?_;simp [-zg,-zd,↓Qb,↓Qa,go_sem,Tryz.results145])
 | (intro hx;refine zA ?_)
 | (refine ⟨?_,?_⟩ <;> refine zA ?_)
 | (intro hx;constructor <;> intro hs)
 | (constructor <;> intro hs)
 | (refine ⟨?_,fun hs=>?_⟩;refine zA ?_)
 | (refine ⟨fun hs=>?_,?_⟩;rotate_left;refine zA ?_;rotate_left)))
@[go_sem] def zaie:Con:=.pure fun
  | [.int .i64 x,.int .i64 i]=>(True,.bool (hasF x i))
  | _=>(False,.any)
theorem l6Has_pureC_ok:ConOk Tryz.prog 145 zaie:=by
  refine ⟨Qo Tryz.func145 (by decide) rfl,fun args h=>?_⟩
  revert h
  dsimp only
  split
  · intro h
    skip
    skip
    exact ⟨l6Has_pure _ _,by simp [go_sem]⟩
  · intro h
    exact h.elim
@[go_sem] def Γy7:FuncId → Con:=ext Γy6 145 zaie
theorem Γy7_ok:∀ g,ConOk Tryz.prog g (Γy7 g):=Qn Γy6_ok l6Has_pureC_ok

theorem l7Basic_pure (k:Int) (v:Int) (ks:List Tree)  : Pure Tryz.prog 143 [.st [.int .i64 k,.int .i64 v,li cX ks]] (.bool (decide (k = 2) || decide (k = 6) || decide (k = 7) || decide (k = 8))):=by
  refine Pure.of_walk Tryz.func143 rfl (by simp [Tryz.f143]) (by simp [-zd,go_sem]) fun B hK=>?_
  (repeat' (first
 | refine Qs ?_
 | refine Qc (id:=0) Γy7_ok [] (by kernel_rfl) ?_;simp [-zg,-zd,↓Qb,↓Qa,go_sem];try (refine Xg hK 1 ?_;simp [go_sem])
 | refine Qc (id:=1) Γy7_ok [6,11,16] (by kernel_rfl) ?_;simp [-zg,-zd,↓Qb,↓Qa,go_sem];try (refine ⟨fun s1a=>?_,fun s1a=>?_⟩ <;> (try simp [B_iff,B_not] at s1a) <;> try (refine ⟨fun s1b=>?_,fun s1b=>?_⟩ <;> (try simp [B_iff,B_not] at s1b) <;> try (refine ⟨fun s1c=>?_,fun s1c=>?_⟩ <;> (try simp [B_iff,B_not] at s1c) <;> try (refine ⟨fun s1d=>?_,fun s1d=>?_⟩ <;> (try simp [B_iff,B_not] at s1d)))))
 | (refine Qf ?_)
 | (refine Qr ?_;simp [-zg,-zd,↓Qb,↓Qa,go_sem])
 | (refine Qq ?_;simp [-zg,-zd,↓Qb,↓Qa,go_sem])
 | (refine Qt ?_;simp [-zg,-zd,↓Qb,↓Qa,go_sem,Tryz.results143])
 | (intro hx;refine zA ?_)
 | (refine ⟨?_,?_⟩ <;> refine zA ?_)
 | (intro hx;constructor <;> intro hs)
 | (constructor <;> intro hs)
 | (refine ⟨?_,fun hs=>?_⟩;refine zA ?_)
 | (refine ⟨fun hs=>?_,?_⟩;rotate_left;refine zA ?_;rotate_left)))
  all_goals (first
 | (simp_all;done)
 | (intros;simp_all;done)
 | skip)
@[go_sem] def zaev:Con:=.pure fun
  | [.st [.int .i64 k,.int .i64 v,.list n_ks c_ks]]=>((Is cX n_ks c_ks),.bool (decide (k = 2) || decide (k = 6) || decide (k = 7) || decide (k = 8)))
  | _=>(False,.any)
theorem zalf:ConOk Tryz.prog 143 zaev:=by
  refine ⟨Qo Tryz.func143 (by decide) rfl,fun args h=>?_⟩
  revert h
  dsimp only
  split
  · intro h
    obtain ⟨ks,rfl,rfl⟩:=h
    try simp only [Qp] at *
    exact ⟨l7Basic_pure _ _ ks,by simp [go_sem]⟩
  · intro h
    exact h.elim
@[go_sem] def Γy8:FuncId → Con:=ext Γy7 143 zaev
theorem Vg:∀ g,ConOk Tryz.prog g (Γy8 g):=Qn Γy7_ok zalf

def dualF (k:Int):Int:=if k = 4 then 5 else if k = 5 then 4 else if k = 7 then 8 else 7

theorem l5Dual_pure (k:Int)  : Pure Tryz.prog 181 [.int .i64 k] (.int .i64 (dualF k)):=by
  refine Pure.of_walk Tryz.func181 rfl (by simp [Tryz.f181]) (by simp [-zd,go_sem]) fun B hK=>?_
  (repeat' (first
 | refine Qs ?_
 | refine Qc (id:=0) Vg [] (by kernel_rfl) ?_;simp [-zg,-zd,↓Qb,↓Qa,go_sem]
 | refine Qc (id:=1) Vg [] (by kernel_rfl) ?_;simp [-zg,-zd,↓Qb,↓Qa,go_sem]
 | refine Qc (id:=2) Vg [] (by kernel_rfl) ?_;simp [-zg,-zd,↓Qb,↓Qa,go_sem]
 | refine Qc (id:=3) Vg [] (by kernel_rfl) ?_;simp [-zg,-zd,↓Qb,↓Qa,go_sem]
 | refine Qc (id:=4) Vg [] (by kernel_rfl) ?_;simp [-zg,-zd,↓Qb,↓Qa,go_sem]
 | refine Qc (id:=5) Vg [] (by kernel_rfl) ?_;simp [-zg,-zd,↓Qb,↓Qa,go_sem]
 | refine Qc (id:=6) Vg [] (by kernel_rfl) ?_;simp [-zg,-zd,↓Qb,↓Qa,go_sem]
 | refine Qc (id:=7) Vg [] (by kernel_rfl) ?_;simp [-zg,-zd,↓Qb,↓Qa,go_sem]
 | refine Qc (id:=8) Vg [] (by kernel_rfl) ?_;simp [-zg,-zd,↓Qb,↓Qa,go_sem]
 | refine Qe (c:=.tmp 4) ?_;simp [-zg,-zd,↓Qb,↓Qa,go_sem];try first | (refine ⟨?_,?_⟩ <;> refine zA ?_) | (refine ⟨fun c4=>?_,fun c4=>?_⟩ <;> (try simp [B_iff,B_not] at c4))
 | refine Qe (c:=.tmp 6) ?_;simp [-zg,-zd,↓Qb,↓Qa,go_sem];try first | (refine ⟨?_,?_⟩ <;> refine zA ?_) | (refine ⟨fun c6=>?_,fun c6=>?_⟩ <;> (try simp [B_iff,B_not] at c6))
 | refine Qe (c:=.tmp 8) ?_;simp [-zg,-zd,↓Qb,↓Qa,go_sem];try first | (refine ⟨?_,?_⟩ <;> refine zA ?_) | (refine ⟨fun c8=>?_,fun c8=>?_⟩ <;> (try simp [B_iff,B_not] at c8))
 | (refine Qf ?_)
 | (refine Qr ?_;simp [-zg,-zd,↓Qb,↓Qa,go_sem])
 | (refine Qq ?_;simp [-zg,-zd,↓Qb,↓Qa,go_sem])
 | (refine Qt ?_;simp [-zg,-zd,↓Qb,↓Qa,go_sem,Tryz.results181])
 | (intro hx;refine zA ?_)
 | (refine ⟨?_,?_⟩ <;> refine zA ?_)
 | (intro hx;constructor <;> intro hs)
 | (constructor <;> intro hs)
 | (refine ⟨?_,fun hs=>?_⟩;refine zA ?_)
 | (refine ⟨fun hs=>?_,?_⟩;rotate_left;refine zA ?_;rotate_left)))
  all_goals (first
 | (unfold dualF;simp_all;done)
 | (unfold dualF;(repeat' split) <;> omega)
 | skip)
@[go_sem] def zagm:Con:=.pure fun
  | [.int .i64 k]=>(True,.int .i64 (dualF k))
  | _=>(False,.any)
theorem zamr:ConOk Tryz.prog 181 zagm:=by
  refine ⟨Qo Tryz.func181 (by decide) rfl,fun args h=>?_⟩
  revert h
  dsimp only
  split
  · intro h
    skip
    skip
    exact ⟨l5Dual_pure _,by simp [go_sem]⟩
  · intro h
    exact h.elim
@[go_sem] def Γy9:FuncId → Con:=ext Γy8 181 zagm
theorem Γy9_ok:∀ g,ConOk Tryz.prog g (Γy9 g):=Qn Vg zamr


theorem WellF.ks1 {k v:Int} {ks:List Tree} (h:WellF (.mk k v ks)) (hk:k = 3 ∨ k = 6 ∨ k = 9 ∨ k = 10):ks.length = 1:=by
  have:=h.at.1;unfold arF at this;rw [if_neg (by omega),if_pos (by omega)] at this;omega
theorem WellF.ks2 {k v:Int} {ks:List Tree} (h:WellF (.mk k v ks)) (h1:¬ k = 1) (h2:¬ k = 2) (h3:¬ k = 3) (h6:¬ k = 6) (h9:¬ k = 9) (h10:¬ k = 10):ks.length = 2:=by
  have:=h.at.1;unfold arF at this;rw [if_neg (by omega),if_neg (by omega)] at this;split at this <;> omega
theorem take_snocX {ks:List Tree} {i:Nat} (h:i < ks.length):cat cX (ks.take i) ++ [.int .i64 (nth ks i).k,.int .i64 (nth ks i).v,.list (nth ks i).ks.length (cat cX (nth ks i).ks)] = cat cX (ks.take (i + 1)):=by
  rw [List.take_succ_eq_append_getElem h,Xu,Xv,← nth_lt h,cX_eq];rfl

@[go_sem] def Uk:Tree → D:=sX
theorem l5True_flat (x:Tree):dat (Uk x) = Uk x:=by simp [go_sem]
def zaif  : Tree → Prop:=fun _=>True
def zajq  (x:(Tree) × D):Prop:=zaif x.1 ∧ dat x.2 = Uk x.1
def zafo  (c:Any):(Tree) × D:=sel (zajq) ((.mk 1 0 []:Tree),Uk (.mk 1 0 [])) c
def zahh  (c:Any):Tree:=(zafo c).1
theorem l5True_okD   (c:Any):zajq (zafo c):=by
  have hx:zaif (.mk 1 0 []):=trivial
  exact Zi (p:=zajq) (x0:=((.mk 1 0 []:Tree),Uk (.mk 1 0 []))) ⟨hx,l5True_flat _⟩ c
theorem l5True_ret  {e_:Exit} {S_:St} (x:Tree) (he_:e_ = .ret ∨ e_ = .normal)
    (h1:(Qg Tryz.prog S_ Tryz.f149.results.toList).1 ∧ dat (resD (Qg Tryz.prog S_ Tryz.f149.results.toList).2.1) = Uk x) (hg:zaif x) :
    retR Tryz.prog Tryz.f149 (fun c=>((zafo c).2,fun _=>none)) e_ S_ :=
  Ze (good:=zajq) (enc:=fun x:(Tree) × D=>x.2) (x,resD (Qg Tryz.prog S_ Tryz.f149.results.toList).2.1) he_ ⟨h1.1,rfl⟩ ⟨hg,h1.2⟩
theorem l5True_pure   : SpecR Tryz.prog 149 [] (fun _=>none) (fun c=>((zafo c).2,fun _=>none)):=by
  refine SpecR.of_walk Tryz.func149 rfl (by simp [Tryz.f149]) fun B=>?_
  (repeat' (first
 | refine Qs ?_
 | refine Qc (id:=0) Γy9_ok [] (by kernel_rfl) ?_;simp [-zg,-zd,↓Qb,↓Qa,go_sem]
 | refine Qc (id:=1) Γy9_ok [] (by kernel_rfl) ?_;simp [-zg,-zd,↓Qb,↓Qa,go_sem]
 | (refine Qf ?_)
 | (refine Qr ?_;simp [-zg,-zd,↓Qb,↓Qa,go_sem])
 | (refine Qq ?_;simp [-zg,-zd,↓Qb,↓Qa,go_sem])
 | (refine Qt ?_;try simp [-zg,-zd,↓Qb,↓Qa,go_sem,Tryz.results149])
 | (intro hx;refine zA ?_)
 | (intro hx;change retR _ _ _ _ _)
 | (refine ⟨?_,?_⟩ <;> refine zA ?_)
 | (intro hx;constructor <;> intro hs)
 | (constructor <;> intro hs)
 | (refine ⟨?_,fun hs=>?_⟩;refine zA ?_)
 | (refine ⟨fun hs=>?_,?_⟩;rotate_left;refine zA ?_;rotate_left)))
  all_goals (first
 | (refine l5True_ret (.mk 1 0 []) ?_ ?_ ?_;(first | exact Or.inl rfl | exact Or.inr rfl);(focus (simp [-zg,-zd,↓Qb,↓Qa,go_sem,Tryz.results149,dat,li,Xh];done));(focus ((trivial);done)))
 | skip)
@[go_sem] def l5TrueC:Con:=.rel fun args H=>match args with
  | []=>(True,fun c=>(Uk (zahh c),H))
  | _=>(False,fun _=>(.any,H))
theorem l5TrueC_ok:ConOk Tryz.prog 149 l5TrueC:=by
  refine ⟨Qo Tryz.func149 (by decide) rfl,fun args H h=>?_⟩
  revert h
  dsimp only
  split
  · intro h
    skip
    try simp only [Qp] at *
    exact SpecR.enc ((SpecR.frame0 (l5True_pure ) (H:=H)).shut) fun c=>Prod.ext (l5True_okD  c).2.symm rfl
  · intro h
    exact h.elim
@[go_sem] def Γy10:FuncId → Con:=ext Γy9 149 l5TrueC
theorem Γy10_ok:∀ g,ConOk Tryz.prog g (Γy10 g):=Qn Γy9_ok l5TrueC_ok

@[go_sem] def Uo:Tree → D:=sX
theorem l5Not_flat (x:Tree):dat (Uo x) = Uo x:=by simp [go_sem]
def zalk (k:Int) (v:Int) (E:D):Tree → Prop:=fun _=>True
def l5Not_gd (k:Int) (v:Int) (E:D) (x:(Tree) × D):Prop:=zalk k v E x.1 ∧ dat x.2 = Uo x.1
def zahj (k:Int) (v:Int) (E:D) (c:Any):(Tree) × D:=sel (l5Not_gd k v E) ((.mk 1 0 []:Tree),Uo (.mk 1 0 [])) c
def l5Not_sel (k:Int) (v:Int) (E:D) (c:Any):Tree:=(zahj k v E c).1
theorem l5Not_okD (k:Int) (v:Int) (E:D) (hE:IsK E) (c:Any):l5Not_gd k v E (zahj k v E c):=by
  have hx:zalk k v E (.mk 1 0 []):=trivial
  exact Zi (p:=l5Not_gd k v E) (x0:=((.mk 1 0 []:Tree),Uo (.mk 1 0 []))) ⟨hx,l5Not_flat _⟩ c
theorem l5Not_ret (k:Int) (v:Int) (E:D) {e_:Exit} {S_:St} (x:Tree) (he_:e_ = .ret ∨ e_ = .normal)
    (h1:(Qg Tryz.prog S_ Tryz.f180.results.toList).1 ∧ dat (resD (Qg Tryz.prog S_ Tryz.f180.results.toList).2.1) = Uo x) (hg:zalk k v E x) :
    retR Tryz.prog Tryz.f180 (fun c=>((zahj k v E c).2,fun _=>none)) e_ S_ :=
  Ze (good:=l5Not_gd k v E) (enc:=fun x:(Tree) × D=>x.2) (x,resD (Qg Tryz.prog S_ Tryz.f180.results.toList).2.1) he_ ⟨h1.1,rfl⟩ ⟨hg,h1.2⟩
theorem l5Not_pure (k:Int) (v:Int) (E:D) (hE:IsK E):SpecR Tryz.prog 180 [.st [.int .i64 k,.int .i64 v,E]] (fun _=>none) (fun c=>((zahj k v E c).2,fun _=>none)):=by
  refine SpecR.of_walk Tryz.func180 rfl (by simp [Tryz.f180]) fun B=>?_
  rcases hE with rfl | ⟨ks,rfl⟩
  all_goals (repeat' (first
 | refine Qs ?_
 | refine Qc (id:=0) Γy10_ok [] (by kernel_rfl) ?_;simp [-zg,-zd,↓Qb,↓Qa,go_sem];try (refine Xw 1 ?_;simp [go_sem,dat,li])
 | refine Qc (id:=1) Γy10_ok [] (by kernel_rfl) ?_;simp [-zg,-zd,↓Qb,↓Qa,go_sem]
 | (refine Qf ?_)
 | (refine Qr ?_;simp [-zg,-zd,↓Qb,↓Qa,go_sem])
 | (refine Qq ?_;simp [-zg,-zd,↓Qb,↓Qa,go_sem])
 | (refine Qt ?_;try simp [-zg,-zd,↓Qb,↓Qa,go_sem,Tryz.results180])
 | (intro hx;refine zA ?_)
 | (intro hx;change retR _ _ _ _ _)
 | (refine ⟨?_,?_⟩ <;> refine zA ?_)
 | (intro hx;constructor <;> intro hs)
 | (constructor <;> intro hs)
 | (refine ⟨?_,fun hs=>?_⟩;refine zA ?_)
 | (refine ⟨fun hs=>?_,?_⟩;rotate_left;refine zA ?_;rotate_left)))
  all_goals (first
 | (refine l5Not_ret _ _ _ (.mk 3 0 [.mk k v []]) ?_ ?_ ?_;(first | exact Or.inl rfl | exact Or.inr rfl);(focus (simp [-zg,-zd,↓Qb,↓Qa,go_sem,Tryz.results180,dat,datL_map,li,Xk,cX_mk,Xh];done));(focus ((trivial);done)))
 | (refine l5Not_ret _ _ _ (.mk 3 0 [.mk k v ks]) ?_ ?_ ?_;(first | exact Or.inl rfl | exact Or.inr rfl);(focus (simp [-zg,-zd,↓Qb,↓Qa,go_sem,Tryz.results180,dat,datL_map,li,Xk,cX_mk,Xh];done));(focus ((trivial);done)))
 | skip)
@[go_sem] def l5NotC:Con:=.rel fun args H=>match args with
  | [.st [.int .i64 k,.int .i64 v,E]]=>((IsK E),fun c=>(Uo (l5Not_sel k v E c),H))
  | _=>(False,fun _=>(.any,H))
theorem l5NotC_ok:ConOk Tryz.prog 180 l5NotC:=by
  refine ⟨Qo Tryz.func180 (by decide) rfl,fun args H h=>?_⟩
  revert h
  dsimp only
  split
  · intro h
    have hE:=h
    try simp only [Qp] at *
    exact SpecR.enc ((SpecR.frame0 (l5Not_pure _ _ _ hE) (H:=H)).shut) fun c=>Prod.ext (l5Not_okD _ _ _ hE c).2.symm rfl
  · intro h
    exact h.elim
@[go_sem] def Γy11:FuncId → Con:=ext Γy10 180 l5NotC
theorem Γy11_ok:∀ g,ConOk Tryz.prog g (Γy11 g):=Qn Γy10_ok l5NotC_ok

@[go_sem] def Vx:Tree → D:=sX
theorem l5Copy_flat (x:Tree):dat (Vx x) = Vx x:=by simp [go_sem]
def zacp (k:Int) (v:Int) (ks:List Tree):Tree → Prop:=fun x=>x = .mk k v ks
def zajs (k:Int) (v:Int) (ks:List Tree) (x:(Tree) × D):Prop:=zacp k v ks x.1 ∧ dat x.2 = Vx x.1
def zaco (k:Int) (v:Int) (ks:List Tree) (c:Any):(Tree) × D:=sel (zajs k v ks) ((.mk k v ks:Tree),Vx (.mk k v ks)) c
def zahl (k:Int) (v:Int) (ks:List Tree) (c:Any):Tree:=(zaco k v ks c).1
theorem zalo (k:Int) (v:Int) (ks:List Tree) (hw:WellF (.mk k v ks)) (c:Any):zajs k v ks (zaco k v ks c):=by
  have hx:zacp k v ks (.mk k v ks):=rfl
  exact Zi (p:=zajs k v ks) (x0:=((.mk k v ks:Tree),Vx (.mk k v ks))) ⟨hx,l5Copy_flat _⟩ c
theorem l5Copy_ok (k:Int) (v:Int) (ks:List Tree) (hw:WellF (.mk k v ks)) (c:Any):zacp k v ks (zahl k v ks c):=(zalo k v ks hw c).1
theorem l5Copy_ret (k:Int) (v:Int) (ks:List Tree) {e_:Exit} {S_:St} (x:Tree) (he_:e_ = .ret ∨ e_ = .normal)
    (h1:(Qg Tryz.prog S_ Tryz.f179.results.toList).1 ∧ dat (resD (Qg Tryz.prog S_ Tryz.f179.results.toList).2.1) = Vx x) (hg:zacp k v ks x) :
    retR Tryz.prog Tryz.f179 (fun c=>((zaco k v ks c).2,fun _=>none)) e_ S_ :=
  Ze (good:=zajs k v ks) (enc:=fun x:(Tree) × D=>x.2) (x,resD (Qg Tryz.prog S_ Tryz.f179.results.toList).2.1) he_ ⟨h1.1,rfl⟩ ⟨hg,h1.2⟩
@[go_sem] def l5CopyCn (n_:Nat):Con:=.rel fun args H=>match args with
  | [.st [.int .i64 k,.int .i64 v,.list n_ks c_ks]]=>((Is cX n_ks c_ks) ∧ (WellF (.mk k v (de cX c_ks))) ∧ (tsz (.mk k v (de cX c_ks)) < n_),fun c=>(Vx (zahl k v (de cX c_ks) c),H))
  | _=>(False,fun _=>(.any,H))
theorem l5CopyCn_ok {n_:Nat} (ih:∀ (k:Int) (v:Int) (ks:List Tree) (hw:WellF (.mk k v ks)) (hm_:tsz (.mk k v ks) < n_),SpecR Tryz.prog 179 [.st [.int .i64 k,.int .i64 v,li cX ks]] (fun _=>none) (fun c=>((zaco k v ks c).2,fun _=>none))):ConOk Tryz.prog 179 (l5CopyCn n_):=by
  refine ⟨Qo Tryz.func179 (by decide) rfl,fun args H h=>?_⟩
  revert h
  dsimp only
  split
  · intro h
    obtain ⟨⟨ks,rfl,rfl⟩,hw,hm_⟩:=h
    try simp only [Qp] at *
    exact SpecR.enc ((SpecR.frame0 (ih _ _ ks hw hm_) (H:=H)).shut) fun c=>Prod.ext (zalo _ _ _ hw c).2.symm rfl
  · intro h
    exact h.elim
set_option maxHeartbeats 4000000 in
theorem l5Copy_rec:∀ (n_:Nat),∀ (k:Int) (v:Int) (ks:List Tree) (hw:WellF (.mk k v ks)) (hm_:tsz (.mk k v ks) < n_),SpecR Tryz.prog 179 [.st [.int .i64 k,.int .i64 v,li cX ks]] (fun _=>none) (fun c=>((zaco k v ks c).2,fun _=>none)):=by
  intro n_
  induction n_ with
  | zero=>intros;omega
  | succ n_ ih =>
  intro k v ks hw hm_
  have Γr_ok:=Qn Γy11_ok (l5CopyCn_ok ih)
  refine SpecR.of_walk Tryz.func179 rfl (by simp [Tryz.f179]) fun B=>?_
  obtain ⟨w1,w2,w3,w4⟩:=hw.at;have w5:=arF_le k
  all_goals (repeat' (first
 | refine Qs ?_
 | refine Qc (id:=0) Γr_ok [] (by kernel_rfl) ?_;simp [-zg,-zd,↓Qb,↓Qa,go_sem];try (refine Xw 1 ?_;simp [go_sem])
 | (refine Uy 1 2 ⟨rfl,rfl⟩ fun hm=>?_);refine Qc (id:=1) Γr_ok [] (by kernel_rfl) ?_;simp [-zg,-zd,↓Qb,↓Qa,go_sem];try ((refine AW_boxNil2 3 3 rfl ?_);(refine Jd 3 rfl fun qb hqb=>?_);(clear hqb);(refine Qx (fun H1=>H1 qb = some [.int .i64 k,.int .i64 v,.fr 3 0 (cat cX (ks.take 0))]) (by simp [go_sem,Xh]) fun H1 w1=>?_))
 | refine Qc (id:=2) Γr_ok [] (by kernel_rfl) ?_;simp [-zg,-zd,↓Qb,↓Qa,go_sem]
 | refine Qc (id:=3) Γr_ok [] (by kernel_rfl) ?_;simp [-zg,-zd,↓Qb,↓Qa,go_sem]
 | ((have qt:=Xq (k:=k) (v:=v) c14);(have qw:=w4 q.1 c14);(refine Zo qb 2 (all:=[.int .i64 k,.int .i64 v,.fr 3 q.1 (cat cX (ks.take q.1))]) g2 rfl fun u cu ju hu hcu hdu=>?_);(have uq:¬ u = qb:=(by intro e;rw [e] at hu;dsimp only at hu;rw [g2] at hu;cases hu));(clear hu));refine Zs (id:=5) Γr_ok mixed [(qb,[.int .i64 k,.int .i64 v,.sl u 3 0 q.1 cu])] [] [] (by kernel_rfl) (by kernel_rfl) (by simp [-zg,-zd,↓Qb,↓Qa,go_sem,c14,Qi c14,zsP c14,qw,uq,Ne.symm uq,Tree.eta,(show tsz (nth ks q.1) < n_ by omega),(show q.1 ≤ 9223372036854775806 by omega),(show 2 * (q.1 + 1) * 40 ≤ 281474976710656 by omega),hdu,(show min q.1 ks.length = q.1 by omega)]) (by simp [-zg,-zd,↓Qb,↓Qa,go_sem,c14,Qi c14,zsP c14,qw,uq,Ne.symm uq,Tree.eta,(show tsz (nth ks q.1) < n_ by omega),(show q.1 ≤ 9223372036854775806 by omega),(show 2 * (q.1 + 1) * 40 ≤ 281474976710656 by omega),hdu,(show min q.1 ks.length = q.1 by omega)]) ?_;simp [-zg,-zd,↓Qb,↓Qa,go_sem,c14,Qi c14,zsP c14,qw,uq,Ne.symm uq,Tree.eta,(show tsz (nth ks q.1) < n_ by omega),(show q.1 ≤ 9223372036854775806 by omega),(show 2 * (q.1 + 1) * 40 ≤ 281474976710656 by omega),hdu,(show min q.1 ks.length = q.1 by omega)];try ((intro c5);(have z0:=l5Copy_ok (nth ks q.1).k (nth ks q.1).v (nth ks q.1).ks (by rw [Tree.eta];exact qw) c5);(simp only [zacp] at z0);(rw [Tree.eta] at z0);(generalize zahl (nth ks q.1).k (nth ks q.1).v (nth ks q.1).ks c5 = z at *);(subst z0);(refine Qx (fun H2=>H2 qb = some [.int .i64 k,.int .i64 v,.fr 3 (q.1 + 1) (cat cX (ks.take (q.1 + 1)))]) (by simp [upd,uq,Ne.symm uq,take_snocX c14]) fun H2 y1=>?_))
 | refine Qc (id:=4) Γr_ok [] (by kernel_rfl) ?_;simp [-zg,-zd,↓Qb,↓Qa,go_sem,wrapS (k:=q.1) (by omega)]
 | ((obtain ⟨i,H5⟩:=q);(dsimp only at *);(obtain rfl:i = ks.length:=by omega));refine Qc (id:=6) Γr_ok [] (by kernel_rfl) ?_;simp [-zg,-zd,↓Qb,↓Qa,go_sem,g2]
 | refine Qe (c:=.tmp 14) ?_;simp [-zg,-zd,↓Qb,↓Qa,go_sem];try first | (refine ⟨?_,?_⟩ <;> refine zA ?_) | (refine ⟨fun c14=>?_,fun c14=>?_⟩ <;> (try simp [B_iff,B_not] at c14))
 | (refine Qf (id:=0) (Qz (ι:=Nat × Hp) (fun q:Nat × Hp=>⟨(upd (upd (upd (upd (fun _=>.any) 1 (.pd [.int .i64 k,.int .i64 v,li cX ks])) 2 (.box [.int .i64 0,.int .i64 0,.nil])) 3 (.ptr qb 0)) 4 (.int .i64 q.1)),q.2⟩) (fun q=>q.1 ≤ ks.length ∧ q.2 qb = some [.int .i64 k,.int .i64 v,.fr 3 q.1 (cat cX (ks.take q.1))]) (fun q=>ks.length - q.1) ((0,H1)) ?_ ?_ ?_);exact ⟨Nat.zero_le _,w1⟩;((repeat' (first | exact Qk (by assumption) | exact Qm | refine Qj ?_ ?_ | refine Ql ?_)) <;> simp [-zg,-zd,↓Qb,↓Qa,go_sem]);rintro q ⟨g1,g2⟩)
 | (refine ⟨(q.1 + 1,H2),⟨by dsimp only;omega,y1⟩,by first | omega | (simp;done) | (simp;omega),?_⟩;((repeat' (first | exact Qk (by assumption) | exact Qm | refine Qj ?_ ?_ | refine Ql ?_)) <;> simp [-zg,-zd,↓Qb,↓Qa,go_sem]))
 | (refine Qf ?_)
 | (refine Qr ?_;simp [-zg,-zd,↓Qb,↓Qa,go_sem])
 | (refine Qq ?_;simp [-zg,-zd,↓Qb,↓Qa,go_sem])
 | (refine Qt ?_;try simp [-zg,-zd,↓Qb,↓Qa,go_sem,Tryz.results179])
 | (intro hx;refine zA ?_)
 | (intro hx;change retR _ _ _ _ _)
 | (refine ⟨?_,?_⟩ <;> refine zA ?_)
 | (intro hx;constructor <;> intro hs)
 | (constructor <;> intro hs)
 | (refine ⟨?_,fun hs=>?_⟩;refine zA ?_)
 | (refine ⟨fun hs=>?_,?_⟩;rotate_left;refine zA ?_;rotate_left)))
  all_goals (first
 | (refine l5Copy_ret _ _ _ (.mk k v ks) ?_ ?_ ?_;(first | exact Or.inl rfl | exact Or.inr rfl);(focus (simp [-zg,-zd,↓Qb,↓Qa,go_sem,Tryz.results179,dat,datL_map,li,List.take_length];done));(focus ((rfl);done)))
 | skip)
theorem l5Copy_pure (k:Int) (v:Int) (ks:List Tree) (hw:WellF (.mk k v ks)):SpecR Tryz.prog 179 [.st [.int .i64 k,.int .i64 v,li cX ks]] (fun _=>none) (fun c=>((zaco k v ks c).2,fun _=>none)):=l5Copy_rec (tsz (.mk k v ks) + 1) k v ks hw (by omega)
@[go_sem] def l5CopyC:Con:=.rel fun args H=>match args with
  | [.st [.int .i64 k,.int .i64 v,.list n_ks c_ks]]=>((Is cX n_ks c_ks) ∧ (WellF (.mk k v (de cX c_ks))),fun c=>(Vx (zahl k v (de cX c_ks) c),H))
  | _=>(False,fun _=>(.any,H))
theorem l5CopyC_ok:ConOk Tryz.prog 179 l5CopyC:=by
  refine ⟨Qo Tryz.func179 (by decide) rfl,fun args H h=>?_⟩
  revert h
  dsimp only
  split
  · intro h
    obtain ⟨⟨ks,rfl,rfl⟩,hw⟩:=h
    try simp only [Qp] at *
    exact SpecR.enc ((SpecR.frame0 (l5Copy_pure _ _ ks hw) (H:=H)).shut) fun c=>Prod.ext (zalo _ _ _ hw c).2.symm rfl
  · intro h
    exact h.elim
@[go_sem] def Γy12:FuncId → Con:=ext Γy11 179 l5CopyC
theorem Γy12_ok:∀ g,ConOk Tryz.prog g (Γy12 g):=Qn Γy11_ok l5CopyC_ok

@[go_sem] def Vw:Tree → D:=sX
theorem l5Push_flat (x:Tree):dat (Vw x) = Vw x:=by simp [go_sem]
def zaih (k:Int) (v:Int) (ks:List Tree) (neg:Bool):Tree → Prop:=fun _=>True
def zajr (k:Int) (v:Int) (ks:List Tree) (neg:Bool) (x:(Tree) × D):Prop:=zaih k v ks neg x.1 ∧ dat x.2 = Vw x.1
def zacn (k:Int) (v:Int) (ks:List Tree) (neg:Bool) (c:Any):(Tree) × D:=sel (zajr k v ks neg) ((.mk 1 0 []:Tree),Vw (.mk 1 0 [])) c
def Ul (k:Int) (v:Int) (ks:List Tree) (neg:Bool) (c:Any):Tree:=(zacn k v ks neg c).1
theorem l5Push_okD (k:Int) (v:Int) (ks:List Tree) (neg:Bool) (hw:WellF (.mk k v ks)) (c:Any):zajr k v ks neg (zacn k v ks neg c):=by
  have hx:zaih k v ks neg (.mk 1 0 []):=trivial
  exact Zi (p:=zajr k v ks neg) (x0:=((.mk 1 0 []:Tree),Vw (.mk 1 0 []))) ⟨hx,l5Push_flat _⟩ c
theorem Um (k:Int) (v:Int) (ks:List Tree) (neg:Bool) {e_:Exit} {S_:St} (x:Tree) (he_:e_ = .ret ∨ e_ = .normal)
    (h1:(Qg Tryz.prog S_ Tryz.f144.results.toList).1 ∧ dat (resD (Qg Tryz.prog S_ Tryz.f144.results.toList).2.1) = Vw x) (hg:zaih k v ks neg x) :
    retR Tryz.prog Tryz.f144 (fun c=>((zacn k v ks neg c).2,fun _=>none)) e_ S_ :=
  Ze (good:=zajr k v ks neg) (enc:=fun x:(Tree) × D=>x.2) (x,resD (Qg Tryz.prog S_ Tryz.f144.results.toList).2.1) he_ ⟨h1.1,rfl⟩ ⟨hg,h1.2⟩
@[go_sem] def l5PushCn (n_:Nat):Con:=.rel fun args H=>match args with
  | [.st [.int .i64 k,.int .i64 v,.list n_ks c_ks],.bool neg]=>((Is cX n_ks c_ks) ∧ (WellF (.mk k v (de cX c_ks))) ∧ (tsz (.mk k v (de cX c_ks)) < n_),fun c=>(Vw (Ul k v (de cX c_ks) neg c),H))
  | _=>(False,fun _=>(.any,H))
theorem l5PushCn_ok {n_:Nat} (ih:∀ (k:Int) (v:Int) (ks:List Tree) (neg:Bool) (hw:WellF (.mk k v ks)) (hm_:tsz (.mk k v ks) < n_),SpecR Tryz.prog 144 [.st [.int .i64 k,.int .i64 v,li cX ks],.bool neg] (fun _=>none) (fun c=>((zacn k v ks neg c).2,fun _=>none))):ConOk Tryz.prog 144 (l5PushCn n_):=by
  refine ⟨Qo Tryz.func144 (by decide) rfl,fun args H h=>?_⟩
  revert h
  dsimp only
  split
  · intro h
    obtain ⟨⟨ks,rfl,rfl⟩,hw,hm_⟩:=h
    try simp only [Qp] at *
    exact SpecR.enc ((SpecR.frame0 (ih _ _ ks _ hw hm_) (H:=H)).shut) fun c=>Prod.ext (l5Push_okD _ _ _ _ hw c).2.symm rfl
  · intro h
    exact h.elim
set_option maxHeartbeats 8000000 in
theorem l5Push_rec:∀ (n_:Nat),∀ (k:Int) (v:Int) (ks:List Tree) (neg:Bool) (hw:WellF (.mk k v ks)) (hm_:tsz (.mk k v ks) < n_),SpecR Tryz.prog 144 [.st [.int .i64 k,.int .i64 v,li cX ks],.bool neg] (fun _=>none) (fun c=>((zacn k v ks neg c).2,fun _=>none)):=by
  intro n_
  induction n_ with
  | zero=>intros;omega
  | succ n_ ih =>
  intro k v ks neg hw hm_
  have Γr_ok:=Qn Γy12_ok (l5PushCn_ok ih)
  refine SpecR.of_walk Tryz.func144 rfl (by simp [Tryz.f144]) fun B=>?_
  have hk1:=hw.ks1;have hk2:=hw.ks2;have w4:=hw.at.2.2.2
  all_goals (repeat' (first
 | refine Qs ?_
 | refine Qc (id:=0) Γr_ok [] (by kernel_rfl) ?_;simp [-zg,-zd,↓Qb,↓Qa,go_sem];try (refine Xw 2 ?_;simp [go_sem])
 | refine Qc (id:=1) Γr_ok [] (by kernel_rfl) ?_;simp [-zg,-zd,↓Qb,↓Qa,go_sem]
 | refine Qc (id:=2) Γr_ok [] (by kernel_rfl) ?_;simp [-zg,-zd,↓Qb,↓Qa,go_sem]
 | refine Qc (id:=3) Γr_ok [] (by kernel_rfl) ?_;simp [-zg,-zd,↓Qb,↓Qa,go_sem]
 | refine Qc (id:=4) Γr_ok [] (by kernel_rfl) ?_;simp [-zg,-zd,↓Qb,↓Qa,go_sem]
 | refine Qc (id:=5) Γr_ok [] (by kernel_rfl) ?_;simp [-zg,-zd,↓Qb,↓Qa,go_sem];try (intro c5)
 | refine Qc (id:=6) Γr_ok [] (by kernel_rfl) ?_;simp [-zg,-zd,↓Qb,↓Qa,go_sem]
 | refine Qc (id:=7) Γr_ok [] (by kernel_rfl) ?_;simp [-zg,-zd,↓Qb,↓Qa,go_sem]
 | ((have ql:=hk1 (by omega));(have qk:0 < ks.length:=(by omega));(have qt:=Xq (k:=k) (v:=v) qk);(have qw:=w4 0 qk));refine Qc (id:=8) Γr_ok [] (by kernel_rfl) ?_;simp [-zg,-zd,↓Qb,↓Qa,go_sem,qk,Qi qk,zsP qk,Jc (f:=cX) qk,(show 3 ≤ ks.length * 3 by omega),(show tsz (nth ks 0) < n_ by omega),Tree.eta,qw];try (intro c8;generalize Ul (nth ks 0).k (nth ks 0).v (nth ks 0).ks (!neg) c8 = z8 at *)
 | refine Qc (id:=9) Γr_ok [] (by kernel_rfl) ?_;simp [-zg,-zd,↓Qb,↓Qa,go_sem]
 | ((have ql:=hk1 (by omega));(have qk:0 < ks.length:=(by omega));(have qt:=Xq (k:=k) (v:=v) qk);(have qw:=w4 0 qk));refine Qc (id:=10) Γr_ok [] (by kernel_rfl) ?_;simp [-zg,-zd,↓Qb,↓Qa,go_sem,qk,Qi qk,zsP qk,Jc (f:=cX) qk,(show 3 ≤ ks.length * 3 by omega),(show tsz (nth ks 0) < n_ by omega),Tree.eta,qw];try (intro c10;generalize Ul (nth ks 0).k (nth ks 0).v (nth ks 0).ks neg c10 = z10 at *)
 | refine Qc (id:=11) Γr_ok [] (by kernel_rfl) ?_;simp [-zg,-zd,↓Qb,↓Qa,go_sem]
 | refine Qc (id:=12) Γr_ok [] (by kernel_rfl) ?_;simp [-zg,-zd,↓Qb,↓Qa,go_sem]
 | ((have ql:=hk1 (by omega));(have qk:0 < ks.length:=(by omega));(have qt:=Xq (k:=k) (v:=v) qk);(have qw:=w4 0 qk));refine Qc (id:=13) Γr_ok [] (by kernel_rfl) ?_;simp [-zg,-zd,↓Qb,↓Qa,go_sem,qk,Qi qk,zsP qk,Jc (f:=cX) qk,(show 3 ≤ ks.length * 3 by omega),(show tsz (nth ks 0) < n_ by omega),Tree.eta,qw];try (intro c13;generalize Ul (nth ks 0).k (nth ks 0).v (nth ks 0).ks neg c13 = z13 at *;refine Xw 5 ?_;simp [go_sem])
 | refine Qc (id:=14) Γr_ok [] (by kernel_rfl) ?_;simp [-zg,-zd,↓Qb,↓Qa,go_sem]
 | refine Zs (id:=15) Γr_ok mixed [] [] [] (by kernel_rfl) (by kernel_rfl) (by simp [-zg,-zd,↓Qb,↓Qa,go_sem]) (by simp [-zg,-zd,↓Qb,↓Qa,go_sem]) ?_;simp [-zg,-zd,↓Qb,↓Qa,go_sem];try (intro c15;generalize zahh c15 = z15 at *)
 | refine Zs (id:=16) Γr_ok mixed [] [] [] (by kernel_rfl) (by kernel_rfl) (by simp [-zg,-zd,↓Qb,↓Qa,go_sem]) (by simp [-zg,-zd,↓Qb,↓Qa,go_sem]) ?_;simp [-zg,-zd,↓Qb,↓Qa,go_sem];try (intro c16 c16';generalize zahh c16 = z16 at *)
 | refine Qc (id:=17) Γr_ok [] (by kernel_rfl) ?_;simp [-zg,-zd,↓Qb,↓Qa,go_sem]
 | refine Qc (id:=18) Γr_ok [] (by kernel_rfl) ?_;simp [-zg,-zd,↓Qb,↓Qa,go_sem]
 | refine Qc (id:=19) Γr_ok [] (by kernel_rfl) ?_;simp [-zg,-zd,↓Qb,↓Qa,go_sem]
 | ((have ql:=hk2 (by omega) (by omega) (by omega) (by omega) (by omega) (by omega));(have qk:0 < ks.length:=(by omega));(have qj:1 < ks.length:=(by omega));(have qt:=Xq (k:=k) (v:=v) qk);(have qu:=Xq (k:=k) (v:=v) qj);(have qw:=w4 0 qk);(have qx:=w4 1 qj));refine Zs (id:=20) Γr_ok mixed [] [] [2,1] (by kernel_rfl) (by kernel_rfl) (by simp [-zg,-zd,↓Qb,↓Qa,go_sem,qk,Qi qk,zsP qk,qj,Jc (f:=cX) qk,(show 3 ≤ ks.length * 3 by omega),(show (cat cX ks).drop 3 = cat cX (ks.drop 1) from Jr (f:=cX) (sz:=3) ks 1),(show 3 ≤ ks.length * 3 - 3 by omega),(show 3 ≤ (ks.length - 1) * 3 by omega),(show (1:Int) < (ks.length:Int) by omega),zsP qj,(show tsz (nth ks 0) < n_ by omega),(show tsz (nth ks 1) < n_ by omega),Tree.eta,qw,qx]) (by simp [-zg,-zd,↓Qb,↓Qa,go_sem,qk,Qi qk,zsP qk,qj,Jc (f:=cX) qk,(show 3 ≤ ks.length * 3 by omega),(show (cat cX ks).drop 3 = cat cX (ks.drop 1) from Jr (f:=cX) (sz:=3) ks 1),(show 3 ≤ ks.length * 3 - 3 by omega),(show 3 ≤ (ks.length - 1) * 3 by omega),(show (1:Int) < (ks.length:Int) by omega),zsP qj,(show tsz (nth ks 0) < n_ by omega),(show tsz (nth ks 1) < n_ by omega),Tree.eta,qw,qx]) ?_;simp [-zg,-zd,↓Qb,↓Qa,go_sem,qk,Qi qk,zsP qk,qj,Jc (f:=cX) qk,(show 3 ≤ ks.length * 3 by omega),(show (cat cX ks).drop 3 = cat cX (ks.drop 1) from Jr (f:=cX) (sz:=3) ks 1),(show 3 ≤ ks.length * 3 - 3 by omega),(show 3 ≤ (ks.length - 1) * 3 by omega),(show (1:Int) < (ks.length:Int) by omega),zsP qj,(show tsz (nth ks 0) < n_ by omega),(show tsz (nth ks 1) < n_ by omega),Tree.eta,qw,qx];try (intro c20 c20';generalize Ul (nth ks 0).k (nth ks 0).v (nth ks 0).ks neg c20 = z20 at *;generalize Ul (nth ks 1).k (nth ks 1).v (nth ks 1).ks neg c20' = y20 at *)
 | refine Qe (c:=.tmp 9) ?_;simp [-zg,-zd,↓Qb,↓Qa,go_sem];try first | (refine ⟨?_,?_⟩ <;> refine zA ?_) | (refine ⟨fun c9=>?_,fun c9=>?_⟩ <;> (try simp [B_iff,B_not] at c9))
 | refine Qe (c:=.tmp 12) ?_;simp [-zg,-zd,↓Qb,↓Qa,go_sem];try first | (refine ⟨?_,?_⟩ <;> refine zA ?_) | (refine ⟨fun c12=>?_,fun c12=>?_⟩ <;> (try simp [B_iff,B_not] at c12))
 | refine Qe (c:=.tmp 24) ?_;simp [-zg,-zd,↓Qb,↓Qa,go_sem];try first | (refine ⟨?_,?_⟩ <;> refine zA ?_) | (refine ⟨fun c24=>?_,fun c24=>?_⟩ <;> (try simp [B_iff,B_not] at c24))
 | refine Qe (c:=.tmp 33) ?_;simp [-zg,-zd,↓Qb,↓Qa,go_sem];try first | (refine ⟨?_,?_⟩ <;> refine zA ?_) | (refine ⟨fun c33=>?_,fun c33=>?_⟩ <;> (try simp [B_iff,B_not] at c33))
 | refine Qe (c:=.tmp 43) ?_;simp [-zg,-zd,↓Qb,↓Qa,go_sem];try first | (refine ⟨?_,?_⟩ <;> refine zA ?_) | (refine ⟨fun c43=>?_,fun c43=>?_⟩ <;> (try simp [B_iff,B_not] at c43))
 | refine Qe (c:=.tmp 56) ?_;simp [-zg,-zd,↓Qb,↓Qa,go_sem];try first | (refine ⟨?_,?_⟩ <;> refine zA ?_) | (refine ⟨fun c56=>?_,fun c56=>?_⟩ <;> (try simp [B_iff,B_not] at c56))
 | refine Qe (c:=.tmp 68) ?_;simp [-zg,-zd,↓Qb,↓Qa,go_sem];try first | (refine ⟨?_,?_⟩ <;> refine zA ?_) | (refine ⟨fun c68=>?_,fun c68=>?_⟩ <;> (try simp [B_iff,B_not] at c68))
 | (refine Qf ?_)
 | (refine Qr ?_;simp [-zg,-zd,↓Qb,↓Qa,go_sem])
 | (refine Qq ?_;simp [-zg,-zd,↓Qb,↓Qa,go_sem])
 | (refine Qt ?_;try simp [-zg,-zd,↓Qb,↓Qa,go_sem,Tryz.results144])
 | (intro hx;refine zA ?_)
 | (intro hx;change retR _ _ _ _ _)
 | (refine ⟨?_,?_⟩ <;> refine zA ?_)
 | (intro hx;constructor <;> intro hs)
 | (constructor <;> intro hs)
 | (refine ⟨?_,fun hs=>?_⟩;refine zA ?_)
 | (refine ⟨fun hs=>?_,?_⟩;rotate_left;refine zA ?_;rotate_left)))
  all_goals (first
 | (refine Um _ _ _ _ (.mk k v []) ?_ ?_ ?_;(first | exact Or.inl rfl | exact Or.inr rfl);(focus (simp [-zg,-zd,↓Qb,↓Qa,go_sem,Tryz.results144,dat,datL_map,li,Xh];done));(focus ((trivial);done)))
 | (refine Um _ _ _ _ (l5Not_sel k v .nil c5) ?_ ?_ ?_;(first | exact Or.inl rfl | exact Or.inr rfl);(focus (simp [-zg,-zd,↓Qb,↓Qa,go_sem,Tryz.results144,dat,datL_map,li];done));(focus ((trivial);done)))
 | (refine Um _ _ _ _ (z8) ?_ ?_ ?_;(first | exact Or.inl rfl | exact Or.inr rfl);(focus (simp [-zg,-zd,↓Qb,↓Qa,go_sem,Tryz.results144,dat,datL_map,li];done));(focus ((trivial);done)))
 | (refine Um _ _ _ _ (.mk 6 0 [z10]) ?_ ?_ ?_;(first | exact Or.inl rfl | exact Or.inr rfl);(focus (simp [-zg,-zd,↓Qb,↓Qa,go_sem,Tryz.results144,dat,datL_map,li,Xk,cX_eq,Xh];done));(focus ((trivial);done)))
 | (refine Um _ _ _ _ (.mk 7 0 [z15,z13]) ?_ ?_ ?_;(first | exact Or.inl rfl | exact Or.inr rfl);(focus (simp [-zg,-zd,↓Qb,↓Qa,go_sem,Tryz.results144,dat,datL_map,li,Xk,cX_eq,Xh];done));(focus ((trivial);done)))
 | (refine Um _ _ _ _ (.mk 8 0 [l5Not_sel z16.k z16.v (li cX z16.ks) c16',z13]) ?_ ?_ ?_;(first | exact Or.inl rfl | exact Or.inr rfl);(focus (simp [-zg,-zd,↓Qb,↓Qa,go_sem,Tryz.results144,dat,datL_map,li,Xk,cX_eq,Xh];done));(focus ((trivial);done)))
 | (refine Um _ _ _ _ (.mk k 0 [z20,y20]) ?_ ?_ ?_;(first | exact Or.inl rfl | exact Or.inr rfl);(focus (simp [-zg,-zd,↓Qb,↓Qa,go_sem,Tryz.results144,dat,datL_map,li,Xk,cX_eq,Xh];done));(focus ((trivial);done)))
 | (refine Um _ _ _ _ (.mk (dualF k) 0 [z20,y20]) ?_ ?_ ?_;(first | exact Or.inl rfl | exact Or.inr rfl);(focus (simp [-zg,-zd,↓Qb,↓Qa,go_sem,Tryz.results144,dat,datL_map,li,Xk,cX_eq,Xh];done));(focus ((trivial);done)))
 | skip)
theorem l5Push_pure (k:Int) (v:Int) (ks:List Tree) (neg:Bool) (hw:WellF (.mk k v ks)):SpecR Tryz.prog 144 [.st [.int .i64 k,.int .i64 v,li cX ks],.bool neg] (fun _=>none) (fun c=>((zacn k v ks neg c).2,fun _=>none)):=l5Push_rec (tsz (.mk k v ks) + 1) k v ks neg hw (by omega)
@[go_sem] def l5PushC:Con:=.rel fun args H=>match args with
  | [.st [.int .i64 k,.int .i64 v,.list n_ks c_ks],.bool neg]=>((Is cX n_ks c_ks) ∧ (WellF (.mk k v (de cX c_ks))),fun c=>(Vw (Ul k v (de cX c_ks) neg c),H))
  | _=>(False,fun _=>(.any,H))
theorem l5PushC_ok:ConOk Tryz.prog 144 l5PushC:=by
  refine ⟨Qo Tryz.func144 (by decide) rfl,fun args H h=>?_⟩
  revert h
  dsimp only
  split
  · intro h
    obtain ⟨⟨ks,rfl,rfl⟩,hw⟩:=h
    try simp only [Qp] at *
    exact SpecR.enc ((SpecR.frame0 (l5Push_pure _ _ ks _ hw) (H:=H)).shut) fun c=>Prod.ext (l5Push_okD _ _ _ _ hw c).2.symm rfl
  · intro h
    exact h.elim
@[go_sem] def Γy13:FuncId → Con:=ext Γy12 144 l5PushC
theorem Up:∀ g,ConOk Tryz.prog g (Γy13 g):=Qn Γy12_ok l5PushC_ok

end
end Go.Proofs.YtiilmjojffjhlaaGreatDoor.Vm

