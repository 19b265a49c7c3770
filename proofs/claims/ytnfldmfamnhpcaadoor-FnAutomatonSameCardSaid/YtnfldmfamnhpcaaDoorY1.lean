/-
  Formulas: their shape, their size, where they are valid. No conditions.
-/
import Derived.Test.YtnfldmfamnhpcaaDoorZL
namespace Go.Proofs.YtnfldmfamnhpcaaDoor.Vm
open Go
open Nat renaming sub_pos_of_lt → zsP
open List renaming getD_eq_getElem?_getD → zg,drop_one → zd
noncomputable section
set_option linter.unusedVariables false
set_option linter.unusedSimpArgs false
set_option maxRecDepth 200000

@[go_sem] def Γy0:FuncId → Con:=Γz3
theorem Xt:∀ g,ConOk Tryd.prog g (Γy0 g):=Γz3_ok

def arF (k:Int):Int:=if k = 1 ∨ k = 2 then 0 else if k = 3 ∨ k = 6 ∨ k = 9 ∨ k = 10 then 1 else if k = 4 ∨ k = 5 ∨ k = 7 ∨ k = 8 then 2 else -1
def ShapeF:Nat → Tree → Prop
  | 0,_=>False
  | d + 1,t=>(t.ks.length:Int) = arF t.k ∧ 0 ≤ t.v ∧ t.v < 3 ∧ (t.k = 2 ∨ t.v = 0) ∧ ∀ i,i < t.ks.length → ShapeF d (nth t.ks i)
theorem arF_le (k:Int):arF k ≤ 2:=by unfold arF;split;omega;split;omega;split <;> omega
theorem ShapeF.two {d:Nat} {t:Tree} (h:ShapeF d t):t.ks.length ≤ 2:=by
  cases d with
  | zero=>exact h.elim
  | succ d=>have:=h.1;have:=arF_le t.k;omega
theorem zaib {d:Int} (h:1 ≤ d) {k v:Int} {ks:List Tree}:ShapeF d.toNat (.mk k v ks) ↔ (ks.length:Int) = arF k ∧ 0 ≤ v ∧ v < 3 ∧ (k = 2 ∨ v = 0) ∧ ∀ i,i < ks.length → ShapeF (d.toNat - 1) (nth ks i):=by
  obtain ⟨d',e⟩:∃ d',d.toNat = d' + 1:=⟨d.toNat - 1,by omega⟩
  rw [e,Nat.add_sub_cancel];exact Iff.rfl
theorem cntF_rng:∀ (d:Nat) (t:Tree),ShapeF d t → 1 ≤ cntT d t ∧ cntT d t ≤ ((4 ^ d:Nat):Int)
  | 0,t,h=>h.elim
  | d + 1,t,h=>by
    have h2:=h.two
    have h3:=csum_rng (m:=cntT d) (ks:=t.ks) (M:=((4 ^ d:Nat):Int)) (fun i hi=>cntF_rng d _ (h.2.2.2.2 i hi)) t.ks.length (Nat.le_refl _)
    have p:1 ≤ 4 ^ d:=Nat.one_le_pow _ _ (by omega)
    have h4:(t.ks.length:Int) * ((4 ^ d:Nat):Int) ≤ 2 * ((4 ^ d:Nat):Int):=Int.mul_le_mul_of_nonneg_right (by omega) (by omega)
    have h5:4 ^ (d + 1) = 4 * 4 ^ d:=by rw [Nat.pow_succ,Nat.mul_comm]
    rw [cntT,h5]
    omega
theorem cntF_bd {d:Nat} {t:Tree} (h:ShapeF d t) (hd:d ≤ 20):1 ≤ cntT d t ∧ cntT d t ≤ 1099511627776:=by
  have:=cntF_rng d t h;have:=pow_le20 hd;omega
theorem shapeF_at {d:Int} {k v:Int} {ks:List Tree} (h:ShapeF d.toNat (.mk k v ks)):1 ≤ d ∧ (ks.length:Int) = arF k ∧ ks.length ≤ 2 ∧ (0 ≤ v ∧ v < 3) ∧ ∀ i,i < ks.length → ShapeF (d.toNat - 1) (nth ks i):=by
  have h1:1 ≤ d:=by
    rcases Int.lt_or_le d 1 with q | q
    · rw [show d.toNat = 0 by omega] at h;exact h.elim
    · exact q
  obtain ⟨q1,q2,q3,_,q4⟩:=(zaib h1).1 h
  exact ⟨h1,q1,h.two,⟨q2,q3⟩,q4⟩
def WellF (t:Tree):Prop:=∃ d,ShapeF d t
theorem WellF.at {k v:Int} {ks:List Tree} (h:WellF (.mk k v ks)):(ks.length:Int) = arF k ∧ 0 ≤ v ∧ v < 3 ∧ ∀ i,i < ks.length → WellF (nth ks i):=by
  obtain ⟨d,h⟩:=h
  cases d with
  | zero=>exact h.elim
  | succ d=>obtain ⟨q1,q2,q3,_,q4⟩:=h;exact ⟨q1,q2,q3,fun i hi=>⟨d,q4 i hi⟩⟩
def ForOk (t:Tree):Prop:=ShapeF 6 t ∧ cntT 6 t ≤ 12
theorem ForOk.well {t:Tree} (h:ForOk t):WellF t:=⟨6,h.1⟩

set_option maxHeartbeats 4000000 in
theorem l5Arity_pure (k:Int)  : Pure Tryd.prog 83 [.int .i64 k] (.int .i64 (arF k)):=by
  refine Pure.of_walk Tryd.func83 rfl (by simp [Tryd.f83]) (by simp [-zd,go_sem]) fun B hK=>?_
  (repeat' (first
 | refine Qu ?_
 | refine Qc (id:=0) Xt [] (by kernel_rfl) ?_;simp [-zg,-zd,↓Qb,↓Qa,go_sem]
 | refine Qc (id:=1) Xt [] (by kernel_rfl) ?_;simp [-zg,-zd,↓Qb,↓Qa,go_sem]
 | refine Qc (id:=2) Xt [] (by kernel_rfl) ?_;simp [-zg,-zd,↓Qb,↓Qa,go_sem]
 | refine Qc (id:=3) Xt [] (by kernel_rfl) ?_;simp [-zg,-zd,↓Qb,↓Qa,go_sem]
 | refine Qc (id:=4) Xt [] (by kernel_rfl) ?_;simp [-zg,-zd,↓Qb,↓Qa,go_sem]
 | refine Qc (id:=5) Xt [] (by kernel_rfl) ?_;simp [-zg,-zd,↓Qb,↓Qa,go_sem]
 | refine Qc (id:=6) Xt [] (by kernel_rfl) ?_;simp [-zg,-zd,↓Qb,↓Qa,go_sem]
 | refine Qc (id:=7) Xt [] (by kernel_rfl) ?_;simp [-zg,-zd,↓Qb,↓Qa,go_sem]
 | refine Qc (id:=8) Xt [] (by kernel_rfl) ?_;simp [-zg,-zd,↓Qb,↓Qa,go_sem]
 | refine Qc (id:=9) Xt [] (by kernel_rfl) ?_;simp [-zg,-zd,↓Qb,↓Qa,go_sem]
 | refine Qc (id:=10) Xt [] (by kernel_rfl) ?_;simp [-zg,-zd,↓Qb,↓Qa,go_sem]
 | refine Qc (id:=11) Xt [] (by kernel_rfl) ?_;simp [-zg,-zd,↓Qb,↓Qa,go_sem]
 | refine Qc (id:=12) Xt [] (by kernel_rfl) ?_;simp [-zg,-zd,↓Qb,↓Qa,go_sem]
 | refine Qc (id:=13) Xt [] (by kernel_rfl) ?_;simp [-zg,-zd,↓Qb,↓Qa,go_sem]
 | refine Qc (id:=14) Xt [] (by kernel_rfl) ?_;simp [-zg,-zd,↓Qb,↓Qa,go_sem]
 | refine Qc (id:=15) Xt [] (by kernel_rfl) ?_;simp [-zg,-zd,↓Qb,↓Qa,go_sem]
 | refine Qd (c:=.tmp 4) ?_;simp [-zg,-zd,↓Qb,↓Qa,go_sem];try first | (refine ⟨?_,?_⟩ <;> refine zA ?_) | (refine ⟨fun c4=>?_,fun c4=>?_⟩ <;> (try simp [B_iff,B_not] at c4))
 | refine Qd (c:=.tmp 7) ?_;simp [-zg,-zd,↓Qb,↓Qa,go_sem];try first | (refine ⟨?_,?_⟩ <;> refine zA ?_) | (refine ⟨fun c7=>?_,fun c7=>?_⟩ <;> (try simp [B_iff,B_not] at c7))
 | refine Qd (c:=.tmp 12) ?_;simp [-zg,-zd,↓Qb,↓Qa,go_sem];try first | (refine ⟨?_,?_⟩ <;> refine zA ?_) | (refine ⟨fun c12=>?_,fun c12=>?_⟩ <;> (try simp [B_iff,B_not] at c12))
 | (refine Qh ?_)
 | (refine Qt ?_;simp [-zg,-zd,↓Qb,↓Qa,go_sem])
 | (refine Qs ?_;simp [-zg,-zd,↓Qb,↓Qa,go_sem])
 | (refine Qv ?_;simp [-zg,-zd,↓Qb,↓Qa,go_sem,Tryd.results83])
 | (intro hx;refine zA ?_)
 | (refine ⟨?_,?_⟩ <;> refine zA ?_)
 | (intro hx;constructor <;> intro hs)
 | (constructor <;> intro hs)
 | (refine ⟨?_,fun hs=>?_⟩;refine zA ?_)
 | (refine ⟨fun hs=>?_,?_⟩;rotate_left;refine zA ?_;rotate_left)))
  all_goals (first
 | (unfold arF;simp_all;done)
 | (unfold arF;(repeat' split) <;> omega)
 | skip)
@[go_sem] def zadz:Con:=.pure fun
  | [.int .i64 k]=>(True,.int .i64 (arF k))
  | _=>(False,.any)
theorem zajf:ConOk Tryd.prog 83 zadz:=by
  refine ⟨Qq Tryd.func83 (by decide) rfl,fun args h=>?_⟩
  revert h
  dsimp only
  split
  · intro h
    skip
    skip
    exact ⟨l5Arity_pure _,by simp [go_sem]⟩
  · intro h
    exact h.elim
@[go_sem] def Γy1:FuncId → Con:=ext Γy0 83 zadz
theorem Γy1_ok:∀ g,ConOk Tryd.prog g (Γy1 g):=Qp Xt zajf

@[go_sem] def zaft (n_:Nat):Con:=.pure fun
  | [.st [.int .i64 k,.int .i64 v,.list n_ks c_ks],.int .i64 d]=>((Is cX n_ks c_ks) ∧ (d ≤ 1000000) ∧ (d.toNat < n_),.bool (B (ShapeF d.toNat (.mk k v (de cX c_ks)))))
  | _=>(False,.any)
theorem zahc {n_:Nat} (ih:∀ (k:Int) (v:Int) (ks:List Tree) (d:Int) (h0:d ≤ 1000000) (hm_:d.toNat < n_),Pure Tryd.prog 84 [.st [.int .i64 k,.int .i64 v,li cX ks],.int .i64 d] (.bool (B (ShapeF d.toNat (.mk k v ks))))):ConOk Tryd.prog 84 (zaft n_):=by
  refine ⟨Qq Tryd.func84 (by decide) rfl,fun args h=>?_⟩
  revert h
  dsimp only
  split
  · intro h
    obtain ⟨⟨ks,rfl,rfl⟩,h0,hm_⟩:=h
    try simp only [Qj] at *
    exact ⟨ih _ _ ks _ h0 hm_,by simp [go_sem]⟩
  · intro h
    exact h.elim
set_option maxHeartbeats 1000000 in
theorem zaiy:∀ (n_:Nat),∀ (k:Int) (v:Int) (ks:List Tree) (d:Int) (h0:d ≤ 1000000) (hm_:d.toNat < n_),Pure Tryd.prog 84 [.st [.int .i64 k,.int .i64 v,li cX ks],.int .i64 d] (.bool (B (ShapeF d.toNat (.mk k v ks)))):=by
  intro n_
  induction n_ with
  | zero=>intros;omega
  | succ n_ ih =>
  intro k v ks d h0 hm_
  have Γr_ok:=Qp Γy1_ok (zahc ih)
  refine Pure.of_walk Tryd.func84 rfl (by simp [Tryd.f84]) (by simp [-zd,go_sem]) fun B hK=>?_
  (repeat' (first
 | refine Qu ?_
 | refine Qc (id:=0) Γr_ok [] (by kernel_rfl) ?_;simp [-zg,-zd,↓Qb,↓Qa,go_sem];try (refine Xn hK 2 ?_;simp [go_sem])
 | (refine Vw 2 2 ⟨rfl,rfl⟩ fun hm=>?_);refine Zb (id:=1) Γr_ok mixed [8] [2] (by kernel_rfl) (by kernel_rfl) (by simp [-zg,-zd,↓Qb,↓Qa,go_sem]) ?_;simp [-zg,-zd,↓Qb,↓Qa,go_sem];try (refine ⟨fun s1a=>?_,fun s1a=>?_⟩ <;> (try simp [B_iff,B_not] at s1a) <;> try (refine ⟨fun s1b=>?_,fun s1b=>?_⟩ <;> (try simp [B_iff,B_not] at s1b)))
 | refine Qc (id:=2) Γr_ok [] (by kernel_rfl) ?_;simp [-zg,-zd,↓Qb,↓Qa,go_sem]
 | refine Qc (id:=3) Γr_ok [20,25,29] (by kernel_rfl) ?_;simp [-zg,-zd,↓Qb,↓Qa,go_sem];try (refine ⟨fun s3a=>?_,fun s3a=>?_⟩ <;> (try simp [B_iff,B_not] at s3a) <;> try (refine ⟨fun s3b=>?_,fun s3b=>?_⟩ <;> (try simp [B_iff,B_not] at s3b) <;> try (refine ⟨fun s3c=>?_,fun s3c=>?_⟩ <;> (try simp [B_iff,B_not] at s3c) <;> try (refine ⟨fun s3d=>?_,fun s3d=>?_⟩ <;> (try simp [B_iff,B_not] at s3d)))))
 | refine Qc (id:=4) Γr_ok [] (by kernel_rfl) ?_;simp [-zg,-zd,↓Qb,↓Qa,go_sem]
 | refine Qc (id:=5) Γr_ok [] (by kernel_rfl) ?_;simp [-zg,-zd,↓Qb,↓Qa,go_sem]
 | refine Qc (id:=6) Γr_ok [] (by kernel_rfl) ?_;simp [-zg,-zd,↓Qb,↓Qa,go_sem]
 | refine Qc (id:=8) Γr_ok [] (by kernel_rfl) ?_;simp [-zg,-zd,↓Qb,↓Qa,go_sem,c39,Qg c39,zsP c39,wrap_in (x:=d - 1) (by omega) (by omega),(show d - 1 ≤ 1000000 by omega),(show d ≤ 1000000 + 1 by omega),(show d.toNat - 1 < n_ by omega),(show 0 < d.toNat by omega),Tree.eta]
 | refine Qc (id:=9) Γr_ok [] (by kernel_rfl) ?_;simp [-zg,-zd,↓Qb,↓Qa,go_sem]
 | refine Qc (id:=7) Γr_ok [] (by kernel_rfl) ?_;simp [-zg,-zd,↓Qb,↓Qa,go_sem,wrapS (k:=i) (by omega)]
 | refine Qc (id:=10) Γr_ok [] (by kernel_rfl) ?_;simp [-zg,-zd,↓Qb,↓Qa,go_sem]
 | refine Qd (c:=.tmp 16) ?_;simp [-zg,-zd,↓Qb,↓Qa,go_sem];try first | (refine ⟨?_,?_⟩ <;> refine zA ?_) | (refine ⟨fun c16=>?_,fun c16=>?_⟩ <;> (try simp [B_iff,B_not] at c16))
 | refine Qd (c:=.tmp 34) ?_;simp [-zg,-zd,↓Qb,↓Qa,go_sem];try first | (refine ⟨?_,?_⟩ <;> refine zA ?_) | (refine ⟨fun c34=>?_,fun c34=>?_⟩ <;> (try simp [B_iff,B_not] at c34))
 | refine Qd (c:=.tmp 39) ?_;simp [-zg,-zd,↓Qb,↓Qa,go_sem];try first | (refine ⟨?_,?_⟩ <;> refine zA ?_) | (refine ⟨fun c39=>?_,fun c39=>?_⟩ <;> (try simp [B_iff,B_not] at c39))
 | refine Qd (c:=.tmp 50) ?_;simp [-zg,-zd,↓Qb,↓Qa,go_sem];try first | (refine ⟨?_,?_⟩ <;> refine zA ?_) | (refine ⟨fun c50=>?_,fun c50=>?_⟩ <;> (try simp [B_iff,B_not] at c50))
 | (refine Qh (id:=0) (Xd (ι:=Nat) (fun i:Nat=>⟨(upd (upd (upd (fun _=>.any) 1 (.int .i64 d)) 2 (.pd [.int .i64 k,.int .i64 v,li cX ks])) 5 (.int .i64 i)),fun _=>none⟩) (fun i=>i ≤ ks.length ∧ AllTill (fun i=>ShapeF (d.toNat - 1) (nth ks i)) i) (fun i=>ks.length - i) (0) ?_ ?_ ?_);exact ⟨Nat.zero_le _,.zero _⟩;((repeat' (first | exact Ql (by assumption) | exact Qo | refine Qk ?_ ?_ | refine Qn ?_)) <;> simp [-zg,-zd,↓Qb,↓Qa,go_sem]);rintro i ⟨hi,hu⟩)
 | (refine ⟨i + 1,⟨by omega,hu.succ c50⟩,by first | omega | (simp;done) | (simp;omega),?_⟩;((repeat' (first | exact Ql (by assumption) | exact Qo | refine Qk ?_ ?_ | refine Qn ?_)) <;> simp [-zg,-zd,↓Qb,↓Qa,go_sem]))
 | (refine Qh ?_)
 | (refine Qt ?_;simp [-zg,-zd,↓Qb,↓Qa,go_sem])
 | (refine Qs ?_;simp [-zg,-zd,↓Qb,↓Qa,go_sem])
 | (refine Qv ?_;simp [-zg,-zd,↓Qb,↓Qa,go_sem,Tryd.results84])
 | (intro hx;refine zA ?_)
 | (refine ⟨?_,?_⟩ <;> refine zA ?_)
 | (intro hx;constructor <;> intro hs)
 | (constructor <;> intro hs)
 | (refine ⟨?_,fun hs=>?_⟩;refine zA ?_)
 | (refine ⟨fun hs=>?_,?_⟩;rotate_left;refine zA ?_;rotate_left)))
  all_goals (first
 | (rw [zaib (by omega)];exact ⟨by omega,by omega,by omega,by omega,fun j hj=>hu j (by omega)⟩)
 | (intro h;rw [show d.toNat = 0 by omega] at h;exact h)
 | (rw [zaib (by omega)];rintro ⟨q1,q2,q3,q4,q5⟩;first | (exact absurd (q5 i (by assumption)) (by assumption)) | (exfalso;omega))
 | skip)
theorem l5Shape_pure (k:Int) (v:Int) (ks:List Tree) (d:Int) (h0:d ≤ 1000000):Pure Tryd.prog 84 [.st [.int .i64 k,.int .i64 v,li cX ks],.int .i64 d] (.bool (B (ShapeF d.toNat (.mk k v ks)))):=zaiy (d.toNat + 1) k v ks d h0 (by omega)
@[go_sem] def zadx:Con:=.pure fun
  | [.st [.int .i64 k,.int .i64 v,.list n_ks c_ks],.int .i64 d]=>((Is cX n_ks c_ks) ∧ (d ≤ 1000000),.bool (B (ShapeF d.toNat (.mk k v (de cX c_ks)))))
  | _=>(False,.any)
theorem zaiz:ConOk Tryd.prog 84 zadx:=by
  refine ⟨Qq Tryd.func84 (by decide) rfl,fun args h=>?_⟩
  revert h
  dsimp only
  split
  · intro h
    obtain ⟨⟨ks,rfl,rfl⟩,h0⟩:=h
    try simp only [Qj] at *
    exact ⟨l5Shape_pure _ _ ks _ h0,by simp [go_sem]⟩
  · intro h
    exact h.elim
@[go_sem] def Γy2:FuncId → Con:=ext Γy1 84 zadx
theorem Γy2_ok:∀ g,ConOk Tryd.prog g (Γy2 g):=Qp Γy1_ok zaiz

@[go_sem] def zafv (n_:Nat):Con:=.pure fun
  | [.st [.int .i64 k,.int .i64 v,.list n_ks c_ks],.int .i64 d]=>((Is cX n_ks c_ks) ∧ (d ≤ 20) ∧ (ShapeF d.toNat (.mk k v (de cX c_ks))) ∧ (d.toNat < n_),.int .i64 (cntT d.toNat (.mk k v (de cX c_ks))))
  | _=>(False,.any)
theorem zahd {n_:Nat} (ih:∀ (k:Int) (v:Int) (ks:List Tree) (d:Int) (h0:d ≤ 20) (hS:ShapeF d.toNat (.mk k v ks)) (hm_:d.toNat < n_),Pure Tryd.prog 85 [.st [.int .i64 k,.int .i64 v,li cX ks],.int .i64 d] (.int .i64 (cntT d.toNat (.mk k v ks)))):ConOk Tryd.prog 85 (zafv n_):=by
  refine ⟨Qq Tryd.func85 (by decide) rfl,fun args h=>?_⟩
  revert h
  dsimp only
  split
  · intro h
    obtain ⟨⟨ks,rfl,rfl⟩,h0,hS,hm_⟩:=h
    try simp only [Qj] at *
    exact ⟨ih _ _ ks _ h0 hS hm_,by simp [go_sem]⟩
  · intro h
    exact h.elim
theorem zajc:∀ (n_:Nat),∀ (k:Int) (v:Int) (ks:List Tree) (d:Int) (h0:d ≤ 20) (hS:ShapeF d.toNat (.mk k v ks)) (hm_:d.toNat < n_),Pure Tryd.prog 85 [.st [.int .i64 k,.int .i64 v,li cX ks],.int .i64 d] (.int .i64 (cntT d.toNat (.mk k v ks))):=by
  intro n_
  induction n_ with
  | zero=>intros;omega
  | succ n_ ih =>
  intro k v ks d h0 hS hm_
  have Γr_ok:=Qp Γy2_ok (zahd ih)
  refine Pure.of_walk Tryd.func85 rfl (by simp [Tryd.f85]) (by simp [-zd,go_sem]) fun B hK=>?_
  obtain ⟨s1,s2,s3,s4,s5⟩:=shapeF_at hS;have hcb:∀ i,i < ks.length → 1 ≤ cntT (d.toNat - 1) (nth ks i) ∧ cntT (d.toNat - 1) (nth ks i) ≤ 1099511627776:=(fun i hi=>cntF_bd (s5 i hi) (by omega))
  all_goals (repeat' (first
 | refine Qu ?_
 | refine Qc (id:=0) Γr_ok [] (by kernel_rfl) ?_;simp [-zg,-zd,↓Qb,↓Qa,go_sem];try (refine Xn hK 2 ?_;simp [go_sem])
 | refine Qc (id:=1) Γr_ok [] (by kernel_rfl) ?_;simp [-zg,-zd,↓Qb,↓Qa,go_sem]
 | refine Qc (id:=2) Γr_ok [] (by kernel_rfl) ?_;simp [-zg,-zd,↓Qb,↓Qa,go_sem]
 | refine Qc (id:=3) Γr_ok [12] (by kernel_rfl) ?_;simp [-zg,-zd,↓Qb,↓Qa,go_sem,(show 0 < d by omega)];try (refine ⟨fun s3a=>?_,fun s3a=>?_⟩ <;> (try simp [B_iff,B_not] at s3a) <;> try (refine ⟨fun s3b=>?_,fun s3b=>?_⟩ <;> (try simp [B_iff,B_not] at s3b)))
 | (have q1:=csum_rng hcb i hi;have q2:=hcb i s3a);refine Qc (id:=5) Γr_ok [] (by kernel_rfl) ?_;simp [-zg,-zd,↓Qb,↓Qa,go_sem,s3a,Qg s3a,zsP s3a,wrap_in (x:=d - 1) (by omega) (by omega),(show d - 1 ≤ 20 by omega),(show d ≤ 20 + 1 by omega),(show d.toNat - 1 < n_ by omega),(show 0 < d.toNat by omega),Tree.eta,s5 i s3a,wrap_in (x:=1 + csum (cntT (d.toNat - 1)) ks i + cntT (d.toNat - 1) (nth ks i)) (by omega) (by omega)]
 | refine Qc (id:=4) Γr_ok [] (by kernel_rfl) ?_;simp [-zg,-zd,↓Qb,↓Qa,go_sem,wrapS (k:=i) (by omega)]
 | refine Qc (id:=6) Γr_ok [] (by kernel_rfl) ?_;simp [-zg,-zd,↓Qb,↓Qa,go_sem]
 | refine Qd (c:=.tmp 15) ?_;simp [-zg,-zd,↓Qb,↓Qa,go_sem];try first | (refine ⟨?_,?_⟩ <;> refine zA ?_) | (refine ⟨fun c15=>?_,fun c15=>?_⟩ <;> (try simp [B_iff,B_not] at c15))
 | (refine Qh (id:=0) (Xd (ι:=Nat) (fun i:Nat=>⟨(upd (upd (upd (upd (fun _=>.any) 1 (.int .i64 d)) 2 (.pd [.int .i64 k,.int .i64 v,li cX ks])) 5 (.int .i64 (1 + csum (cntT (d.toNat - 1)) ks i))) 6 (.int .i64 i)),fun _=>none⟩) (fun i=>i ≤ ks.length) (fun i=>ks.length - i) (0) ?_ ?_ ?_);exact Nat.zero_le _;((repeat' (first | exact Ql (by assumption) | exact Qo | refine Qk ?_ ?_ | refine Qn ?_)) <;> simp [-zg,-zd,↓Qb,↓Qa,go_sem,csum_zero]);rintro i hi)
 | (refine ⟨i + 1,by omega,by first | omega | (simp;done) | (simp;omega),?_⟩;((repeat' (first | exact Ql (by assumption) | exact Qo | refine Qk ?_ ?_ | refine Qn ?_)) <;> simp [-zg,-zd,↓Qb,↓Qa,go_sem,csum_succ (cntT (d.toNat - 1)) s3a,Int.add_assoc]))
 | (refine Qh ?_)
 | (refine Qt ?_;simp [-zg,-zd,↓Qb,↓Qa,go_sem])
 | (refine Qs ?_;simp [-zg,-zd,↓Qb,↓Qa,go_sem])
 | (refine Qv ?_;simp [-zg,-zd,↓Qb,↓Qa,go_sem,Tryd.results85])
 | (intro hx;refine zA ?_)
 | (refine ⟨?_,?_⟩ <;> refine zA ?_)
 | (intro hx;constructor <;> intro hs)
 | (constructor <;> intro hs)
 | (refine ⟨?_,fun hs=>?_⟩;refine zA ?_)
 | (refine ⟨fun hs=>?_,?_⟩;rotate_left;refine zA ?_;rotate_left)))
  all_goals (first
 | (obtain ⟨d',e⟩:∃ d',d.toNat = d' + 1:=⟨d.toNat - 1,by omega⟩;obtain rfl:i = ks.length:=(by omega);rw [e];simp only [cntT,Nat.add_sub_cancel,Tree.ks])
 | skip)
theorem l5Count_pure (k:Int) (v:Int) (ks:List Tree) (d:Int) (h0:d ≤ 20) (hS:ShapeF d.toNat (.mk k v ks)):Pure Tryd.prog 85 [.st [.int .i64 k,.int .i64 v,li cX ks],.int .i64 d] (.int .i64 (cntT d.toNat (.mk k v ks))):=zajc (d.toNat + 1) k v ks d h0 hS (by omega)
@[go_sem] def zady:Con:=.pure fun
  | [.st [.int .i64 k,.int .i64 v,.list n_ks c_ks],.int .i64 d]=>((Is cX n_ks c_ks) ∧ (d ≤ 20) ∧ (ShapeF d.toNat (.mk k v (de cX c_ks))),.int .i64 (cntT d.toNat (.mk k v (de cX c_ks))))
  | _=>(False,.any)
theorem zajd:ConOk Tryd.prog 85 zady:=by
  refine ⟨Qq Tryd.func85 (by decide) rfl,fun args h=>?_⟩
  revert h
  dsimp only
  split
  · intro h
    obtain ⟨⟨ks,rfl,rfl⟩,h0,hS⟩:=h
    try simp only [Qj] at *
    exact ⟨l5Count_pure _ _ ks _ h0 hS,by simp [go_sem]⟩
  · intro h
    exact h.elim
@[go_sem] def Γy3:FuncId → Con:=ext Γy2 85 zady
theorem Γy3_ok:∀ g,ConOk Tryd.prog g (Γy3 g):=Qp Γy2_ok zajd

theorem zahf (k:Int) (v:Int) (ks:List Tree)  : Pure Tryd.prog 70 [.st [.int .i64 k,.int .i64 v,li cX ks]] (.bool (B (ForOk (.mk k v ks)))):=by
  refine Pure.of_walk Tryd.func70 rfl (by simp [Tryd.f70]) (by simp [-zd,go_sem]) fun B hK=>?_
  cases hs:Vm.B (ShapeF 6 (.mk k v ks))
  all_goals (repeat' (first
 | refine Qu ?_
 | refine Qc (id:=0) Γy3_ok [] (by kernel_rfl) ?_;simp [-zg,-zd,↓Qb,↓Qa,go_sem];try (refine Xn hK 1 ?_;simp [go_sem])
 | ((try (have hS:ShapeF 6 (.mk k v ks):=(by rw [B_iff] at hs;exact hs)));skip);refine Qc (id:=1) Γy3_ok [5] (by kernel_rfl) ?_;simp [-zg,-zd,↓Qb,↓Qa,go_sem,hs,hS];try (refine ⟨fun s1a=>?_,fun s1a=>?_⟩ <;> (try simp [B_iff,B_not] at s1a) <;> try (refine ⟨fun s1b=>?_,fun s1b=>?_⟩ <;> (try simp [B_iff,B_not] at s1b)))
 | refine Qc (id:=1) Γy3_ok [5] (by kernel_rfl) ?_;simp [-zg,-zd,↓Qb,↓Qa,go_sem,hs];try (refine ⟨fun s1a=>?_,fun s1a=>?_⟩ <;> (try simp [B_iff,B_not] at s1a) <;> try (refine ⟨fun s1b=>?_,fun s1b=>?_⟩ <;> (try simp [B_iff,B_not] at s1b)))
 | (refine Qh ?_)
 | (refine Qt ?_;simp [-zg,-zd,↓Qb,↓Qa,go_sem])
 | (refine Qs ?_;simp [-zg,-zd,↓Qb,↓Qa,go_sem])
 | (refine Qv ?_;simp [-zg,-zd,↓Qb,↓Qa,go_sem,Tryd.results70])
 | (intro hx;refine zA ?_)
 | (refine ⟨?_,?_⟩ <;> refine zA ?_)
 | (intro hx;constructor <;> intro hs)
 | (constructor <;> intro hs)
 | (refine ⟨?_,fun hs=>?_⟩;refine zA ?_)
 | (refine ⟨fun hs=>?_,?_⟩;rotate_left;refine zA ?_;rotate_left)))
  all_goals (first
 | (rw [eq_comm,B_not];intro h;have:=B_yes h.1;rw [hs] at this;cases this;done)
 | (rw [B_not];intro h;have:=B_yes h.1;rw [hs] at this;cases this;done)
 | (rw [Bool.eq_iff_iff,B_iff,decide_eq_true_eq];exact ⟨fun h=>⟨hS,h⟩,fun h=>h.2⟩)
 | (intro h;have:=B_yes h.1;rw [hs] at this;cases this;done)
 | skip)
@[go_sem] def zabl:Con:=.pure fun
  | [.st [.int .i64 k,.int .i64 v,.list n_ks c_ks]]=>((Is cX n_ks c_ks),.bool (B (ForOk (.mk k v (de cX c_ks)))))
  | _=>(False,.any)
theorem zaep:ConOk Tryd.prog 70 zabl:=by
  refine ⟨Qq Tryd.func70 (by decide) rfl,fun args h=>?_⟩
  revert h
  dsimp only
  split
  · intro h
    obtain ⟨ks,rfl,rfl⟩:=h
    try simp only [Qj] at *
    exact ⟨zahf _ _ ks,by simp [go_sem]⟩
  · intro h
    exact h.elim
@[go_sem] def Γy4:FuncId → Con:=ext Γy3 70 zabl
theorem Γy4_ok:∀ g,ConOk Tryd.prog g (Γy4 g):=Qp Γy3_ok zaep

def TEq (a b:Tree):Prop:=a = b
theorem teq_iff {k v k' v':Int} {ks ks':List Tree}:TEq (.mk k v ks) (.mk k' v' ks') ↔ k = k' ∧ v = v' ∧ ks.length = ks'.length ∧ ∀ i,i < ks.length → TEq (nth ks i) (nth ks' i):=by
  unfold TEq
  rw [Tree.mk.injEq]
  constructor
  · rintro ⟨rfl,rfl,rfl⟩;exact ⟨rfl,rfl,rfl,fun _ _=>rfl⟩
  · rintro ⟨h1,h2,h3,h4⟩
    refine ⟨h1,h2,List.ext_getElem h3 fun i p q=>?_⟩
    rw [← nth_lt p,← nth_lt q];exact h4 i p

@[go_sem] def zade (n_:Nat):Con:=.pure fun
  | [.st [.int .i64 k,.int .i64 v,.list n_ks c_ks],.st [.int .i64 k',.int .i64 v',.list n_ls c_ls]]=>((Is cX n_ks c_ks) ∧ (Is cX n_ls c_ls) ∧ (tsz (.mk k v (de cX c_ks)) < n_),.bool (B (TEq (.mk k v (de cX c_ks)) (.mk k' v' (de cX c_ls)))))
  | _=>(False,.any)
theorem zaeq {n_:Nat} (ih:∀ (k:Int) (v:Int) (ks:List Tree) (k':Int) (v':Int) (ls:List Tree)  (hm_:tsz (.mk k v ks) < n_),Pure Tryd.prog 95 [.st [.int .i64 k,.int .i64 v,li cX ks],.st [.int .i64 k',.int .i64 v',li cX ls]] (.bool (B (TEq (.mk k v ks) (.mk k' v' ls))))):ConOk Tryd.prog 95 (zade n_):=by
  refine ⟨Qq Tryd.func95 (by decide) rfl,fun args h=>?_⟩
  revert h
  dsimp only
  split
  · intro h
    obtain ⟨⟨ks,rfl,rfl⟩,⟨ls,rfl,rfl⟩,hm_⟩:=h
    try simp only [Qj] at *
    exact ⟨ih _ _ ks _ _ ls hm_,by simp [go_sem]⟩
  · intro h
    exact h.elim
set_option maxHeartbeats 1000000 in
theorem zafg:∀ (n_:Nat),∀ (k:Int) (v:Int) (ks:List Tree) (k':Int) (v':Int) (ls:List Tree)  (hm_:tsz (.mk k v ks) < n_),Pure Tryd.prog 95 [.st [.int .i64 k,.int .i64 v,li cX ks],.st [.int .i64 k',.int .i64 v',li cX ls]] (.bool (B (TEq (.mk k v ks) (.mk k' v' ls)))):=by
  intro n_
  induction n_ with
  | zero=>intros;omega
  | succ n_ ih =>
  intro k v ks k' v' ls  hm_
  have Γr_ok:=Qp Γy4_ok (zaeq ih)
  refine Pure.of_walk Tryd.func95 rfl (by simp [Tryd.f95]) (by simp [-zd,go_sem]) fun B hK=>?_
  (repeat' (first
 | refine Qu ?_
 | refine Qc (id:=0) Γr_ok [] (by kernel_rfl) ?_;simp [-zg,-zd,↓Qb,↓Qa,go_sem];try (refine Xn hK 2 ?_;simp [go_sem];refine Xn hK 3 ?_;simp [go_sem])
 | (refine Vw 2 2 ⟨rfl,rfl⟩ fun hm=>?_);refine Qc (id:=1) Γr_ok [11,18] (by kernel_rfl) ?_;simp [-zg,-zd,↓Qb,↓Qa,go_sem];try (refine ⟨fun s1a=>?_,fun s1a=>?_⟩ <;> (try simp [B_iff,B_not] at s1a) <;> try (refine ⟨fun s1b=>?_,fun s1b=>?_⟩ <;> (try simp [B_iff,B_not] at s1b) <;> try (refine ⟨fun s1c=>?_,fun s1c=>?_⟩ <;> (try simp [B_iff,B_not] at s1c))))
 | refine Qc (id:=2) Γr_ok [] (by kernel_rfl) ?_;simp [-zg,-zd,↓Qb,↓Qa,go_sem]
 | refine Qc (id:=3) Γr_ok [] (by kernel_rfl) ?_;simp [-zg,-zd,↓Qb,↓Qa,go_sem]
 | refine Qc (id:=4) Γr_ok [] (by kernel_rfl) ?_;simp [-zg,-zd,↓Qb,↓Qa,go_sem]
 | (have cy:i < ls.length:=(by omega);have qt:=Xh (k:=k) (v:=v) c31);refine Zb (id:=6) Γr_ok mixed [] [5] (by kernel_rfl) (by kernel_rfl) (by simp [-zg,-zd,↓Qb,↓Qa,go_sem,c31,Qg c31,zsP c31,cy,Qg cy,zsP cy,Tree.eta,(show tsz (nth ks i) < n_ by omega)]) ?_;simp [-zg,-zd,↓Qb,↓Qa,go_sem,c31,Qg c31,zsP c31,cy,Qg cy,zsP cy,Tree.eta,(show tsz (nth ks i) < n_ by omega)]
 | refine Qc (id:=7) Γr_ok [] (by kernel_rfl) ?_;simp [-zg,-zd,↓Qb,↓Qa,go_sem]
 | refine Qc (id:=5) Γr_ok [] (by kernel_rfl) ?_;simp [-zg,-zd,↓Qb,↓Qa,go_sem,wrapS (k:=i) (by omega)]
 | refine Qc (id:=8) Γr_ok [] (by kernel_rfl) ?_;simp [-zg,-zd,↓Qb,↓Qa,go_sem]
 | refine Qd (c:=.tmp 26) ?_;simp [-zg,-zd,↓Qb,↓Qa,go_sem];try first | (refine ⟨?_,?_⟩ <;> refine zA ?_) | (refine ⟨fun c26=>?_,fun c26=>?_⟩ <;> (try simp [B_iff,B_not] at c26))
 | refine Qd (c:=.tmp 31) ?_;simp [-zg,-zd,↓Qb,↓Qa,go_sem];try first | (refine ⟨?_,?_⟩ <;> refine zA ?_) | (refine ⟨fun c31=>?_,fun c31=>?_⟩ <;> (try simp [B_iff,B_not] at c31))
 | refine Qd (c:=.tmp 45) ?_;simp [-zg,-zd,↓Qb,↓Qa,go_sem];try first | (refine ⟨?_,?_⟩ <;> refine zA ?_) | (refine ⟨fun c45=>?_,fun c45=>?_⟩ <;> (try simp [B_iff,B_not] at c45))
 | (refine Qh (id:=0) (Xd (ι:=Nat) (fun i:Nat=>⟨(upd (upd (upd (fun _=>.any) 2 (.pd [.int .i64 k,.int .i64 v,li cX ks])) 3 (.pd [.int .i64 k',.int .i64 v',li cX ls])) 5 (.int .i64 i)),fun _=>none⟩) (fun i=>i ≤ ks.length ∧ AllTill (fun i=>TEq (nth ks i) (nth ls i)) i) (fun i=>ks.length - i) (0) ?_ ?_ ?_);exact ⟨Nat.zero_le _,.zero _⟩;((repeat' (first | exact Ql (by assumption) | exact Qo | refine Qk ?_ ?_ | refine Qn ?_)) <;> simp [-zg,-zd,↓Qb,↓Qa,go_sem]);rintro i ⟨hi,hu⟩)
 | (refine ⟨i + 1,⟨by omega,hu.succ c45⟩,by first | omega | (simp;done) | (simp;omega),?_⟩;((repeat' (first | exact Ql (by assumption) | exact Qo | refine Qk ?_ ?_ | refine Qn ?_)) <;> simp [-zg,-zd,↓Qb,↓Qa,go_sem]))
 | (refine Qh ?_)
 | (refine Qt ?_;simp [-zg,-zd,↓Qb,↓Qa,go_sem])
 | (refine Qs ?_;simp [-zg,-zd,↓Qb,↓Qa,go_sem])
 | (refine Qv ?_;simp [-zg,-zd,↓Qb,↓Qa,go_sem,Tryd.results95])
 | (intro hx;refine zA ?_)
 | (refine ⟨?_,?_⟩ <;> refine zA ?_)
 | (intro hx;constructor <;> intro hs)
 | (constructor <;> intro hs)
 | (refine ⟨?_,fun hs=>?_⟩;refine zA ?_)
 | (refine ⟨fun hs=>?_,?_⟩;rotate_left;refine zA ?_;rotate_left)))
  all_goals (first
 | (rw [teq_iff];exact ⟨by omega,by omega,by omega,fun j hj=>hu j (by omega)⟩)
 | (rw [teq_iff];rintro ⟨q1,q2,q3,q4⟩;first | (exact absurd (q4 i (by assumption)) (by assumption)) | (exfalso;omega))
 | skip)
theorem zajr (k:Int) (v:Int) (ks:List Tree) (k':Int) (v':Int) (ls:List Tree)  : Pure Tryd.prog 95 [.st [.int .i64 k,.int .i64 v,li cX ks],.st [.int .i64 k',.int .i64 v',li cX ls]] (.bool (B (TEq (.mk k v ks) (.mk k' v' ls)))):=zafg (tsz (.mk k v ks) + 1) k v ks k' v' ls  (by omega)
@[go_sem] def zabu:Con:=.pure fun
  | [.st [.int .i64 k,.int .i64 v,.list n_ks c_ks],.st [.int .i64 k',.int .i64 v',.list n_ls c_ls]]=>((Is cX n_ks c_ks) ∧ (Is cX n_ls c_ls),.bool (B (TEq (.mk k v (de cX c_ks)) (.mk k' v' (de cX c_ls)))))
  | _=>(False,.any)
theorem zafh:ConOk Tryd.prog 95 zabu:=by
  refine ⟨Qq Tryd.func95 (by decide) rfl,fun args h=>?_⟩
  revert h
  dsimp only
  split
  · intro h
    obtain ⟨⟨ks,rfl,rfl⟩,⟨ls,rfl,rfl⟩⟩:=h
    try simp only [Qj] at *
    exact ⟨zajr _ _ ks _ _ ls,by simp [go_sem]⟩
  · intro h
    exact h.elim
@[go_sem] def Γy5:FuncId → Con:=ext Γy4 95 zabu
theorem Vt:∀ g,ConOk Tryd.prog g (Γy5 g):=Qp Γy4_ok zafh

theorem l5Find_pure (xs:List Tree) (k:Int) (v:Int) (ks:List Tree)  : Pure Tryd.prog 80 [li cX xs,.st [.int .i64 k,.int .i64 v,li cX ks]] (.int .i64 (findI (fun z=>B (TEq z (.mk k v ks))) xs)):=by
  refine Pure.of_walk Tryd.func80 rfl (by simp [Tryd.f80]) (by simp [-zd,go_sem]) fun B hK=>?_
  (repeat' (first
 | refine Qu ?_
 | (refine Jn 0 rfl fun hm=>?_);refine Qc (id:=0) Vt [] (by kernel_rfl) ?_;simp [-zg,-zd,↓Qb,↓Qa,go_sem];try (refine Xn hK 3 ?_;simp [go_sem])
 | refine Qc (id:=1) Vt [] (by kernel_rfl) ?_;simp [-zg,-zd,↓Qb,↓Qa,go_sem]
 | refine Qc (id:=2) Vt [] (by kernel_rfl) ?_;simp [-zg,-zd,↓Qb,↓Qa,go_sem]
 | refine Zb (id:=4) Vt mixed [] [] (by kernel_rfl) (by kernel_rfl) (by simp [-zg,-zd,↓Qb,↓Qa,go_sem,c9,Qg c9,zsP c9,Tree.eta]) ?_;simp [-zg,-zd,↓Qb,↓Qa,go_sem,c9,Qg c9,zsP c9,Tree.eta]
 | refine Qc (id:=5) Vt [] (by kernel_rfl) ?_;simp [-zg,-zd,↓Qb,↓Qa,go_sem]
 | refine Qc (id:=3) Vt [] (by kernel_rfl) ?_;simp [-zg,-zd,↓Qb,↓Qa,go_sem,wrapS (k:=i) (by omega)]
 | refine Qc (id:=6) Vt [] (by kernel_rfl) ?_;simp [-zg,-zd,↓Qb,↓Qa,go_sem]
 | refine Qd (c:=.tmp 9) ?_;simp [-zg,-zd,↓Qb,↓Qa,go_sem];try first | (refine ⟨?_,?_⟩ <;> refine zA ?_) | (refine ⟨fun c9=>?_,fun c9=>?_⟩ <;> (try simp [B_iff,B_not] at c9))
 | refine Qd (c:=.tmp 17) ?_;simp [-zg,-zd,↓Qb,↓Qa,go_sem];try first | (refine ⟨?_,?_⟩ <;> refine zA ?_) | (refine ⟨fun c17=>?_,fun c17=>?_⟩ <;> (try simp [B_iff,B_not] at c17))
 | (refine Qh (id:=0) (Xd (ι:=Nat) (fun i:Nat=>⟨(upd (upd (upd (fun _=>.any) 0 (li cX xs)) 3 (.pd [.int .i64 k,.int .i64 v,li cX ks])) 5 (.int .i64 i)),fun _=>none⟩) (fun i=>i ≤ xs.length ∧ NoneTill (fun i=>Vm.B (TEq (nth xs i) (.mk k v ks))) i) (fun i=>xs.length - i) (0) ?_ ?_ ?_);exact ⟨Nat.zero_le _,.zero _⟩;((repeat' (first | exact Ql (by assumption) | exact Qo | refine Qk ?_ ?_ | refine Qn ?_)) <;> simp [-zg,-zd,↓Qb,↓Qa,go_sem]);rintro i ⟨hi,ht⟩)
 | (refine ⟨i + 1,⟨by omega,ht.succ (B_no c17)⟩,by first | omega | (simp;done) | (simp;omega),?_⟩;((repeat' (first | exact Ql (by assumption) | exact Qo | refine Qk ?_ ?_ | refine Qn ?_)) <;> simp [-zg,-zd,↓Qb,↓Qa,go_sem]))
 | (refine Qh ?_)
 | (refine Qt ?_;simp [-zg,-zd,↓Qb,↓Qa,go_sem])
 | (refine Qs ?_;simp [-zg,-zd,↓Qb,↓Qa,go_sem])
 | (refine Qv ?_;simp [-zg,-zd,↓Qb,↓Qa,go_sem,Tryd.results80])
 | (intro hx;refine zA ?_)
 | (refine ⟨?_,?_⟩ <;> refine zA ?_)
 | (intro hx;constructor <;> intro hs)
 | (constructor <;> intro hs)
 | (refine ⟨?_,fun hs=>?_⟩;refine zA ?_)
 | (refine ⟨fun hs=>?_,?_⟩;rotate_left;refine zA ?_;rotate_left)))
  all_goals (first
 | (rw [findI_at (p:=fun z=>Vm.B (TEq z (.mk k v ks))) ht c9 (B_yes c17)])
 | (rw [findI_none (p:=fun z=>Vm.B (TEq z (.mk k v ks))) ht (by omega)])
 | skip)
@[go_sem] def zafd:Con:=.pure fun
  | [.list n_xs c_xs,.st [.int .i64 k,.int .i64 v,.list n_ks c_ks]]=>((Is cX n_xs c_xs) ∧ (Is cX n_ks c_ks),.int .i64 (findI (fun z=>B (TEq z (.mk k v (de cX c_ks)))) (de cX c_xs)))
  | _=>(False,.any)
theorem zajz:ConOk Tryd.prog 80 zafd:=by
  refine ⟨Qq Tryd.func80 (by decide) rfl,fun args h=>?_⟩
  revert h
  dsimp only
  split
  · intro h
    obtain ⟨⟨xs,rfl,rfl⟩,⟨ks,rfl,rfl⟩⟩:=h
    try simp only [Qj] at *
    exact ⟨l5Find_pure xs _ _ ks,by simp [go_sem]⟩
  · intro h
    exact h.elim
@[go_sem] def Γy6:FuncId → Con:=ext Γy5 80 zafd
theorem Γy6_ok:∀ g,ConOk Tryd.prog g (Γy6 g):=Qp Vt zajz

def hasF (x i:Int):Bool:=decide (bitsD .and .i64 (x.fdiv (2 ^ (min (IntKind.u64.wrap i).toNat 64))) 1 = 1)
theorem wrapu_nn (i:Int):0 ≤ IntKind.u64.wrap i:=by
  unfold IntKind.wrap;simp [IntKind.bits,IntKind.signed];omega

theorem l6Has_pure (x:Int) (i:Int)  : Pure Tryd.prog 79 [.int .i64 x,.int .i64 i] (.bool (hasF x i)):=by
  refine Pure.of_walk Tryd.func79 rfl (by simp [Tryd.f79]) (by simp [-zd,go_sem]) fun B hK=>?_
  (repeat' (first
 | refine Qu ?_
 | refine Qc (id:=0) Γy6_ok [] (by kernel_rfl) ?_;simp [-zg,-zd,↓Qb,↓Qa,go_sem]
 | refine Qc (id:=1) Γy6_ok [] (by kernel_rfl) ?_;simp [-zg,-zd,↓Qb,↓Qa,go_sem,wrapu_nn i,hasF]
 | (refine Qh ?_)
 | (refine Qt ?_;simp [-zg,-zd,↓Qb,↓Qa,go_sem])
 | (refine Qs ?_;simp [-zg,-zd,↓Qb,↓Qa,go_sem])
 | (refine Qv ?_;simp [-zg,-zd,↓Qb,↓Qa,go_sem,Tryd.results79])
 | (intro hx;refine zA ?_)
 | (refine ⟨?_,?_⟩ <;> refine zA ?_)
 | (intro hx;constructor <;> intro hs)
 | (constructor <;> intro hs)
 | (refine ⟨?_,fun hs=>?_⟩;refine zA ?_)
 | (refine ⟨fun hs=>?_,?_⟩;rotate_left;refine zA ?_;rotate_left)))
@[go_sem] def zagg:Con:=.pure fun
  | [.int .i64 x,.int .i64 i]=>(True,.bool (hasF x i))
  | _=>(False,.any)
theorem l6Has_pureC_ok:ConOk Tryd.prog 79 zagg:=by
  refine ⟨Qq Tryd.func79 (by decide) rfl,fun args h=>?_⟩
  revert h
  dsimp only
  split
  · intro h
    skip
    skip
    exact ⟨l6Has_pure _ _,by simp [go_sem]⟩
  · intro h
    exact h.elim
@[go_sem] def Γy7:FuncId → Con:=ext Γy6 79 zagg
theorem Γy7_ok:∀ g,ConOk Tryd.prog g (Γy7 g):=Qp Γy6_ok l6Has_pureC_ok

theorem l7Basic_pure (k:Int) (v:Int) (ks:List Tree)  : Pure Tryd.prog 77 [.st [.int .i64 k,.int .i64 v,li cX ks]] (.bool (decide (k = 2) || decide (k = 6) || decide (k = 7) || decide (k = 8))):=by
  refine Pure.of_walk Tryd.func77 rfl (by simp [Tryd.f77]) (by simp [-zd,go_sem]) fun B hK=>?_
  (repeat' (first
 | refine Qu ?_
 | refine Qc (id:=0) Γy7_ok [] (by kernel_rfl) ?_;simp [-zg,-zd,↓Qb,↓Qa,go_sem];try (refine Xn hK 1 ?_;simp [go_sem])
 | refine Qc (id:=1) Γy7_ok [6,11,16] (by kernel_rfl) ?_;simp [-zg,-zd,↓Qb,↓Qa,go_sem];try (refine ⟨fun s1a=>?_,fun s1a=>?_⟩ <;> (try simp [B_iff,B_not] at s1a) <;> try (refine ⟨fun s1b=>?_,fun s1b=>?_⟩ <;> (try simp [B_iff,B_not] at s1b) <;> try (refine ⟨fun s1c=>?_,fun s1c=>?_⟩ <;> (try simp [B_iff,B_not] at s1c) <;> try (refine ⟨fun s1d=>?_,fun s1d=>?_⟩ <;> (try simp [B_iff,B_not] at s1d)))))
 | (refine Qh ?_)
 | (refine Qt ?_;simp [-zg,-zd,↓Qb,↓Qa,go_sem])
 | (refine Qs ?_;simp [-zg,-zd,↓Qb,↓Qa,go_sem])
 | (refine Qv ?_;simp [-zg,-zd,↓Qb,↓Qa,go_sem,Tryd.results77])
 | (intro hx;refine zA ?_)
 | (refine ⟨?_,?_⟩ <;> refine zA ?_)
 | (intro hx;constructor <;> intro hs)
 | (constructor <;> intro hs)
 | (refine ⟨?_,fun hs=>?_⟩;refine zA ?_)
 | (refine ⟨fun hs=>?_,?_⟩;rotate_left;refine zA ?_;rotate_left)))
  all_goals (first
 | (simp_all;done)
 | (intros;simp_all;done)
 | skip)
@[go_sem] def zadw:Con:=.pure fun
  | [.st [.int .i64 k,.int .i64 v,.list n_ks c_ks]]=>((Is cX n_ks c_ks),.bool (decide (k = 2) || decide (k = 6) || decide (k = 7) || decide (k = 8)))
  | _=>(False,.any)
theorem zaiv:ConOk Tryd.prog 77 zadw:=by
  refine ⟨Qq Tryd.func77 (by decide) rfl,fun args h=>?_⟩
  revert h
  dsimp only
  split
  · intro h
    obtain ⟨ks,rfl,rfl⟩:=h
    try simp only [Qj] at *
    exact ⟨l7Basic_pure _ _ ks,by simp [go_sem]⟩
  · intro h
    exact h.elim
@[go_sem] def Γy8:FuncId → Con:=ext Γy7 77 zadw
theorem Jj:∀ g,ConOk Tryd.prog g (Γy8 g):=Qp Γy7_ok zaiv

def dualF (k:Int):Int:=if k = 4 then 5 else if k = 5 then 4 else if k = 7 then 8 else 7

theorem l5Dual_pure (k:Int)  : Pure Tryd.prog 94 [.int .i64 k] (.int .i64 (dualF k)):=by
  refine Pure.of_walk Tryd.func94 rfl (by simp [Tryd.f94]) (by simp [-zd,go_sem]) fun B hK=>?_
  (repeat' (first
 | refine Qu ?_
 | refine Qc (id:=0) Jj [] (by kernel_rfl) ?_;simp [-zg,-zd,↓Qb,↓Qa,go_sem]
 | refine Qc (id:=1) Jj [] (by kernel_rfl) ?_;simp [-zg,-zd,↓Qb,↓Qa,go_sem]
 | refine Qc (id:=2) Jj [] (by kernel_rfl) ?_;simp [-zg,-zd,↓Qb,↓Qa,go_sem]
 | refine Qc (id:=3) Jj [] (by kernel_rfl) ?_;simp [-zg,-zd,↓Qb,↓Qa,go_sem]
 | refine Qc (id:=4) Jj [] (by kernel_rfl) ?_;simp [-zg,-zd,↓Qb,↓Qa,go_sem]
 | refine Qc (id:=5) Jj [] (by kernel_rfl) ?_;simp [-zg,-zd,↓Qb,↓Qa,go_sem]
 | refine Qc (id:=6) Jj [] (by kernel_rfl) ?_;simp [-zg,-zd,↓Qb,↓Qa,go_sem]
 | refine Qc (id:=7) Jj [] (by kernel_rfl) ?_;simp [-zg,-zd,↓Qb,↓Qa,go_sem]
 | refine Qc (id:=8) Jj [] (by kernel_rfl) ?_;simp [-zg,-zd,↓Qb,↓Qa,go_sem]
 | refine Qd (c:=.tmp 4) ?_;simp [-zg,-zd,↓Qb,↓Qa,go_sem];try first | (refine ⟨?_,?_⟩ <;> refine zA ?_) | (refine ⟨fun c4=>?_,fun c4=>?_⟩ <;> (try simp [B_iff,B_not] at c4))
 | refine Qd (c:=.tmp 6) ?_;simp [-zg,-zd,↓Qb,↓Qa,go_sem];try first | (refine ⟨?_,?_⟩ <;> refine zA ?_) | (refine ⟨fun c6=>?_,fun c6=>?_⟩ <;> (try simp [B_iff,B_not] at c6))
 | refine Qd (c:=.tmp 8) ?_;simp [-zg,-zd,↓Qb,↓Qa,go_sem];try first | (refine ⟨?_,?_⟩ <;> refine zA ?_) | (refine ⟨fun c8=>?_,fun c8=>?_⟩ <;> (try simp [B_iff,B_not] at c8))
 | (refine Qh ?_)
 | (refine Qt ?_;simp [-zg,-zd,↓Qb,↓Qa,go_sem])
 | (refine Qs ?_;simp [-zg,-zd,↓Qb,↓Qa,go_sem])
 | (refine Qv ?_;simp [-zg,-zd,↓Qb,↓Qa,go_sem,Tryd.results94])
 | (intro hx;refine zA ?_)
 | (refine ⟨?_,?_⟩ <;> refine zA ?_)
 | (intro hx;constructor <;> intro hs)
 | (constructor <;> intro hs)
 | (refine ⟨?_,fun hs=>?_⟩;refine zA ?_)
 | (refine ⟨fun hs=>?_,?_⟩;rotate_left;refine zA ?_;rotate_left)))
  all_goals (first
 | (unfold dualF;simp_all;done)
 | (unfold dualF;(repeat' split) <;> omega)
 | skip)
@[go_sem] def zafe:Con:=.pure fun
  | [.int .i64 k]=>(True,.int .i64 (dualF k))
  | _=>(False,.any)
theorem zaka:ConOk Tryd.prog 94 zafe:=by
  refine ⟨Qq Tryd.func94 (by decide) rfl,fun args h=>?_⟩
  revert h
  dsimp only
  split
  · intro h
    skip
    skip
    exact ⟨l5Dual_pure _,by simp [go_sem]⟩
  · intro h
    exact h.elim
@[go_sem] def Γy9:FuncId → Con:=ext Γy8 94 zafe
theorem Γy9_ok:∀ g,ConOk Tryd.prog g (Γy9 g):=Qp Jj zaka

end
end Go.Proofs.YtnfldmfamnhpcaaDoor.Vm

