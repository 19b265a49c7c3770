import Derived.Test.YtiilmjojffjhlaaGreatDoorZE
/-
  Formulas: their shape, their size, where they are valid. No conditions.
-/
namespace Go.Proofs.YtiilmjojffjhlaaGreatDoor.Vm
open Go
open Nat renaming sub_pos_of_lt → zsP
open List renaming getD_eq_getElem?_getD → zg,drop_one → zd
noncomputable section
set_option linter.unusedVariables false
set_option linter.unusedSimpArgs false
set_option maxRecDepth 200000

@[go_sem] def Γy0:FuncId → Con:=Γz3
theorem Γy0_ok:∀ g,ConOk Tryz.prog g (Γy0 g):=Γz3_ok

def arF (k:Int):Int:=if k = 1 ∨ k = 2 then 0 else if k = 3 ∨ k = 6 ∨ k = 9 ∨ k = 10 then 1 else if k = 4 ∨ k = 5 ∨ k = 7 ∨ k = 8 then 2 else -1
def ShapeF:Nat → Tree → Prop
  | 0,_=>False
  | d + 1,t=>(t.ks.length:Int) = arF t.k ∧ 0 ≤ t.v ∧ t.v < 3 ∧ (t.k = 2 ∨ t.v = 0) ∧ ∀ i,i < t.ks.length → ShapeF d (nth t.ks i)
theorem arF_le (k:Int):arF k ≤ 2:=by unfold arF;split;omega;split;omega;split <;> omega
theorem ShapeF.two {d:Nat} {t:Tree} (h:ShapeF d t):t.ks.length ≤ 2:=by
  cases d with
  | zero=>exact h.elim
  | succ d=>have:=h.1;have:=arF_le t.k;omega
theorem zapp {d:Int} (h:1 ≤ d) {k v:Int} {ks:List Tree}:ShapeF d.toNat (.mk k v ks) ↔ (ks.length:Int) = arF k ∧ 0 ≤ v ∧ v < 3 ∧ (k = 2 ∨ v = 0) ∧ ∀ i,i < ks.length → ShapeF (d.toNat - 1) (nth ks i):=by
  obtain ⟨d',e⟩:∃ d',d.toNat = d' + 1:=⟨d.toNat - 1,by omega⟩
  rw [e,Nat.add_sub_cancel];exact Iff.rfl
theorem cntF_rng:∀ (d:Nat) (t:Tree),ShapeF d t → 1 ≤ cntT d t ∧ cntT d t ≤ ((4 ^ d:Nat):Int)
  | 0,t,h=>h.elim
  | d + 1,t,h=>by
    have h2:=h.two
    have h3:=zasa (m:=cntT d) (ks:=t.ks) (M:=((4 ^ d:Nat):Int)) (fun i hi=>cntF_rng d _ (h.2.2.2.2 i hi)) t.ks.length (Nat.le_refl _)
    have p:1 ≤ 4 ^ d:=Nat.one_le_pow _ _ (by omega)
    have h4:(t.ks.length:Int) * ((4 ^ d:Nat):Int) ≤ 2 * ((4 ^ d:Nat):Int):=Int.mul_le_mul_of_nonneg_right (by omega) (by omega)
    have h5:4 ^ (d + 1) = 4 * 4 ^ d:=by rw [Nat.pow_succ,Nat.mul_comm]
    rw [cntT,h5]
    omega
theorem cntF_bd {d:Nat} {t:Tree} (h:ShapeF d t) (hd:d ≤ 20):1 ≤ cntT d t ∧ cntT d t ≤ 1099511627776:=by
  have:=cntF_rng d t h;have:=pow_le20 hd;omega
theorem shapeF_at {d:Int} {k v:Int} {ks:List Tree} (h:ShapeF d.toNat (.mk k v ks)):1 ≤ d ∧ (ks.length:Int) = arF k ∧ ks.length ≤ 2 ∧ (0 ≤ v ∧ v < 3) ∧ ∀ i,i < ks.length → ShapeF (d.toNat - 1) (nth ks i):=by
  have h1:1 ≤ d:=by
    rcases Int.lt_or_le d 1 with q | q
    · rw [show d.toNat = 0 by omega] at h;exact h.elim
    · exact q
  obtain ⟨q1,q2,q3,_,q4⟩:=(zapp h1).1 h
  exact ⟨h1,q1,h.two,⟨q2,q3⟩,q4⟩
def WellF (t:Tree):Prop:=∃ d,ShapeF d t
theorem WellF.at {k v:Int} {ks:List Tree} (h:WellF (.mk k v ks)):(ks.length:Int) = arF k ∧ 0 ≤ v ∧ v < 3 ∧ ∀ i,i < ks.length → WellF (nth ks i):=by
  obtain ⟨d,h⟩:=h
  cases d with
  | zero=>exact h.elim
  | succ d=>obtain ⟨q1,q2,q3,_,q4⟩:=h;exact ⟨q1,q2,q3,fun i hi=>⟨d,q4 i hi⟩⟩
def ForOk (t:Tree):Prop:=ShapeF 6 t ∧ cntT 6 t ≤ 12
theorem ForOk.well {t:Tree} (h:ForOk t):WellF t:=⟨6,h.1⟩

set_option maxHeartbeats 4000000 in
theorem l5Arity_pure (k:Int)  : Pure Tryz.prog 150 [.int .i64 k] (.int .i64 (arF k)):=by
  refine Pure.of_walk Tryz.func150 rfl (by simp [Tryz.f150]) (by simp [-zd,go_sem]) fun B hK=>?_
  (repeat' (first
 | refine Qt ?_
 | (refine Qe ?_)
 | (refine Qs ?_;simp [-zg,-zd,↓Qb,↓Qa,go_sem])
 | (refine Qr ?_;simp [-zg,-zd,↓Qb,↓Qa,go_sem])
 | (refine Qq ?_;simp [-zg,-zd,↓Qb,↓Qa,go_sem,Tryz.results150])
 | (intro hx;refine zA ?_)
 | (refine ⟨?_,?_⟩ <;> refine zA ?_)
 | (intro hx;constructor <;> intro hs)
 | (constructor <;> intro hs)
 | (refine ⟨?_,fun hs=>?_⟩;refine zA ?_)
 | (refine ⟨fun hs=>?_,?_⟩;rotate_left;refine zA ?_;rotate_left)
 | (refine Qj ?_;simp [-zg,-zd,↓Qb,↓Qa,go_sem];try first | (refine ⟨?_,?_⟩ <;> refine zA ?_) | (refine ⟨fun cz=>?_,fun cz=>?_⟩ <;> (try simp [B_iff,B_not] at cz)))
 | (refine Qc Γy0_ok [] (by kernel_rfl) ?_;simp [-zg,-zd,↓Qb,↓Qa,go_sem])
 | fail))
  all_goals (first
 | (unfold arF;simp_all;done)
 | (unfold arF;(repeat' split) <;> omega)
 | skip)
@[go_sem] def zaig:Con:=.pure fun
  | [.int .i64 k]=>(True,.int .i64 (arF k))
  | _=>(False,.any)
theorem zaqz:ConOk Tryz.prog 150 zaig:=by
  refine ⟨Qo Tryz.func150 (by decide) rfl,fun args h=>?_⟩
  revert h
  dsimp only
  split
  · intro h
    skip
    skip
    exact ⟨l5Arity_pure _,by simp [go_sem]⟩
  · intro h
    exact h.elim
@[go_sem] def Γy1:FuncId → Con:=ext Γy0 150 zaig
theorem Γy1_ok:∀ g,ConOk Tryz.prog g (Γy1 g):=Qn Γy0_ok zaqz

@[go_sem] def zalf (n_:Nat):Con:=.pure fun
  | [.st [.int .i64 k,.int .i64 v,.list n_ks c_ks],.int .i64 d]=>((Is cX n_ks c_ks) ∧ (d ≤ 1000000) ∧ (d.toNat < n_),.bool (B (ShapeF d.toNat (.mk k v (de cX c_ks)))))
  | _=>(False,.any)
theorem zanz {n_:Nat} (ih:∀ (k:Int) (v:Int) (ks:List Tree) (d:Int) (h0:d ≤ 1000000) (hm_:d.toNat < n_),Pure Tryz.prog 151 [.st [.int .i64 k,.int .i64 v,li cX ks],.int .i64 d] (.bool (B (ShapeF d.toNat (.mk k v ks))))):ConOk Tryz.prog 151 (zalf n_):=by
  refine ⟨Qo Tryz.func151 (by decide) rfl,fun args h=>?_⟩
  revert h
  dsimp only
  split
  · intro h
    obtain ⟨⟨ks,rfl,rfl⟩,h0,hm_⟩:=h
    try simp only [Qm] at *
    exact ⟨ih _ _ ks _ h0 hm_,by simp [go_sem]⟩
  · intro h
    exact h.elim
set_option maxHeartbeats 1000000 in
theorem zaqs:∀ (n_:Nat),∀ (k:Int) (v:Int) (ks:List Tree) (d:Int) (h0:d ≤ 1000000) (hm_:d.toNat < n_),Pure Tryz.prog 151 [.st [.int .i64 k,.int .i64 v,li cX ks],.int .i64 d] (.bool (B (ShapeF d.toNat (.mk k v ks)))):=by
  intro n_
  induction n_ with
  | zero=>intros;omega
  | succ n_ ih =>
  intro k v ks d h0 hm_
  have Γr_ok:=Qn Γy1_ok (zanz ih)
  refine Pure.of_walk Tryz.func151 rfl (by simp [Tryz.f151]) (by simp [-zd,go_sem]) fun B hK=>?_
  (repeat' (first
 | refine Qt ?_
 | refine Qc (id:=0) Γr_ok [] (by kernel_rfl) ?_;simp [-zg,-zd,↓Qb,↓Qa,go_sem];try (refine Xh hK 2 ?_;simp [go_sem])
 | (refine Wk 2 2 ⟨rfl,rfl⟩ fun hm=>?_);refine Xn (id:=1) Γr_ok mixed [8] [2] (by kernel_rfl) (by kernel_rfl) ?_ ?_ <;> simp [-zg,-zd,↓Qb,↓Qa,go_sem];try (refine ⟨fun s1a=>?_,fun s1a=>?_⟩ <;> (try simp [B_iff,B_not] at s1a) <;> try (refine ⟨fun s1b=>?_,fun s1b=>?_⟩ <;> (try simp [B_iff,B_not] at s1b)))
 | refine Qc (id:=3) Γr_ok [20,25,29] (by kernel_rfl) ?_;simp [-zg,-zd,↓Qb,↓Qa,go_sem];try (refine ⟨fun s3a=>?_,fun s3a=>?_⟩ <;> (try simp [B_iff,B_not] at s3a) <;> try (refine ⟨fun s3b=>?_,fun s3b=>?_⟩ <;> (try simp [B_iff,B_not] at s3b) <;> try (refine ⟨fun s3c=>?_,fun s3c=>?_⟩ <;> (try simp [B_iff,B_not] at s3c) <;> try (refine ⟨fun s3d=>?_,fun s3d=>?_⟩ <;> (try simp [B_iff,B_not] at s3d)))))
 | refine Qc (id:=8) Γr_ok [] (by kernel_rfl) ?_;simp [-zg,-zd,↓Qb,↓Qa,go_sem,c39,Qk c39,zsP c39,Xa (x:=d - 1) (by omega) (by omega),(show d - 1 ≤ 1000000 by omega),(show d ≤ 1000000 + 1 by omega),(show d.toNat - 1 < n_ by omega),(show 0 < d.toNat by omega),Tree.eta]
 | refine Qc (id:=7) Γr_ok [] (by kernel_rfl) ?_;simp [-zg,-zd,↓Qb,↓Qa,go_sem,wrapS (k:=i) (by omega)]
 | refine Qj (c:=.tmp 39) ?_;simp [-zg,-zd,↓Qb,↓Qa,go_sem];try first | (refine ⟨?_,?_⟩ <;> refine zA ?_) | (refine ⟨fun c39=>?_,fun c39=>?_⟩ <;> (try simp [B_iff,B_not] at c39))
 | refine Qj (c:=.tmp 50) ?_;simp [-zg,-zd,↓Qb,↓Qa,go_sem];try first | (refine ⟨?_,?_⟩ <;> refine zA ?_) | (refine ⟨fun c50=>?_,fun c50=>?_⟩ <;> (try simp [B_iff,B_not] at c50))
 | (refine Qe (id:=0) (Qw (ι:=Nat) (fun i:Nat=>⟨(upd (upd (upd (fun _=>.any) 1 (.int .i64 d)) 2 (.pd [.int .i64 k,.int .i64 v,li cX ks])) 5 (.int .i64 i)),fun _=>none⟩) (fun i=>i ≤ ks.length ∧ AllTill (fun i=>ShapeF (d.toNat - 1) (nth ks i)) i) (fun i=>ks.length - i) (0) ?_ ?_ ?_);exact ⟨Nat.zero_le _,.zero _⟩;((repeat' (first | exact Qg (by assumption) | exact Qi | refine Qf ?_ ?_ | refine Qh ?_)) <;> simp [-zg,-zd,↓Qb,↓Qa,go_sem]);rintro i ⟨hi,hu⟩)
 | (refine ⟨i + 1,⟨by omega,hu.succ c50⟩,by first | omega | (simp;done) | (simp;omega),?_⟩;((repeat' (first | exact Qg (by assumption) | exact Qi | refine Qf ?_ ?_ | refine Qh ?_)) <;> simp [-zg,-zd,↓Qb,↓Qa,go_sem]))
 | (refine Qe ?_)
 | (refine Qs ?_;simp [-zg,-zd,↓Qb,↓Qa,go_sem])
 | (refine Qr ?_;simp [-zg,-zd,↓Qb,↓Qa,go_sem])
 | (refine Qq ?_;simp [-zg,-zd,↓Qb,↓Qa,go_sem,Tryz.results151])
 | (intro hx;refine zA ?_)
 | (refine ⟨?_,?_⟩ <;> refine zA ?_)
 | (intro hx;constructor <;> intro hs)
 | (constructor <;> intro hs)
 | (refine ⟨?_,fun hs=>?_⟩;refine zA ?_)
 | (refine ⟨fun hs=>?_,?_⟩;rotate_left;refine zA ?_;rotate_left)
 | (refine Qj ?_;simp [-zg,-zd,↓Qb,↓Qa,go_sem];try first | (refine ⟨?_,?_⟩ <;> refine zA ?_) | (refine ⟨fun cz=>?_,fun cz=>?_⟩ <;> (try simp [B_iff,B_not] at cz)))
 | (refine Qc Γr_ok [] (by kernel_rfl) ?_;simp [-zg,-zd,↓Qb,↓Qa,go_sem])
 | fail))
  all_goals (first
 | (rw [zapp (by omega)];exact ⟨by omega,by omega,by omega,by omega,fun j hj=>hu j (by omega)⟩)
 | (intro h;rw [show d.toNat = 0 by omega] at h;exact h)
 | (rw [zapp (by omega)];rintro ⟨q1,q2,q3,q4,q5⟩;first | (exact absurd (q5 i (by assumption)) (by assumption)) | (exfalso;omega))
 | skip)
theorem l5Shape_pure (k:Int) (v:Int) (ks:List Tree) (d:Int) (h0:d ≤ 1000000):Pure Tryz.prog 151 [.st [.int .i64 k,.int .i64 v,li cX ks],.int .i64 d] (.bool (B (ShapeF d.toNat (.mk k v ks)))):=zaqs (d.toNat + 1) k v ks d h0 (by omega)
@[go_sem] def zaie:Con:=.pure fun
  | [.st [.int .i64 k,.int .i64 v,.list n_ks c_ks],.int .i64 d]=>((Is cX n_ks c_ks) ∧ (d ≤ 1000000),.bool (B (ShapeF d.toNat (.mk k v (de cX c_ks)))))
  | _=>(False,.any)
theorem zaqt:ConOk Tryz.prog 151 zaie:=by
  refine ⟨Qo Tryz.func151 (by decide) rfl,fun args h=>?_⟩
  revert h
  dsimp only
  split
  · intro h
    obtain ⟨⟨ks,rfl,rfl⟩,h0⟩:=h
    try simp only [Qm] at *
    exact ⟨l5Shape_pure _ _ ks _ h0,by simp [go_sem]⟩
  · intro h
    exact h.elim
@[go_sem] def Γy2:FuncId → Con:=ext Γy1 151 zaie
theorem Γy2_ok:∀ g,ConOk Tryz.prog g (Γy2 g):=Qn Γy1_ok zaqt

@[go_sem] def zalh (n_:Nat):Con:=.pure fun
  | [.st [.int .i64 k,.int .i64 v,.list n_ks c_ks],.int .i64 d]=>((Is cX n_ks c_ks) ∧ (d ≤ 20) ∧ (ShapeF d.toNat (.mk k v (de cX c_ks))) ∧ (d.toNat < n_),.int .i64 (cntT d.toNat (.mk k v (de cX c_ks))))
  | _=>(False,.any)
theorem zaoa {n_:Nat} (ih:∀ (k:Int) (v:Int) (ks:List Tree) (d:Int) (h0:d ≤ 20) (hS:ShapeF d.toNat (.mk k v ks)) (hm_:d.toNat < n_),Pure Tryz.prog 152 [.st [.int .i64 k,.int .i64 v,li cX ks],.int .i64 d] (.int .i64 (cntT d.toNat (.mk k v ks)))):ConOk Tryz.prog 152 (zalh n_):=by
  refine ⟨Qo Tryz.func152 (by decide) rfl,fun args h=>?_⟩
  revert h
  dsimp only
  split
  · intro h
    obtain ⟨⟨ks,rfl,rfl⟩,h0,hS,hm_⟩:=h
    try simp only [Qm] at *
    exact ⟨ih _ _ ks _ h0 hS hm_,by simp [go_sem]⟩
  · intro h
    exact h.elim
theorem zaqw:∀ (n_:Nat),∀ (k:Int) (v:Int) (ks:List Tree) (d:Int) (h0:d ≤ 20) (hS:ShapeF d.toNat (.mk k v ks)) (hm_:d.toNat < n_),Pure Tryz.prog 152 [.st [.int .i64 k,.int .i64 v,li cX ks],.int .i64 d] (.int .i64 (cntT d.toNat (.mk k v ks))):=by
  intro n_
  induction n_ with
  | zero=>intros;omega
  | succ n_ ih =>
  intro k v ks d h0 hS hm_
  have Γr_ok:=Qn Γy2_ok (zaoa ih)
  refine Pure.of_walk Tryz.func152 rfl (by simp [Tryz.f152]) (by simp [-zd,go_sem]) fun B hK=>?_
  obtain ⟨s1,s2,s3,s4,s5⟩:=shapeF_at hS;have hcb:∀ i,i < ks.length → 1 ≤ cntT (d.toNat - 1) (nth ks i) ∧ cntT (d.toNat - 1) (nth ks i) ≤ 1099511627776:=(fun i hi=>cntF_bd (s5 i hi) (by omega))
  all_goals (repeat' (first
 | refine Qt ?_
 | refine Qc (id:=0) Γr_ok [] (by kernel_rfl) ?_;simp [-zg,-zd,↓Qb,↓Qa,go_sem];try (refine Xh hK 2 ?_;simp [go_sem])
 | refine Qc (id:=3) Γr_ok [12] (by kernel_rfl) ?_;simp [-zg,-zd,↓Qb,↓Qa,go_sem,(show 0 < d by omega)];try (refine ⟨fun s3a=>?_,fun s3a=>?_⟩ <;> (try simp [B_iff,B_not] at s3a) <;> try (refine ⟨fun s3b=>?_,fun s3b=>?_⟩ <;> (try simp [B_iff,B_not] at s3b)))
 | (have q1:=zasa hcb i hi;have q2:=hcb i s3a);refine Qc (id:=5) Γr_ok [] (by kernel_rfl) ?_;simp [-zg,-zd,↓Qb,↓Qa,go_sem,s3a,Qk s3a,zsP s3a,Xa (x:=d - 1) (by omega) (by omega),(show d - 1 ≤ 20 by omega),(show d ≤ 20 + 1 by omega),(show d.toNat - 1 < n_ by omega),(show 0 < d.toNat by omega),Tree.eta,s5 i s3a,Xa (x:=1 + csum (cntT (d.toNat - 1)) ks i + cntT (d.toNat - 1) (nth ks i)) (by omega) (by omega)]
 | refine Qc (id:=4) Γr_ok [] (by kernel_rfl) ?_;simp [-zg,-zd,↓Qb,↓Qa,go_sem,wrapS (k:=i) (by omega)]
 | (refine Qe (id:=0) (Qw (ι:=Nat) (fun i:Nat=>⟨(upd (upd (upd (upd (fun _=>.any) 1 (.int .i64 d)) 2 (.pd [.int .i64 k,.int .i64 v,li cX ks])) 5 (.int .i64 (1 + csum (cntT (d.toNat - 1)) ks i))) 6 (.int .i64 i)),fun _=>none⟩) (fun i=>i ≤ ks.length) (fun i=>ks.length - i) (0) ?_ ?_ ?_);exact Nat.zero_le _;((repeat' (first | exact Qg (by assumption) | exact Qi | refine Qf ?_ ?_ | refine Qh ?_)) <;> simp [-zg,-zd,↓Qb,↓Qa,go_sem,csum_zero]);rintro i hi)
 | (refine ⟨i + 1,by omega,by first | omega | (simp;done) | (simp;omega),?_⟩;((repeat' (first | exact Qg (by assumption) | exact Qi | refine Qf ?_ ?_ | refine Qh ?_)) <;> simp [-zg,-zd,↓Qb,↓Qa,go_sem,csum_succ (cntT (d.toNat - 1)) s3a,Int.add_assoc]))
 | (refine Qe ?_)
 | (refine Qs ?_;simp [-zg,-zd,↓Qb,↓Qa,go_sem])
 | (refine Qr ?_;simp [-zg,-zd,↓Qb,↓Qa,go_sem])
 | (refine Qq ?_;simp [-zg,-zd,↓Qb,↓Qa,go_sem,Tryz.results152])
 | (intro hx;refine zA ?_)
 | (refine ⟨?_,?_⟩ <;> refine zA ?_)
 | (intro hx;constructor <;> intro hs)
 | (constructor <;> intro hs)
 | (refine ⟨?_,fun hs=>?_⟩;refine zA ?_)
 | (refine ⟨fun hs=>?_,?_⟩;rotate_left;refine zA ?_;rotate_left)
 | (refine Qj ?_;simp [-zg,-zd,↓Qb,↓Qa,go_sem];try first | (refine ⟨?_,?_⟩ <;> refine zA ?_) | (refine ⟨fun cz=>?_,fun cz=>?_⟩ <;> (try simp [B_iff,B_not] at cz)))
 | (refine Qc Γr_ok [] (by kernel_rfl) ?_;simp [-zg,-zd,↓Qb,↓Qa,go_sem])
 | fail))
  all_goals (first
 | (obtain ⟨d',e⟩:∃ d',d.toNat = d' + 1:=⟨d.toNat - 1,by omega⟩;obtain rfl:i = ks.length:=(by omega);rw [e];simp only [cntT,Nat.add_sub_cancel,Tree.ks])
 | skip)
theorem l5Count_pure (k:Int) (v:Int) (ks:List Tree) (d:Int) (h0:d ≤ 20) (hS:ShapeF d.toNat (.mk k v ks)):Pure Tryz.prog 152 [.st [.int .i64 k,.int .i64 v,li cX ks],.int .i64 d] (.int .i64 (cntT d.toNat (.mk k v ks))):=zaqw (d.toNat + 1) k v ks d h0 hS (by omega)
@[go_sem] def zaif:Con:=.pure fun
  | [.st [.int .i64 k,.int .i64 v,.list n_ks c_ks],.int .i64 d]=>((Is cX n_ks c_ks) ∧ (d ≤ 20) ∧ (ShapeF d.toNat (.mk k v (de cX c_ks))),.int .i64 (cntT d.toNat (.mk k v (de cX c_ks))))
  | _=>(False,.any)
theorem zaqx:ConOk Tryz.prog 152 zaif:=by
  refine ⟨Qo Tryz.func152 (by decide) rfl,fun args h=>?_⟩
  revert h
  dsimp only
  split
  · intro h
    obtain ⟨⟨ks,rfl,rfl⟩,h0,hS⟩:=h
    try simp only [Qm] at *
    exact ⟨l5Count_pure _ _ ks _ h0 hS,by simp [go_sem]⟩
  · intro h
    exact h.elim
@[go_sem] def Γy3:FuncId → Con:=ext Γy2 152 zaif
theorem Γy3_ok:∀ g,ConOk Tryz.prog g (Γy3 g):=Qn Γy2_ok zaqx

theorem zaog (k:Int) (v:Int) (ks:List Tree)  : Pure Tryz.prog 112 [.st [.int .i64 k,.int .i64 v,li cX ks]] (.bool (B (ForOk (.mk k v ks)))):=by
  refine Pure.of_walk Tryz.func112 rfl (by simp [Tryz.f112]) (by simp [-zd,go_sem]) fun B hK=>?_
  cases hs:Vm.B (ShapeF 6 (.mk k v ks))
  all_goals (repeat' (first
 | refine Qt ?_
 | refine Qc (id:=0) Γy3_ok [] (by kernel_rfl) ?_;simp [-zg,-zd,↓Qb,↓Qa,go_sem];try (refine Xh hK 1 ?_;simp [go_sem])
 | ((try (have hS:ShapeF 6 (.mk k v ks):=(by rw [B_iff] at hs;exact hs)));skip);refine Qc (id:=1) Γy3_ok [5] (by kernel_rfl) ?_;simp [-zg,-zd,↓Qb,↓Qa,go_sem,hs,hS];try (refine ⟨fun s1a=>?_,fun s1a=>?_⟩ <;> (try simp [B_iff,B_not] at s1a) <;> try (refine ⟨fun s1b=>?_,fun s1b=>?_⟩ <;> (try simp [B_iff,B_not] at s1b)))
 | refine Qc (id:=1) Γy3_ok [5] (by kernel_rfl) ?_;simp [-zg,-zd,↓Qb,↓Qa,go_sem,hs];try (refine ⟨fun s1a=>?_,fun s1a=>?_⟩ <;> (try simp [B_iff,B_not] at s1a) <;> try (refine ⟨fun s1b=>?_,fun s1b=>?_⟩ <;> (try simp [B_iff,B_not] at s1b)))
 | (refine Qe ?_)
 | (refine Qs ?_;simp [-zg,-zd,↓Qb,↓Qa,go_sem])
 | (refine Qr ?_;simp [-zg,-zd,↓Qb,↓Qa,go_sem])
 | (refine Qq ?_;simp [-zg,-zd,↓Qb,↓Qa,go_sem,Tryz.results112])
 | (intro hx;refine zA ?_)
 | (refine ⟨?_,?_⟩ <;> refine zA ?_)
 | (intro hx;constructor <;> intro hs)
 | (constructor <;> intro hs)
 | (refine ⟨?_,fun hs=>?_⟩;refine zA ?_)
 | (refine ⟨fun hs=>?_,?_⟩;rotate_left;refine zA ?_;rotate_left)))
  all_goals (first
 | (rw [eq_comm,B_not];intro h;have:=B_yes h.1;rw [hs] at this;cases this;done)
 | (rw [B_not];intro h;have:=B_yes h.1;rw [hs] at this;cases this;done)
 | (rw [Bool.eq_iff_iff,B_iff,decide_eq_true_eq];exact ⟨fun h=>⟨hS,h⟩,fun h=>h.2⟩)
 | (intro h;have:=B_yes h.1;rw [hs] at this;cases this;done)
 | skip)
@[go_sem] def zadw:Con:=.pure fun
  | [.st [.int .i64 k,.int .i64 v,.list n_ks c_ks]]=>((Is cX n_ks c_ks),.bool (B (ForOk (.mk k v (de cX c_ks)))))
  | _=>(False,.any)
theorem zajm:ConOk Tryz.prog 112 zadw:=by
  refine ⟨Qo Tryz.func112 (by decide) rfl,fun args h=>?_⟩
  revert h
  dsimp only
  split
  · intro h
    obtain ⟨ks,rfl,rfl⟩:=h
    try simp only [Qm] at *
    exact ⟨zaog _ _ ks,by simp [go_sem]⟩
  · intro h
    exact h.elim
@[go_sem] def Γy4:FuncId → Con:=ext Γy3 112 zadw
theorem Γy4_ok:∀ g,ConOk Tryz.prog g (Γy4 g):=Qn Γy3_ok zajm

def TEq (a b:Tree):Prop:=a = b
theorem teq_iff {k v k' v':Int} {ks ks':List Tree}:TEq (.mk k v ks) (.mk k' v' ks') ↔ k = k' ∧ v = v' ∧ ks.length = ks'.length ∧ ∀ i,i < ks.length → TEq (nth ks i) (nth ks' i):=by
  unfold TEq
  rw [Tree.mk.injEq]
  constructor
  · rintro ⟨rfl,rfl,rfl⟩;exact ⟨rfl,rfl,rfl,fun _ _=>rfl⟩
  · rintro ⟨h1,h2,h3,h4⟩
    refine ⟨h1,h2,List.ext_getElem h3 fun i p q=>?_⟩
    rw [← Xc p,← Xc q];exact h4 i p

@[go_sem] def zagr (n_:Nat):Con:=.pure fun
  | [.st [.int .i64 k,.int .i64 v,.list n_ks c_ks],.st [.int .i64 k',.int .i64 v',.list n_ls c_ls]]=>((Is cX n_ks c_ks) ∧ (Is cX n_ls c_ls) ∧ (tsz (.mk k v (de cX c_ks)) < n_),.bool (B (TEq (.mk k v (de cX c_ks)) (.mk k' v' (de cX c_ls)))))
  | _=>(False,.any)
theorem zajn {n_:Nat} (ih:∀ (k:Int) (v:Int) (ks:List Tree) (k':Int) (v':Int) (ls:List Tree)  (hm_:tsz (.mk k v ks) < n_),Pure Tryz.prog 182 [.st [.int .i64 k,.int .i64 v,li cX ks],.st [.int .i64 k',.int .i64 v',li cX ls]] (.bool (B (TEq (.mk k v ks) (.mk k' v' ls))))):ConOk Tryz.prog 182 (zagr n_):=by
  refine ⟨Qo Tryz.func182 (by decide) rfl,fun args h=>?_⟩
  revert h
  dsimp only
  split
  · intro h
    obtain ⟨⟨ks,rfl,rfl⟩,⟨ls,rfl,rfl⟩,hm_⟩:=h
    try simp only [Qm] at *
    exact ⟨ih _ _ ks _ _ ls hm_,by simp [go_sem]⟩
  · intro h
    exact h.elim
set_option maxHeartbeats 1000000 in
theorem zakr:∀ (n_:Nat),∀ (k:Int) (v:Int) (ks:List Tree) (k':Int) (v':Int) (ls:List Tree)  (hm_:tsz (.mk k v ks) < n_),Pure Tryz.prog 182 [.st [.int .i64 k,.int .i64 v,li cX ks],.st [.int .i64 k',.int .i64 v',li cX ls]] (.bool (B (TEq (.mk k v ks) (.mk k' v' ls)))):=by
  intro n_
  induction n_ with
  | zero=>intros;omega
  | succ n_ ih =>
  intro k v ks k' v' ls  hm_
  have Γr_ok:=Qn Γy4_ok (zajn ih)
  refine Pure.of_walk Tryz.func182 rfl (by simp [Tryz.f182]) (by simp [-zd,go_sem]) fun B hK=>?_
  (repeat' (first
 | refine Qt ?_
 | refine Qc (id:=0) Γr_ok [] (by kernel_rfl) ?_;simp [-zg,-zd,↓Qb,↓Qa,go_sem];try (refine Xh hK 2 ?_;simp [go_sem];refine Xh hK 3 ?_;simp [go_sem])
 | (refine Wk 2 2 ⟨rfl,rfl⟩ fun hm=>?_);refine Qc (id:=1) Γr_ok [11,18] (by kernel_rfl) ?_;simp [-zg,-zd,↓Qb,↓Qa,go_sem];try (refine ⟨fun s1a=>?_,fun s1a=>?_⟩ <;> (try simp [B_iff,B_not] at s1a) <;> try (refine ⟨fun s1b=>?_,fun s1b=>?_⟩ <;> (try simp [B_iff,B_not] at s1b) <;> try (refine ⟨fun s1c=>?_,fun s1c=>?_⟩ <;> (try simp [B_iff,B_not] at s1c))))
 | (have cy:i < ls.length:=(by omega);have qt:=Xt (k:=k) (v:=v) c31);refine Xn (id:=6) Γr_ok mixed [] [5] (by kernel_rfl) (by kernel_rfl) ?_ ?_ <;> simp [-zg,-zd,↓Qb,↓Qa,go_sem,c31,Qk c31,zsP c31,cy,Qk cy,zsP cy,Tree.eta,(show tsz (nth ks i) < n_ by omega)]
 | refine Qc (id:=5) Γr_ok [] (by kernel_rfl) ?_;simp [-zg,-zd,↓Qb,↓Qa,go_sem,wrapS (k:=i) (by omega)]
 | refine Qj (c:=.tmp 31) ?_;simp [-zg,-zd,↓Qb,↓Qa,go_sem];try first | (refine ⟨?_,?_⟩ <;> refine zA ?_) | (refine ⟨fun c31=>?_,fun c31=>?_⟩ <;> (try simp [B_iff,B_not] at c31))
 | refine Qj (c:=.tmp 45) ?_;simp [-zg,-zd,↓Qb,↓Qa,go_sem];try first | (refine ⟨?_,?_⟩ <;> refine zA ?_) | (refine ⟨fun c45=>?_,fun c45=>?_⟩ <;> (try simp [B_iff,B_not] at c45))
 | (refine Qe (id:=0) (Qw (ι:=Nat) (fun i:Nat=>⟨(upd (upd (upd (fun _=>.any) 2 (.pd [.int .i64 k,.int .i64 v,li cX ks])) 3 (.pd [.int .i64 k',.int .i64 v',li cX ls])) 5 (.int .i64 i)),fun _=>none⟩) (fun i=>i ≤ ks.length ∧ AllTill (fun i=>TEq (nth ks i) (nth ls i)) i) (fun i=>ks.length - i) (0) ?_ ?_ ?_);exact ⟨Nat.zero_le _,.zero _⟩;((repeat' (first | exact Qg (by assumption) | exact Qi | refine Qf ?_ ?_ | refine Qh ?_)) <;> simp [-zg,-zd,↓Qb,↓Qa,go_sem]);rintro i ⟨hi,hu⟩)
 | (refine ⟨i + 1,⟨by omega,hu.succ c45⟩,by first | omega | (simp;done) | (simp;omega),?_⟩;((repeat' (first | exact Qg (by assumption) | exact Qi | refine Qf ?_ ?_ | refine Qh ?_)) <;> simp [-zg,-zd,↓Qb,↓Qa,go_sem]))
 | (refine Qe ?_)
 | (refine Qs ?_;simp [-zg,-zd,↓Qb,↓Qa,go_sem])
 | (refine Qr ?_;simp [-zg,-zd,↓Qb,↓Qa,go_sem])
 | (refine Qq ?_;simp [-zg,-zd,↓Qb,↓Qa,go_sem,Tryz.results182])
 | (intro hx;refine zA ?_)
 | (refine ⟨?_,?_⟩ <;> refine zA ?_)
 | (intro hx;constructor <;> intro hs)
 | (constructor <;> intro hs)
 | (refine ⟨?_,fun hs=>?_⟩;refine zA ?_)
 | (refine ⟨fun hs=>?_,?_⟩;rotate_left;refine zA ?_;rotate_left)
 | (refine Qj ?_;simp [-zg,-zd,↓Qb,↓Qa,go_sem];try first | (refine ⟨?_,?_⟩ <;> refine zA ?_) | (refine ⟨fun cz=>?_,fun cz=>?_⟩ <;> (try simp [B_iff,B_not] at cz)))
 | (refine Qc Γr_ok [] (by kernel_rfl) ?_;simp [-zg,-zd,↓Qb,↓Qa,go_sem])
 | fail))
  all_goals (first
 | (rw [teq_iff];exact ⟨by omega,by omega,by omega,fun j hj=>hu j (by omega)⟩)
 | (rw [teq_iff];rintro ⟨q1,q2,q3,q4⟩;first | (exact absurd (q4 i (by assumption)) (by assumption)) | (exfalso;omega))
 | skip)
theorem zasn (k:Int) (v:Int) (ks:List Tree) (k':Int) (v':Int) (ls:List Tree)  : Pure Tryz.prog 182 [.st [.int .i64 k,.int .i64 v,li cX ks],.st [.int .i64 k',.int .i64 v',li cX ls]] (.bool (B (TEq (.mk k v ks) (.mk k' v' ls)))):=zakr (tsz (.mk k v ks) + 1) k v ks k' v' ls  (by omega)
@[go_sem] def zaej:Con:=.pure fun
  | [.st [.int .i64 k,.int .i64 v,.list n_ks c_ks],.st [.int .i64 k',.int .i64 v',.list n_ls c_ls]]=>((Is cX n_ks c_ks) ∧ (Is cX n_ls c_ls),.bool (B (TEq (.mk k v (de cX c_ks)) (.mk k' v' (de cX c_ls)))))
  | _=>(False,.any)
theorem zaks:ConOk Tryz.prog 182 zaej:=by
  refine ⟨Qo Tryz.func182 (by decide) rfl,fun args h=>?_⟩
  revert h
  dsimp only
  split
  · intro h
    obtain ⟨⟨ks,rfl,rfl⟩,⟨ls,rfl,rfl⟩⟩:=h
    try simp only [Qm] at *
    exact ⟨zasn _ _ ks _ _ ls,by simp [go_sem]⟩
  · intro h
    exact h.elim
@[go_sem] def Γy5:FuncId → Con:=ext Γy4 182 zaej
theorem Γy5_ok:∀ g,ConOk Tryz.prog g (Γy5 g):=Qn Γy4_ok zaks

theorem l5Find_pure (xs:List Tree) (k:Int) (v:Int) (ks:List Tree)  : Pure Tryz.prog 146 [li cX xs,.st [.int .i64 k,.int .i64 v,li cX ks]] (.int .i64 (findI (fun z=>B (TEq z (.mk k v ks))) xs)):=by
  refine Pure.of_walk Tryz.func146 rfl (by simp [Tryz.f146]) (by simp [-zd,go_sem]) fun B hK=>?_
  (repeat' (first
 | refine Qt ?_
 | (refine Jb 0 rfl fun hm=>?_);refine Qc (id:=0) Γy5_ok [] (by kernel_rfl) ?_;simp [-zg,-zd,↓Qb,↓Qa,go_sem];try (refine Xh hK 3 ?_;simp [go_sem])
 | refine Xn (id:=4) Γy5_ok mixed [] [] (by kernel_rfl) (by kernel_rfl) ?_ ?_ <;> simp [-zg,-zd,↓Qb,↓Qa,go_sem,c9,Qk c9,zsP c9,Tree.eta]
 | refine Qc (id:=3) Γy5_ok [] (by kernel_rfl) ?_;simp [-zg,-zd,↓Qb,↓Qa,go_sem,wrapS (k:=i) (by omega)]
 | refine Qj (c:=.tmp 9) ?_;simp [-zg,-zd,↓Qb,↓Qa,go_sem];try first | (refine ⟨?_,?_⟩ <;> refine zA ?_) | (refine ⟨fun c9=>?_,fun c9=>?_⟩ <;> (try simp [B_iff,B_not] at c9))
 | refine Qj (c:=.tmp 17) ?_;simp [-zg,-zd,↓Qb,↓Qa,go_sem];try first | (refine ⟨?_,?_⟩ <;> refine zA ?_) | (refine ⟨fun c17=>?_,fun c17=>?_⟩ <;> (try simp [B_iff,B_not] at c17))
 | (refine Qe (id:=0) (Qw (ι:=Nat) (fun i:Nat=>⟨(upd (upd (upd (fun _=>.any) 0 (li cX xs)) 3 (.pd [.int .i64 k,.int .i64 v,li cX ks])) 5 (.int .i64 i)),fun _=>none⟩) (fun i=>i ≤ xs.length ∧ NoneTill (fun i=>Vm.B (TEq (nth xs i) (.mk k v ks))) i) (fun i=>xs.length - i) (0) ?_ ?_ ?_);exact ⟨Nat.zero_le _,.zero _⟩;((repeat' (first | exact Qg (by assumption) | exact Qi | refine Qf ?_ ?_ | refine Qh ?_)) <;> simp [-zg,-zd,↓Qb,↓Qa,go_sem]);rintro i ⟨hi,ht⟩)
 | (refine ⟨i + 1,⟨by omega,ht.succ (B_no c17)⟩,by first | omega | (simp;done) | (simp;omega),?_⟩;((repeat' (first | exact Qg (by assumption) | exact Qi | refine Qf ?_ ?_ | refine Qh ?_)) <;> simp [-zg,-zd,↓Qb,↓Qa,go_sem]))
 | (refine Qe ?_)
 | (refine Qs ?_;simp [-zg,-zd,↓Qb,↓Qa,go_sem])
 | (refine Qr ?_;simp [-zg,-zd,↓Qb,↓Qa,go_sem])
 | (refine Qq ?_;simp [-zg,-zd,↓Qb,↓Qa,go_sem,Tryz.results146])
 | (intro hx;refine zA ?_)
 | (refine ⟨?_,?_⟩ <;> refine zA ?_)
 | (intro hx;constructor <;> intro hs)
 | (constructor <;> intro hs)
 | (refine ⟨?_,fun hs=>?_⟩;refine zA ?_)
 | (refine ⟨fun hs=>?_,?_⟩;rotate_left;refine zA ?_;rotate_left)
 | (refine Qc Γy5_ok [] (by kernel_rfl) ?_;simp [-zg,-zd,↓Qb,↓Qa,go_sem])
 | fail))
  all_goals (first
 | (rw [findI_at (p:=fun z=>Vm.B (TEq z (.mk k v ks))) ht c9 (B_yes c17)])
 | (rw [findI_none (p:=fun z=>Vm.B (TEq z (.mk k v ks))) ht (by omega)])
 | skip)
@[go_sem] def zakg:Con:=.pure fun
  | [.list n_xs c_xs,.st [.int .i64 k,.int .i64 v,.list n_ks c_ks]]=>((Is cX n_xs c_xs) ∧ (Is cX n_ks c_ks),.int .i64 (findI (fun z=>B (TEq z (.mk k v (de cX c_ks)))) (de cX c_xs)))
  | _=>(False,.any)
theorem zasz:ConOk Tryz.prog 146 zakg:=by
  refine ⟨Qo Tryz.func146 (by decide) rfl,fun args h=>?_⟩
  revert h
  dsimp only
  split
  · intro h
    obtain ⟨⟨xs,rfl,rfl⟩,⟨ks,rfl,rfl⟩⟩:=h
    try simp only [Qm] at *
    exact ⟨l5Find_pure xs _ _ ks,by simp [go_sem]⟩
  · intro h
    exact h.elim
@[go_sem] def Γy6:FuncId → Con:=ext Γy5 146 zakg
theorem Γy6_ok:∀ g,ConOk Tryz.prog g (Γy6 g):=Qn Γy5_ok zasz

def hasF (x i:Int):Bool:=decide (bitsD .and .i64 (x.fdiv (2 ^ (min (IntKind.u64.wrap i).toNat 64))) 1 = 1)
theorem wrapu_nn (i:Int):0 ≤ IntKind.u64.wrap i:=by
  unfold IntKind.wrap;simp [IntKind.bits,IntKind.signed];omega

theorem l6Has_pure (x:Int) (i:Int)  : Pure Tryz.prog 145 [.int .i64 x,.int .i64 i] (.bool (hasF x i)):=by
  refine Pure.of_walk Tryz.func145 rfl (by simp [Tryz.f145]) (by simp [-zd,go_sem]) fun B hK=>?_
  (repeat' (first
 | refine Qt ?_
 | refine Qc (id:=1) Γy6_ok [] (by kernel_rfl) ?_;simp [-zg,-zd,↓Qb,↓Qa,go_sem,wrapu_nn i,hasF]
 | (refine Qe ?_)
 | (refine Qs ?_;simp [-zg,-zd,↓Qb,↓Qa,go_sem])
 | (refine Qr ?_;simp [-zg,-zd,↓Qb,↓Qa,go_sem])
 | (refine Qq ?_;simp [-zg,-zd,↓Qb,↓Qa,go_sem,Tryz.results145])
 | (intro hx;refine zA ?_)
 | (refine ⟨?_,?_⟩ <;> refine zA ?_)
 | (intro hx;constructor <;> intro hs)
 | (constructor <;> intro hs)
 | (refine ⟨?_,fun hs=>?_⟩;refine zA ?_)
 | (refine ⟨fun hs=>?_,?_⟩;rotate_left;refine zA ?_;rotate_left)
 | (refine Qc Γy6_ok [] (by kernel_rfl) ?_;simp [-zg,-zd,↓Qb,↓Qa,go_sem])
 | fail))
@[go_sem] def zams:Con:=.pure fun
  | [.int .i64 x,.int .i64 i]=>(True,.bool (hasF x i))
  | _=>(False,.any)
theorem l6Has_pureC_ok:ConOk Tryz.prog 145 zams:=by
  refine ⟨Qo Tryz.func145 (by decide) rfl,fun args h=>?_⟩
  revert h
  dsimp only
  split
  · intro h
    skip
    skip
    exact ⟨l6Has_pure _ _,by simp [go_sem]⟩
  · intro h
    exact h.elim
@[go_sem] def Γy7:FuncId → Con:=ext Γy6 145 zams
theorem Γy7_ok:∀ g,ConOk Tryz.prog g (Γy7 g):=Qn Γy6_ok l6Has_pureC_ok

theorem l7Basic_pure (k:Int) (v:Int) (ks:List Tree)  : Pure Tryz.prog 143 [.st [.int .i64 k,.int .i64 v,li cX ks]] (.bool (decide (k = 2) || decide (k = 6) || decide (k = 7) || decide (k = 8))):=by
  refine Pure.of_walk Tryz.func143 rfl (by simp [Tryz.f143]) (by simp [-zd,go_sem]) fun B hK=>?_
  (repeat' (first
 | refine Qt ?_
 | refine Qc (id:=0) Γy7_ok [] (by kernel_rfl) ?_;simp [-zg,-zd,↓Qb,↓Qa,go_sem];try (refine Xh hK 1 ?_;simp [go_sem])
 | refine Qc (id:=1) Γy7_ok [6,11,16] (by kernel_rfl) ?_;simp [-zg,-zd,↓Qb,↓Qa,go_sem];try (refine ⟨fun s1a=>?_,fun s1a=>?_⟩ <;> (try simp [B_iff,B_not] at s1a) <;> try (refine ⟨fun s1b=>?_,fun s1b=>?_⟩ <;> (try simp [B_iff,B_not] at s1b) <;> try (refine ⟨fun s1c=>?_,fun s1c=>?_⟩ <;> (try simp [B_iff,B_not] at s1c) <;> try (refine ⟨fun s1d=>?_,fun s1d=>?_⟩ <;> (try simp [B_iff,B_not] at s1d)))))
 | (refine Qe ?_)
 | (refine Qs ?_;simp [-zg,-zd,↓Qb,↓Qa,go_sem])
 | (refine Qr ?_;simp [-zg,-zd,↓Qb,↓Qa,go_sem])
 | (refine Qq ?_;simp [-zg,-zd,↓Qb,↓Qa,go_sem,Tryz.results143])
 | (intro hx;refine zA ?_)
 | (refine ⟨?_,?_⟩ <;> refine zA ?_)
 | (intro hx;constructor <;> intro hs)
 | (constructor <;> intro hs)
 | (refine ⟨?_,fun hs=>?_⟩;refine zA ?_)
 | (refine ⟨fun hs=>?_,?_⟩;rotate_left;refine zA ?_;rotate_left)))
  all_goals (first
 | (simp_all;done)
 | (intros;simp_all;done)
 | skip)
@[go_sem] def zaid:Con:=.pure fun
  | [.st [.int .i64 k,.int .i64 v,.list n_ks c_ks]]=>((Is cX n_ks c_ks),.bool (decide (k = 2) || decide (k = 6) || decide (k = 7) || decide (k = 8)))
  | _=>(False,.any)
theorem zaqq:ConOk Tryz.prog 143 zaid:=by
  refine ⟨Qo Tryz.func143 (by decide) rfl,fun args h=>?_⟩
  revert h
  dsimp only
  split
  · intro h
    obtain ⟨ks,rfl,rfl⟩:=h
    try simp only [Qm] at *
    exact ⟨l7Basic_pure _ _ ks,by simp [go_sem]⟩
  · intro h
    exact h.elim
@[go_sem] def Γy8:FuncId → Con:=ext Γy7 143 zaid
theorem Γy8_ok:∀ g,ConOk Tryz.prog g (Γy8 g):=Qn Γy7_ok zaqq

def dualF (k:Int):Int:=if k = 4 then 5 else if k = 5 then 4 else if k = 7 then 8 else 7

theorem l5Dual_pure (k:Int)  : Pure Tryz.prog 181 [.int .i64 k] (.int .i64 (dualF k)):=by
  refine Pure.of_walk Tryz.func181 rfl (by simp [Tryz.f181]) (by simp [-zd,go_sem]) fun B hK=>?_
  (repeat' (first
 | refine Qt ?_
 | (refine Qe ?_)
 | (refine Qs ?_;simp [-zg,-zd,↓Qb,↓Qa,go_sem])
 | (refine Qr ?_;simp [-zg,-zd,↓Qb,↓Qa,go_sem])
 | (refine Qq ?_;simp [-zg,-zd,↓Qb,↓Qa,go_sem,Tryz.results181])
 | (intro hx;refine zA ?_)
 | (refine ⟨?_,?_⟩ <;> refine zA ?_)
 | (intro hx;constructor <;> intro hs)
 | (constructor <;> intro hs)
 | (refine ⟨?_,fun hs=>?_⟩;refine zA ?_)
 | (refine ⟨fun hs=>?_,?_⟩;rotate_left;refine zA ?_;rotate_left)
 | (refine Qj ?_;simp [-zg,-zd,↓Qb,↓Qa,go_sem];try first | (refine ⟨?_,?_⟩ <;> refine zA ?_) | (refine ⟨fun cz=>?_,fun cz=>?_⟩ <;> (try simp [B_iff,B_not] at cz)))
 | (refine Qc Γy8_ok [] (by kernel_rfl) ?_;simp [-zg,-zd,↓Qb,↓Qa,go_sem])
 | fail))
  all_goals (first
 | (unfold dualF;simp_all;done)
 | (unfold dualF;(repeat' split) <;> omega)
 | skip)
@[go_sem] def zakh:Con:=.pure fun
  | [.int .i64 k]=>(True,.int .i64 (dualF k))
  | _=>(False,.any)
theorem zata:ConOk Tryz.prog 181 zakh:=by
  refine ⟨Qo Tryz.func181 (by decide) rfl,fun args h=>?_⟩
  revert h
  dsimp only
  split
  · intro h
    skip
    skip
    exact ⟨l5Dual_pure _,by simp [go_sem]⟩
  · intro h
    exact h.elim
@[go_sem] def Γy9:FuncId → Con:=ext Γy8 181 zakh
theorem Γy9_ok:∀ g,ConOk Tryz.prog g (Γy9 g):=Qn Γy8_ok zata


theorem WellF.ks1 {k v:Int} {ks:List Tree} (h:WellF (.mk k v ks)) (hk:k = 3 ∨ k = 6 ∨ k = 9 ∨ k = 10):ks.length = 1:=by
  have:=h.at.1;unfold arF at this;rw [if_neg (by omega),if_pos (by omega)] at this;omega
theorem WellF.ks2 {k v:Int} {ks:List Tree} (h:WellF (.mk k v ks)) (h1:¬ k = 1) (h2:¬ k = 2) (h3:¬ k = 3) (h6:¬ k = 6) (h9:¬ k = 9) (h10:¬ k = 10):ks.length = 2:=by
  have:=h.at.1;unfold arF at this;rw [if_neg (by omega),if_neg (by omega)] at this;split at this <;> omega
theorem take_snocX {ks:List Tree} {i:Nat} (h:i < ks.length):cat cX (ks.take i) ++ [.int .i64 (nth ks i).k,.int .i64 (nth ks i).v,.list (nth ks i).ks.length (cat cX (nth ks i).ks)] = cat cX (ks.take (i + 1)):=by
  rw [List.take_succ_eq_append_getElem h,Xk,Xg,← Xc h,cX_eq];rfl

@[go_sem] def Yf:Tree → D:=sX
theorem l5True_flat (x:Tree):dat (Yf x) = Yf x:=by simp [go_sem]
def zamt  : Tree → Prop:=fun _=>True
def zaot  (x:(Tree) × D):Prop:=zamt x.1 ∧ dat x.2 = Yf x.1
def zaje  (c:Any):(Tree) × D:=sel (zaot) ((.mk 1 0 []:Tree),Yf (.mk 1 0 [])) c
def zale  (c:Any):Tree:=(zaje c).1
theorem l5True_okD   (c:Any):zaot (zaje c):=by
  have hx:zamt (.mk 1 0 []):=trivial
  exact Xl (p:=zaot) (x0:=((.mk 1 0 []:Tree),Yf (.mk 1 0 []))) ⟨hx,l5True_flat _⟩ c
theorem l5True_ret  {e_:Exit} {S_:St} (x:Tree) (he_:e_ = .ret ∨ e_ = .normal)
    (h1:(Qd Tryz.prog S_ Tryz.f149.results.toList).1 ∧ dat (resD (Qd Tryz.prog S_ Tryz.f149.results.toList).2.1) = Yf x) (hg:zamt x) :
    retR Tryz.prog Tryz.f149 (fun c=>((zaje c).2,fun _=>none)) e_ S_ :=
  Xi (good:=zaot) (enc:=fun x:(Tree) × D=>x.2) (x,resD (Qd Tryz.prog S_ Tryz.f149.results.toList).2.1) he_ ⟨h1.1,rfl⟩ ⟨hg,h1.2⟩
theorem l5True_pure   : SpecR Tryz.prog 149 [] (fun _=>none) (fun c=>((zaje c).2,fun _=>none)):=by
  refine SpecR.of_walk Tryz.func149 rfl (by simp [Tryz.f149]) fun B=>?_
  (repeat' (first
 | refine Qt ?_
 | (refine Qe ?_)
 | (refine Qs ?_;simp [-zg,-zd,↓Qb,↓Qa,go_sem])
 | (refine Qr ?_;simp [-zg,-zd,↓Qb,↓Qa,go_sem])
 | (refine Qq ?_;try simp [-zg,-zd,↓Qb,↓Qa,go_sem,Tryz.results149])
 | (intro hx;refine zA ?_)
 | (intro hx;change retR _ _ _ _ _)
 | (refine ⟨?_,?_⟩ <;> refine zA ?_)
 | (intro hx;constructor <;> intro hs)
 | (constructor <;> intro hs)
 | (refine ⟨?_,fun hs=>?_⟩;refine zA ?_)
 | (refine ⟨fun hs=>?_,?_⟩;rotate_left;refine zA ?_;rotate_left)
 | (refine Qc Γy9_ok [] (by kernel_rfl) ?_;simp [-zg,-zd,↓Qb,↓Qa,go_sem])
 | fail))
  all_goals (first
 | (refine l5True_ret (.mk 1 0 []) ?_ ?_ ?_;(first | exact Or.inl rfl | exact Or.inr rfl);(focus (simp [-zg,-zd,↓Qb,↓Qa,go_sem,Tryz.results149,dat,li,Xb];done));(focus ((trivial);done)))
 | skip)
@[go_sem] def l5TrueC:Con:=.rel fun args H=>match args with
  | []=>(True,fun c=>(Yf (zale c),H))
  | _=>(False,fun _=>(.any,H))
theorem l5TrueC_ok:ConOk Tryz.prog 149 l5TrueC:=by
  refine ⟨Qo Tryz.func149 (by decide) rfl,fun args H h=>?_⟩
  revert h
  dsimp only
  split
  · intro h
    skip
    try simp only [Qm] at *
    exact SpecR.enc ((SpecR.frame0 (l5True_pure ) (H:=H)).shut) fun c=>Prod.ext (l5True_okD  c).2.symm rfl
  · intro h
    exact h.elim
@[go_sem] def Γy10:FuncId → Con:=ext Γy9 149 l5TrueC
theorem Γy10_ok:∀ g,ConOk Tryz.prog g (Γy10 g):=Qn Γy9_ok l5TrueC_ok

@[go_sem] def Yi:Tree → D:=sX
theorem l5Not_flat (x:Tree):dat (Yi x) = Yi x:=by simp [go_sem]
def zaqu (k:Int) (v:Int) (E:D):Tree → Prop:=fun _=>True
def l5Not_gd (k:Int) (v:Int) (E:D) (x:(Tree) × D):Prop:=zaqu k v E x.1 ∧ dat x.2 = Yi x.1
def zalg (k:Int) (v:Int) (E:D) (c:Any):(Tree) × D:=sel (l5Not_gd k v E) ((.mk 1 0 []:Tree),Yi (.mk 1 0 [])) c
def l5Not_sel (k:Int) (v:Int) (E:D) (c:Any):Tree:=(zalg k v E c).1
theorem l5Not_okD (k:Int) (v:Int) (E:D) (hE:IsK E) (c:Any):l5Not_gd k v E (zalg k v E c):=by
  have hx:zaqu k v E (.mk 1 0 []):=trivial
  exact Xl (p:=l5Not_gd k v E) (x0:=((.mk 1 0 []:Tree),Yi (.mk 1 0 []))) ⟨hx,l5Not_flat _⟩ c
theorem l5Not_ret (k:Int) (v:Int) (E:D) {e_:Exit} {S_:St} (x:Tree) (he_:e_ = .ret ∨ e_ = .normal)
    (h1:(Qd Tryz.prog S_ Tryz.f180.results.toList).1 ∧ dat (resD (Qd Tryz.prog S_ Tryz.f180.results.toList).2.1) = Yi x) (hg:zaqu k v E x) :
    retR Tryz.prog Tryz.f180 (fun c=>((zalg k v E c).2,fun _=>none)) e_ S_ :=
  Xi (good:=l5Not_gd k v E) (enc:=fun x:(Tree) × D=>x.2) (x,resD (Qd Tryz.prog S_ Tryz.f180.results.toList).2.1) he_ ⟨h1.1,rfl⟩ ⟨hg,h1.2⟩
theorem l5Not_pure (k:Int) (v:Int) (E:D) (hE:IsK E):SpecR Tryz.prog 180 [.st [.int .i64 k,.int .i64 v,E]] (fun _=>none) (fun c=>((zalg k v E c).2,fun _=>none)):=by
  refine SpecR.of_walk Tryz.func180 rfl (by simp [Tryz.f180]) fun B=>?_
  rcases hE with rfl | ⟨ks,rfl⟩
  all_goals (repeat' (first
 | refine Qt ?_
 | refine Qc (id:=0) Γy10_ok [] (by kernel_rfl) ?_;simp [-zg,-zd,↓Qb,↓Qa,go_sem];try (refine Qy 1 ?_;simp [go_sem,dat,li])
 | (refine Qe ?_)
 | (refine Qs ?_;simp [-zg,-zd,↓Qb,↓Qa,go_sem])
 | (refine Qr ?_;simp [-zg,-zd,↓Qb,↓Qa,go_sem])
 | (refine Qq ?_;try simp [-zg,-zd,↓Qb,↓Qa,go_sem,Tryz.results180])
 | (intro hx;refine zA ?_)
 | (intro hx;change retR _ _ _ _ _)
 | (refine ⟨?_,?_⟩ <;> refine zA ?_)
 | (intro hx;constructor <;> intro hs)
 | (constructor <;> intro hs)
 | (refine ⟨?_,fun hs=>?_⟩;refine zA ?_)
 | (refine ⟨fun hs=>?_,?_⟩;rotate_left;refine zA ?_;rotate_left)
 | (refine Qc Γy10_ok [] (by kernel_rfl) ?_;simp [-zg,-zd,↓Qb,↓Qa,go_sem])
 | fail))
  all_goals (first
 | (refine l5Not_ret _ _ _ (.mk 3 0 [.mk k v []]) ?_ ?_ ?_;(first | exact Or.inl rfl | exact Or.inr rfl);(focus (simp [-zg,-zd,↓Qb,↓Qa,go_sem,Tryz.results180,dat,Qz,li,Xe,cX_mk,Xb];done));(focus ((trivial);done)))
 | (refine l5Not_ret _ _ _ (.mk 3 0 [.mk k v ks]) ?_ ?_ ?_;(first | exact Or.inl rfl | exact Or.inr rfl);(focus (simp [-zg,-zd,↓Qb,↓Qa,go_sem,Tryz.results180,dat,Qz,li,Xe,cX_mk,Xb];done));(focus ((trivial);done)))
 | skip)
@[go_sem] def l5NotC:Con:=.rel fun args H=>match args with
  | [.st [.int .i64 k,.int .i64 v,E]]=>((IsK E),fun c=>(Yi (l5Not_sel k v E c),H))
  | _=>(False,fun _=>(.any,H))
theorem l5NotC_ok:ConOk Tryz.prog 180 l5NotC:=by
  refine ⟨Qo Tryz.func180 (by decide) rfl,fun args H h=>?_⟩
  revert h
  dsimp only
  split
  · intro h
    have hE:=h
    try simp only [Qm] at *
    exact SpecR.enc ((SpecR.frame0 (l5Not_pure _ _ _ hE) (H:=H)).shut) fun c=>Prod.ext (l5Not_okD _ _ _ hE c).2.symm rfl
  · intro h
    exact h.elim
@[go_sem] def Γy11:FuncId → Con:=ext Γy10 180 l5NotC
theorem Γy11_ok:∀ g,ConOk Tryz.prog g (Γy11 g):=Qn Γy10_ok l5NotC_ok

@[go_sem] def Uz:Tree → D:=sX
theorem l5Copy_flat (x:Tree):dat (Uz x) = Uz x:=by simp [go_sem]
def zaet (k:Int) (v:Int) (ks:List Tree):Tree → Prop:=fun x=>x = .mk k v ks
def zaov (k:Int) (v:Int) (ks:List Tree) (x:(Tree) × D):Prop:=zaet k v ks x.1 ∧ dat x.2 = Uz x.1
def zaes (k:Int) (v:Int) (ks:List Tree) (c:Any):(Tree) × D:=sel (zaov k v ks) ((.mk k v ks:Tree),Uz (.mk k v ks)) c
def zali (k:Int) (v:Int) (ks:List Tree) (c:Any):Tree:=(zaes k v ks c).1
theorem zaqy (k:Int) (v:Int) (ks:List Tree) (hw:WellF (.mk k v ks)) (c:Any):zaov k v ks (zaes k v ks c):=by
  have hx:zaet k v ks (.mk k v ks):=rfl
  exact Xl (p:=zaov k v ks) (x0:=((.mk k v ks:Tree),Uz (.mk k v ks))) ⟨hx,l5Copy_flat _⟩ c
theorem l5Copy_ok (k:Int) (v:Int) (ks:List Tree) (hw:WellF (.mk k v ks)) (c:Any):zaet k v ks (zali k v ks c):=(zaqy k v ks hw c).1
theorem l5Copy_ret (k:Int) (v:Int) (ks:List Tree) {e_:Exit} {S_:St} (x:Tree) (he_:e_ = .ret ∨ e_ = .normal)
    (h1:(Qd Tryz.prog S_ Tryz.f179.results.toList).1 ∧ dat (resD (Qd Tryz.prog S_ Tryz.f179.results.toList).2.1) = Uz x) (hg:zaet k v ks x) :
    retR Tryz.prog Tryz.f179 (fun c=>((zaes k v ks c).2,fun _=>none)) e_ S_ :=
  Xi (good:=zaov k v ks) (enc:=fun x:(Tree) × D=>x.2) (x,resD (Qd Tryz.prog S_ Tryz.f179.results.toList).2.1) he_ ⟨h1.1,rfl⟩ ⟨hg,h1.2⟩
@[go_sem] def l5CopyCn (n_:Nat):Con:=.rel fun args H=>match args with
  | [.st [.int .i64 k,.int .i64 v,.list n_ks c_ks]]=>((Is cX n_ks c_ks) ∧ (WellF (.mk k v (de cX c_ks))) ∧ (tsz (.mk k v (de cX c_ks)) < n_),fun c=>(Uz (zali k v (de cX c_ks) c),H))
  | _=>(False,fun _=>(.any,H))
theorem l5CopyCn_ok {n_:Nat} (ih:∀ (k:Int) (v:Int) (ks:List Tree) (hw:WellF (.mk k v ks)) (hm_:tsz (.mk k v ks) < n_),SpecR Tryz.prog 179 [.st [.int .i64 k,.int .i64 v,li cX ks]] (fun _=>none) (fun c=>((zaes k v ks c).2,fun _=>none))):ConOk Tryz.prog 179 (l5CopyCn n_):=by
  refine ⟨Qo Tryz.func179 (by decide) rfl,fun args H h=>?_⟩
  revert h
  dsimp only
  split
  · intro h
    obtain ⟨⟨ks,rfl,rfl⟩,hw,hm_⟩:=h
    try simp only [Qm] at *
    exact SpecR.enc ((SpecR.frame0 (ih _ _ ks hw hm_) (H:=H)).shut) fun c=>Prod.ext (zaqy _ _ _ hw c).2.symm rfl
  · intro h
    exact h.elim
set_option maxHeartbeats 4000000 in
theorem l5Copy_rec:∀ (n_:Nat),∀ (k:Int) (v:Int) (ks:List Tree) (hw:WellF (.mk k v ks)) (hm_:tsz (.mk k v ks) < n_),SpecR Tryz.prog 179 [.st [.int .i64 k,.int .i64 v,li cX ks]] (fun _=>none) (fun c=>((zaes k v ks c).2,fun _=>none)):=by
  intro n_
  induction n_ with
  | zero=>intros;omega
  | succ n_ ih =>
  intro k v ks hw hm_
  have Γr_ok:=Qn Γy11_ok (l5CopyCn_ok ih)
  refine SpecR.of_walk Tryz.func179 rfl (by simp [Tryz.f179]) fun B=>?_
  obtain ⟨w1,w2,w3,w4⟩:=hw.at;have w5:=arF_le k
  all_goals (repeat' (first
 | refine Qt ?_
 | refine Qc (id:=0) Γr_ok [] (by kernel_rfl) ?_;simp [-zg,-zd,↓Qb,↓Qa,go_sem];try (refine Qy 1 ?_;simp [go_sem])
 | (refine Wk 1 2 ⟨rfl,rfl⟩ fun hm=>?_);refine Qc (id:=1) Γr_ok [] (by kernel_rfl) ?_;simp [-zg,-zd,↓Qb,↓Qa,go_sem];try ((refine zaiw 3 3 rfl ?_);(refine Xs 3 rfl fun qb hqb=>?_);(clear hqb);(refine Qp (fun H1=>H1 qb = some [.int .i64 k,.int .i64 v,.fr 3 0 (cat cX (ks.take 0))]) (by simp [go_sem,Xb]) fun H1 w1=>?_))
 | ((have qt:=Xt (k:=k) (v:=v) c14);(have qw:=w4 q.1 c14);(refine Xw qb 2 (all:=[.int .i64 k,.int .i64 v,.fr 3 q.1 (cat cX (ks.take q.1))]) g2 rfl fun u cu ju hu hcu hdu=>?_);(have uq:¬ u = qb:=(by intro e;rw [e] at hu;dsimp only at hu;rw [g2] at hu;cases hu));(clear hu));refine Xr (id:=5) Γr_ok mixed [(qb,[.int .i64 k,.int .i64 v,.sl u 3 0 q.1 cu])] [] [] (by kernel_rfl) (by kernel_rfl) ?_ ?_ ?_ <;> simp [-zg,-zd,↓Qb,↓Qa,go_sem,c14,Qk c14,zsP c14,qw,uq,Ne.symm uq,Tree.eta,(show tsz (nth ks q.1) < n_ by omega),(show q.1 ≤ 9223372036854775806 by omega),(show 2 * (q.1 + 1) * 40 ≤ 281474976710656 by omega),hdu,(show min q.1 ks.length = q.1 by omega)];try ((intro c5);(have z0:=l5Copy_ok (nth ks q.1).k (nth ks q.1).v (nth ks q.1).ks (by rw [Tree.eta];exact qw) c5);(simp only [zaet] at z0);(rw [Tree.eta] at z0);(generalize zali (nth ks q.1).k (nth ks q.1).v (nth ks q.1).ks c5 = z at *);(subst z0);(refine Qp (fun H2=>H2 qb = some [.int .i64 k,.int .i64 v,.fr 3 (q.1 + 1) (cat cX (ks.take (q.1 + 1)))]) (by simp [upd,uq,Ne.symm uq,take_snocX c14]) fun H2 y1=>?_))
 | refine Qc (id:=4) Γr_ok [] (by kernel_rfl) ?_;simp [-zg,-zd,↓Qb,↓Qa,go_sem,wrapS (k:=q.1) (by omega)]
 | ((obtain ⟨i,H5⟩:=q);(dsimp only at *);(obtain rfl:i = ks.length:=by omega));refine Qc (id:=6) Γr_ok [] (by kernel_rfl) ?_;simp [-zg,-zd,↓Qb,↓Qa,go_sem,g2]
 | refine Qj (c:=.tmp 14) ?_;simp [-zg,-zd,↓Qb,↓Qa,go_sem];try first | (refine ⟨?_,?_⟩ <;> refine zA ?_) | (refine ⟨fun c14=>?_,fun c14=>?_⟩ <;> (try simp [B_iff,B_not] at c14))
 | (refine Qe (id:=0) (Qw (ι:=Nat × Hp) (fun q:Nat × Hp=>⟨(upd (upd (upd (upd (fun _=>.any) 1 (.pd [.int .i64 k,.int .i64 v,li cX ks])) 2 (.box [.int .i64 0,.int .i64 0,.nil])) 3 (.ptr qb 0)) 4 (.int .i64 q.1)),q.2⟩) (fun q=>q.1 ≤ ks.length ∧ q.2 qb = some [.int .i64 k,.int .i64 v,.fr 3 q.1 (cat cX (ks.take q.1))]) (fun q=>ks.length - q.1) ((0,H1)) ?_ ?_ ?_);exact ⟨Nat.zero_le _,w1⟩;((repeat' (first | exact Qg (by assumption) | exact Qi | refine Qf ?_ ?_ | refine Qh ?_)) <;> simp [-zg,-zd,↓Qb,↓Qa,go_sem]);rintro q ⟨g1,g2⟩)
 | (refine ⟨(q.1 + 1,H2),⟨by dsimp only;omega,y1⟩,by first | omega | (simp;done) | (simp;omega),?_⟩;((repeat' (first | exact Qg (by assumption) | exact Qi | refine Qf ?_ ?_ | refine Qh ?_)) <;> simp [-zg,-zd,↓Qb,↓Qa,go_sem]))
 | (refine Qe ?_)
 | (refine Qs ?_;simp [-zg,-zd,↓Qb,↓Qa,go_sem])
 | (refine Qr ?_;simp [-zg,-zd,↓Qb,↓Qa,go_sem])
 | (refine Qq ?_;try simp [-zg,-zd,↓Qb,↓Qa,go_sem,Tryz.results179])
 | (intro hx;refine zA ?_)
 | (intro hx;change retR _ _ _ _ _)
 | (refine ⟨?_,?_⟩ <;> refine zA ?_)
 | (intro hx;constructor <;> intro hs)
 | (constructor <;> intro hs)
 | (refine ⟨?_,fun hs=>?_⟩;refine zA ?_)
 | (refine ⟨fun hs=>?_,?_⟩;rotate_left;refine zA ?_;rotate_left)
 | (refine Qc Γr_ok [] (by kernel_rfl) ?_;simp [-zg,-zd,↓Qb,↓Qa,go_sem])
 | fail))
  all_goals (first
 | (refine l5Copy_ret _ _ _ (.mk k v ks) ?_ ?_ ?_;(first | exact Or.inl rfl | exact Or.inr rfl);(focus (simp [-zg,-zd,↓Qb,↓Qa,go_sem,Tryz.results179,dat,Qz,li,List.take_length];done));(focus ((rfl);done)))
 | skip)
theorem l5Copy_pure (k:Int) (v:Int) (ks:List Tree) (hw:WellF (.mk k v ks)):SpecR Tryz.prog 179 [.st [.int .i64 k,.int .i64 v,li cX ks]] (fun _=>none) (fun c=>((zaes k v ks c).2,fun _=>none)):=l5Copy_rec (tsz (.mk k v ks) + 1) k v ks hw (by omega)
@[go_sem] def l5CopyC:Con:=.rel fun args H=>match args with
  | [.st [.int .i64 k,.int .i64 v,.list n_ks c_ks]]=>((Is cX n_ks c_ks) ∧ (WellF (.mk k v (de cX c_ks))),fun c=>(Uz (zali k v (de cX c_ks) c),H))
  | _=>(False,fun _=>(.any,H))
theorem l5CopyC_ok:ConOk Tryz.prog 179 l5CopyC:=by
  refine ⟨Qo Tryz.func179 (by decide) rfl,fun args H h=>?_⟩
  revert h
  dsimp only
  split
  · intro h
    obtain ⟨⟨ks,rfl,rfl⟩,hw⟩:=h
    try simp only [Qm] at *
    exact SpecR.enc ((SpecR.frame0 (l5Copy_pure _ _ ks hw) (H:=H)).shut) fun c=>Prod.ext (zaqy _ _ _ hw c).2.symm rfl
  · intro h
    exact h.elim
@[go_sem] def Γy12:FuncId → Con:=ext Γy11 179 l5CopyC
theorem Γy12_ok:∀ g,ConOk Tryz.prog g (Γy12 g):=Qn Γy11_ok l5CopyC_ok

@[go_sem] def Uy:Tree → D:=sX
theorem l5Push_flat (x:Tree):dat (Uy x) = Uy x:=by simp [go_sem]
def zamv (k:Int) (v:Int) (ks:List Tree) (neg:Bool):Tree → Prop:=fun _=>True
def zaou (k:Int) (v:Int) (ks:List Tree) (neg:Bool) (x:(Tree) × D):Prop:=zamv k v ks neg x.1 ∧ dat x.2 = Uy x.1
def zaer (k:Int) (v:Int) (ks:List Tree) (neg:Bool) (c:Any):(Tree) × D:=sel (zaou k v ks neg) ((.mk 1 0 []:Tree),Uy (.mk 1 0 [])) c
def Yg (k:Int) (v:Int) (ks:List Tree) (neg:Bool) (c:Any):Tree:=(zaer k v ks neg c).1
theorem l5Push_okD (k:Int) (v:Int) (ks:List Tree) (neg:Bool) (hw:WellF (.mk k v ks)) (c:Any):zaou k v ks neg (zaer k v ks neg c):=by
  have hx:zamv k v ks neg (.mk 1 0 []):=trivial
  exact Xl (p:=zaou k v ks neg) (x0:=((.mk 1 0 []:Tree),Uy (.mk 1 0 []))) ⟨hx,l5Push_flat _⟩ c
theorem Yh (k:Int) (v:Int) (ks:List Tree) (neg:Bool) {e_:Exit} {S_:St} (x:Tree) (he_:e_ = .ret ∨ e_ = .normal)
    (h1:(Qd Tryz.prog S_ Tryz.f144.results.toList).1 ∧ dat (resD (Qd Tryz.prog S_ Tryz.f144.results.toList).2.1) = Uy x) (hg:zamv k v ks neg x) :
    retR Tryz.prog Tryz.f144 (fun c=>((zaer k v ks neg c).2,fun _=>none)) e_ S_ :=
  Xi (good:=zaou k v ks neg) (enc:=fun x:(Tree) × D=>x.2) (x,resD (Qd Tryz.prog S_ Tryz.f144.results.toList).2.1) he_ ⟨h1.1,rfl⟩ ⟨hg,h1.2⟩
@[go_sem] def l5PushCn (n_:Nat):Con:=.rel fun args H=>match args with
  | [.st [.int .i64 k,.int .i64 v,.list n_ks c_ks],.bool neg]=>((Is cX n_ks c_ks) ∧ (WellF (.mk k v (de cX c_ks))) ∧ (tsz (.mk k v (de cX c_ks)) < n_),fun c=>(Uy (Yg k v (de cX c_ks) neg c),H))
  | _=>(False,fun _=>(.any,H))
theorem l5PushCn_ok {n_:Nat} (ih:∀ (k:Int) (v:Int) (ks:List Tree) (neg:Bool) (hw:WellF (.mk k v ks)) (hm_:tsz (.mk k v ks) < n_),SpecR Tryz.prog 144 [.st [.int .i64 k,.int .i64 v,li cX ks],.bool neg] (fun _=>none) (fun c=>((zaer k v ks neg c).2,fun _=>none))):ConOk Tryz.prog 144 (l5PushCn n_):=by
  refine ⟨Qo Tryz.func144 (by decide) rfl,fun args H h=>?_⟩
  revert h
  dsimp only
  split
  · intro h
    obtain ⟨⟨ks,rfl,rfl⟩,hw,hm_⟩:=h
    try simp only [Qm] at *
    exact SpecR.enc ((SpecR.frame0 (ih _ _ ks _ hw hm_) (H:=H)).shut) fun c=>Prod.ext (l5Push_okD _ _ _ _ hw c).2.symm rfl
  · intro h
    exact h.elim
set_option maxHeartbeats 8000000 in
theorem l5Push_rec:∀ (n_:Nat),∀ (k:Int) (v:Int) (ks:List Tree) (neg:Bool) (hw:WellF (.mk k v ks)) (hm_:tsz (.mk k v ks) < n_),SpecR Tryz.prog 144 [.st [.int .i64 k,.int .i64 v,li cX ks],.bool neg] (fun _=>none) (fun c=>((zaer k v ks neg c).2,fun _=>none)):=by
  intro n_
  induction n_ with
  | zero=>intros;omega
  | succ n_ ih =>
  intro k v ks neg hw hm_
  have Γr_ok:=Qn Γy12_ok (l5PushCn_ok ih)
  refine SpecR.of_walk Tryz.func144 rfl (by simp [Tryz.f144]) fun B=>?_
  have hk1:=hw.ks1;have hk2:=hw.ks2;have w4:=hw.at.2.2.2
  all_goals (repeat' (first
 | refine Qt ?_
 | refine Qc (id:=0) Γr_ok [] (by kernel_rfl) ?_;simp [-zg,-zd,↓Qb,↓Qa,go_sem];try (refine Qy 2 ?_;simp [go_sem])
 | refine Qc (id:=5) Γr_ok [] (by kernel_rfl) ?_;simp [-zg,-zd,↓Qb,↓Qa,go_sem];try (intro c5)
 | ((have ql:=hk1 (by omega));(have qk:0 < ks.length:=(by omega));(have qt:=Xt (k:=k) (v:=v) qk);(have qw:=w4 0 qk));refine Qc (id:=8) Γr_ok [] (by kernel_rfl) ?_;simp [-zg,-zd,↓Qb,↓Qa,go_sem,qk,Qk qk,zsP qk,Jq (f:=cX) qk,(show 3 ≤ ks.length * 3 by omega),(show tsz (nth ks 0) < n_ by omega),Tree.eta,qw];try (intro c8;generalize Yg (nth ks 0).k (nth ks 0).v (nth ks 0).ks (!neg) c8 = z8 at *)
 | ((have ql:=hk1 (by omega));(have qk:0 < ks.length:=(by omega));(have qt:=Xt (k:=k) (v:=v) qk);(have qw:=w4 0 qk));refine Qc (id:=10) Γr_ok [] (by kernel_rfl) ?_;simp [-zg,-zd,↓Qb,↓Qa,go_sem,qk,Qk qk,zsP qk,Jq (f:=cX) qk,(show 3 ≤ ks.length * 3 by omega),(show tsz (nth ks 0) < n_ by omega),Tree.eta,qw];try (intro c10;generalize Yg (nth ks 0).k (nth ks 0).v (nth ks 0).ks neg c10 = z10 at *)
 | ((have ql:=hk1 (by omega));(have qk:0 < ks.length:=(by omega));(have qt:=Xt (k:=k) (v:=v) qk);(have qw:=w4 0 qk));refine Qc (id:=13) Γr_ok [] (by kernel_rfl) ?_;simp [-zg,-zd,↓Qb,↓Qa,go_sem,qk,Qk qk,zsP qk,Jq (f:=cX) qk,(show 3 ≤ ks.length * 3 by omega),(show tsz (nth ks 0) < n_ by omega),Tree.eta,qw];try (intro c13;generalize Yg (nth ks 0).k (nth ks 0).v (nth ks 0).ks neg c13 = z13 at *;refine Qy 5 ?_;simp [go_sem])
 | refine Xr (id:=15) Γr_ok mixed [] [] [] (by kernel_rfl) (by kernel_rfl) ?_ ?_ ?_ <;> simp [-zg,-zd,↓Qb,↓Qa,go_sem];try (intro c15;generalize zale c15 = z15 at *)
 | refine Xr (id:=16) Γr_ok mixed [] [] [] (by kernel_rfl) (by kernel_rfl) ?_ ?_ ?_ <;> simp [-zg,-zd,↓Qb,↓Qa,go_sem];try (intro c16 c16';generalize zale c16 = z16 at *)
 | ((have ql:=hk2 (by omega) (by omega) (by omega) (by omega) (by omega) (by omega));(have qk:0 < ks.length:=(by omega));(have qj:1 < ks.length:=(by omega));(have qt:=Xt (k:=k) (v:=v) qk);(have qu:=Xt (k:=k) (v:=v) qj);(have qw:=w4 0 qk);(have qx:=w4 1 qj));refine Xr (id:=20) Γr_ok mixed [] [] [2,1] (by kernel_rfl) (by kernel_rfl) ?_ ?_ ?_ <;> simp [-zg,-zd,↓Qb,↓Qa,go_sem,qk,Qk qk,zsP qk,qj,Jq (f:=cX) qk,(show 3 ≤ ks.length * 3 by omega),(show (cat cX ks).drop 3 = cat cX (ks.drop 1) from Vb (f:=cX) (sz:=3) ks 1),(show 3 ≤ ks.length * 3 - 3 by omega),(show 3 ≤ (ks.length - 1) * 3 by omega),(show (1:Int) < (ks.length:Int) by omega),zsP qj,(show tsz (nth ks 0) < n_ by omega),(show tsz (nth ks 1) < n_ by omega),Tree.eta,qw,qx];try (intro c20 c20';generalize Yg (nth ks 0).k (nth ks 0).v (nth ks 0).ks neg c20 = z20 at *;generalize Yg (nth ks 1).k (nth ks 1).v (nth ks 1).ks neg c20' = y20 at *)
 | (refine Qe ?_)
 | (refine Qs ?_;simp [-zg,-zd,↓Qb,↓Qa,go_sem])
 | (refine Qr ?_;simp [-zg,-zd,↓Qb,↓Qa,go_sem])
 | (refine Qq ?_;try simp [-zg,-zd,↓Qb,↓Qa,go_sem,Tryz.results144])
 | (intro hx;refine zA ?_)
 | (intro hx;change retR _ _ _ _ _)
 | (refine ⟨?_,?_⟩ <;> refine zA ?_)
 | (intro hx;constructor <;> intro hs)
 | (constructor <;> intro hs)
 | (refine ⟨?_,fun hs=>?_⟩;refine zA ?_)
 | (refine ⟨fun hs=>?_,?_⟩;rotate_left;refine zA ?_;rotate_left)
 | (refine Qj ?_;simp [-zg,-zd,↓Qb,↓Qa,go_sem];try first | (refine ⟨?_,?_⟩ <;> refine zA ?_) | (refine ⟨fun cz=>?_,fun cz=>?_⟩ <;> (try simp [B_iff,B_not] at cz)))
 | (refine Qc Γr_ok [] (by kernel_rfl) ?_;simp [-zg,-zd,↓Qb,↓Qa,go_sem])
 | fail))
  all_goals (first
 | (refine Yh _ _ _ _ (.mk k v []) ?_ ?_ ?_;(first | exact Or.inl rfl | exact Or.inr rfl);(focus (simp [-zg,-zd,↓Qb,↓Qa,go_sem,Tryz.results144,dat,Qz,li,Xb];done));(focus ((trivial);done)))
 | (refine Yh _ _ _ _ (l5Not_sel k v .nil c5) ?_ ?_ ?_;(first | exact Or.inl rfl | exact Or.inr rfl);(focus (simp [-zg,-zd,↓Qb,↓Qa,go_sem,Tryz.results144,dat,Qz,li];done));(focus ((trivial);done)))
 | (refine Yh _ _ _ _ (z8) ?_ ?_ ?_;(first | exact Or.inl rfl | exact Or.inr rfl);(focus (simp [-zg,-zd,↓Qb,↓Qa,go_sem,Tryz.results144,dat,Qz,li];done));(focus ((trivial);done)))
 | (refine Yh _ _ _ _ (.mk 6 0 [z10]) ?_ ?_ ?_;(first | exact Or.inl rfl | exact Or.inr rfl);(focus (simp [-zg,-zd,↓Qb,↓Qa,go_sem,Tryz.results144,dat,Qz,li,Xe,cX_eq,Xb];done));(focus ((trivial);done)))
 | (refine Yh _ _ _ _ (.mk 7 0 [z15,z13]) ?_ ?_ ?_;(first | exact Or.inl rfl | exact Or.inr rfl);(focus (simp [-zg,-zd,↓Qb,↓Qa,go_sem,Tryz.results144,dat,Qz,li,Xe,cX_eq,Xb];done));(focus ((trivial);done)))
 | (refine Yh _ _ _ _ (.mk 8 0 [l5Not_sel z16.k z16.v (li cX z16.ks) c16',z13]) ?_ ?_ ?_;(first | exact Or.inl rfl | exact Or.inr rfl);(focus (simp [-zg,-zd,↓Qb,↓Qa,go_sem,Tryz.results144,dat,Qz,li,Xe,cX_eq,Xb];done));(focus ((trivial);done)))
 | (refine Yh _ _ _ _ (.mk k 0 [z20,y20]) ?_ ?_ ?_;(first | exact Or.inl rfl | exact Or.inr rfl);(focus (simp [-zg,-zd,↓Qb,↓Qa,go_sem,Tryz.results144,dat,Qz,li,Xe,cX_eq,Xb];done));(focus ((trivial);done)))
 | (refine Yh _ _ _ _ (.mk (dualF k) 0 [z20,y20]) ?_ ?_ ?_;(first | exact Or.inl rfl | exact Or.inr rfl);(focus (simp [-zg,-zd,↓Qb,↓Qa,go_sem,Tryz.results144,dat,Qz,li,Xe,cX_eq,Xb];done));(focus ((trivial);done)))
 | skip)
theorem l5Push_pure (k:Int) (v:Int) (ks:List Tree) (neg:Bool) (hw:WellF (.mk k v ks)):SpecR Tryz.prog 144 [.st [.int .i64 k,.int .i64 v,li cX ks],.bool neg] (fun _=>none) (fun c=>((zaer k v ks neg c).2,fun _=>none)):=l5Push_rec (tsz (.mk k v ks) + 1) k v ks neg hw (by omega)
@[go_sem] def l5PushC:Con:=.rel fun args H=>match args with
  | [.st [.int .i64 k,.int .i64 v,.list n_ks c_ks],.bool neg]=>((Is cX n_ks c_ks) ∧ (WellF (.mk k v (de cX c_ks))),fun c=>(Uy (Yg k v (de cX c_ks) neg c),H))
  | _=>(False,fun _=>(.any,H))
theorem l5PushC_ok:ConOk Tryz.prog 144 l5PushC:=by
  refine ⟨Qo Tryz.func144 (by decide) rfl,fun args H h=>?_⟩
  revert h
  dsimp only
  split
  · intro h
    obtain ⟨⟨ks,rfl,rfl⟩,hw⟩:=h
    try simp only [Qm] at *
    exact SpecR.enc ((SpecR.frame0 (l5Push_pure _ _ ks _ hw) (H:=H)).shut) fun c=>Prod.ext (l5Push_okD _ _ _ _ hw c).2.symm rfl
  · intro h
    exact h.elim
@[go_sem] def Γy13:FuncId → Con:=ext Γy12 144 l5PushC
theorem zalz:∀ g,ConOk Tryz.prog g (Γy13 g):=Qn Γy12_ok l5PushC_ok

end
end Go.Proofs.YtiilmjojffjhlaaGreatDoor.Vm

