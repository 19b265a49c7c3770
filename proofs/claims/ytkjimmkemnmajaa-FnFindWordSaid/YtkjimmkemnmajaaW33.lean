/-
  FnFindWord: the walk of the law. No conditions.
-/
import Derived.Test.YtkjimmkemnmajaaFWd
namespace Go.Proofs.Ytkjimmkemnmajaa.Vm
open Go
open List renaming getD_eq_getElem?_getD → zg,drop_one → zd
set_option linter.unusedVariables false
set_option linter.unusedSimpArgs false
set_option maxRecDepth 200000

def Stay (W:List Bool) (k:Nat):Prop:=W = [] → k = 0

set_option maxHeartbeats 8000000 in
theorem lawFnFw (xs:List UInt8)  : Pure Try.prog 12 [li cY xs] (.bool true):=by
  refine Pure.of_walk Try.func12 rfl (by simp [Try.f12]) (by simp [-zd,go_sem]) fun B hK=>?_
  (repeat' (first
 | refine Qt ?_
 | refine Qc (id:=0) Zx [] (by kernel_rfl) ?_;simp [-zg,-zd,↓Qb,↓Qa,go_sem]
 | refine Qc (id:=1) Zx [] (by kernel_rfl) ?_;simp [-zg,-zd,↓Qb,↓Qa,go_sem]
 | refine Qc (id:=2) Zx [] (by kernel_rfl) ?_;simp [-zg,-zd,↓Qb,↓Qa,go_sem]
 | refine Qc (id:=3) Zx [] (by kernel_rfl) ?_;simp [-zg,-zd,↓Qb,↓Qa,go_sem];try ((intro c3);(have y0:AuM (zabe xs c3):=zaoz xs c3);(generalize (zabe xs c3) = z at *);(obtain ⟨a,b,c⟩:=z);(obtain ⟨y1,y2,y3,y4⟩:=y0);(dsimp only at y1 y2 y3);(have hS:Xy c:=y4);(refine Xa hK 3 ?_);(simp [go_sem]);((by_cases hW:lsL a b c = []) <;> (cases hf:fwOk a b c) <;> (try (exfalso;have hz:=fwOk_no1 (lsL_none hW);rw [hz] at hf;cases hf;done))))
 | refine Qc (id:=4) Zx [] (by kernel_rfl) ?_;simp [-zg,-zd,↓Qb,↓Qa,go_sem,hS,hf];try ((refine Xa hK 4 ?_);(simp [go_sem,dat,datL,Jv]))
 | refine Qc (id:=5) Zx [] (by kernel_rfl) ?_;simp [-zg,-zd,↓Qb,↓Qa,go_sem,hS,hf];try ((refine Xa hK 6 ?_);(simp [go_sem,dat,datL,Jv]))
 | refine Qc (id:=6) Zx [31] (by kernel_rfl) ?_;simp [-zg,-zd,↓Qb,↓Qa,go_sem,hf];try (refine ⟨fun s6a=>?_,fun s6a=>?_⟩ <;> (try simp [B_iff,B_not] at s6a) <;> try (refine ⟨fun s6b=>?_,fun s6b=>?_⟩ <;> (try simp [B_iff,B_not] at s6b)))
 | refine Qc (id:=7) Zx [] (by kernel_rfl) ?_;simp [-zg,-zd,↓Qb,↓Qa,go_sem]
 | refine Qc (id:=8) Zx [] (by kernel_rfl) ?_;simp [-zg,-zd,↓Qb,↓Qa,go_sem,hS,hW];try ((refine Xa hK 8 ?_);(simp [go_sem,dat,datL,Jv]);(obtain ⟨S,hRS⟩:∃ R,fS a b c = R:=⟨_,rfl⟩);(obtain ⟨L,hRL⟩:∃ R,fL a b c = R:=⟨_,rfl⟩);(rw [hRS,hRL]))
 | (first | (have hA:=lsL_some hW;have hg:Vm.B (AutOk a b.length c) = true:=B_yes hA;have hll:(lsL a b c).length = b.length:=(by rw [zamh hg,zaip,Xp _ _ _ (Nat.le_refl _)])) | (have hg:Vm.B (AutOk a b.length c) = false:=lsL_none hW));refine Qc (id:=9) Zx [] (by kernel_rfl) ?_;simp [-zg,-zd,↓Qb,↓Qa,go_sem]
 | refine Qc (id:=10) Zx [] (by kernel_rfl) ?_;simp [-zg,-zd,↓Qb,↓Qa,go_sem]
 | refine Qc (id:=11) Zx [44] (by kernel_rfl) ?_;simp [-zg,-zd,↓Qb,↓Qa,go_sem,hS,hg];try (refine ⟨fun s11a=>?_,fun s11a=>?_⟩ <;> (try simp [B_iff,B_not] at s11a) <;> try (refine ⟨fun s11b=>?_,fun s11b=>?_⟩ <;> (try simp [B_iff,B_not] at s11b)))
 | ((have hqa:q.1 < a.length:=(by omega));(obtain ⟨g0,g1⟩:=autOk_in hA hqa);(obtain ⟨x,hx⟩:∃ x,nth a q.1 = x:=⟨_,rfl⟩);(rw [hx] at g0 g1);(have g2:x.toNat < (lsL a b c).length:=(by omega));(have g3:x < ((lsL a b c).length:Int):=(by omega)));refine Qc (id:=13) Zx [51] (by kernel_rfl) ?_;simp [-zg,-zd,↓Qb,↓Qa,go_sem,hqa,Qj hqa,Nat.sub_pos_of_lt hqa,hx,g0,g1,g2,Qj g2,Nat.sub_pos_of_lt g2,g3,hll,(show 0 < b.length - x.toNat by omega),(show x.toNat < b.length by omega)];try (refine ⟨fun s13a=>?_,fun s13a=>?_⟩ <;> (try simp [B_iff,B_not] at s13a) <;> try (refine ⟨fun s13b=>?_,fun s13b=>?_⟩ <;> (try simp [B_iff,B_not] at s13b)))
 | refine Qc (id:=12) Zx [] (by kernel_rfl) ?_;simp [-zg,-zd,↓Qb,↓Qa,go_sem,wrapS (k:=q.1) (by omega)]
 | ((have hq:q.2 = fwOk a b c:=(by first | (rw [Bool.eq_iff_iff,f2,← some_fw hA];constructor;(rintro ⟨j,j1,j2⟩;exact ⟨j,by omega,j2⟩);(rintro ⟨j,j1,j2⟩;exact ⟨j,by omega,j2⟩)) | (rw [hf,← Bool.not_eq_true,f2];rintro ⟨j,j1,j2⟩;have:=f3 hW;omega))));refine Qc (id:=14) Zx [] (by kernel_rfl) ?_;simp [-zg,-zd,↓Qb,↓Qa,go_sem,hf]
 | refine Qc (id:=15) Zx [] (by kernel_rfl) ?_;simp [-zg,-zd,↓Qb,↓Qa,go_sem,hq,hf]
 | ((obtain ⟨v1,v2⟩:=fw_acR hf);(rw [hRS,hRL] at v1 v2));refine Qc (id:=16) Zx [] (by kernel_rfl) ?_;simp [-zg,-zd,↓Qb,↓Qa,go_sem,hS,v1,v2]
 | refine Qc (id:=17) Zx [72,75] (by kernel_rfl) ?_;simp [-zg,-zd,↓Qb,↓Qa,go_sem,hq,hf];try (refine ⟨fun s17a=>?_,fun s17a=>?_⟩ <;> (try simp [B_iff,B_not] at s17a) <;> try (refine ⟨fun s17b=>?_,fun s17b=>?_⟩ <;> (try simp [B_iff,B_not] at s17b) <;> try (refine ⟨fun s17c=>?_,fun s17c=>?_⟩ <;> (try simp [B_iff,B_not] at s17c))))
 | refine Qd (c:=.tmp 15) ?_;simp [-zg,-zd,↓Qb,↓Qa,go_sem];try first | (refine ⟨?_,?_⟩ <;> refine zA ?_) | (refine ⟨fun c15=>?_,fun c15=>?_⟩ <;> (try simp [B_iff,B_not] at c15))
 | refine Qd (c:=.tmp 36) ?_;simp [-zg,-zd,↓Qb,↓Qa,go_sem];try first | (refine ⟨?_,?_⟩ <;> refine zA ?_) | (refine ⟨fun c36=>?_,fun c36=>?_⟩ <;> (try simp [B_iff,B_not] at c36))
 | refine Qd (c:=.tmp 47) ?_;simp [-zg,-zd,↓Qb,↓Qa,go_sem];try first | (refine ⟨?_,?_⟩ <;> refine zA ?_) | (refine ⟨fun c47=>?_,fun c47=>?_⟩ <;> (try simp [B_iff,B_not] at c47))
 | refine Qd (c:=.tmp 62) ?_;simp [-zg,-zd,↓Qb,↓Qa,go_sem];try first | (refine ⟨?_,?_⟩ <;> refine zA ?_) | (refine ⟨fun c62=>?_,fun c62=>?_⟩ <;> (try simp [B_iff,B_not] at c62))
 | (refine Qe (id:=0) (Qy (ι:=Nat × Bool) (fun q:Nat × Bool=>⟨(upd (upd (upd (upd (upd (upd (fun _=>.any) 3 (.pd [li cI a,li cB b,li cT c])) 4 (.pd [li cI S,li cI L])) 5 (.bool (fwOk a b c))) 8 (li cB (lsL a b c))) 9 (.bool q.2)) 10 (.int .i64 q.1)),fun _=>none⟩) (fun q=>q.1 ≤ a.length ∧ (q.2 = true ↔ ∃ j,j < q.1 ∧ nth (lsL a b c) (nth a j).toNat = true) ∧ Stay (lsL a b c) q.1) (fun q=>a.length - q.1) ((0,false)) ?_ ?_ ?_);exact ⟨Nat.zero_le _,by simp,fun _=>rfl⟩;((repeat' (first | exact Qg (by assumption) | exact Qi | refine Qf ?_ ?_ | refine Qh ?_)) <;> simp [-zg,-zd,↓Qb,↓Qa,go_sem,hf,hW]);rintro q ⟨f1,f2,f3⟩)
 | (refine ⟨(q.1 + 1,nth (lsL a b c) (nth a q.1).toNat),⟨by dsimp only;omega,some_new f2 s13a Iff.rfl,fun h=>absurd h hW⟩,by first | omega | (simp;done) | (simp;omega),?_⟩;((repeat' (first | exact Qg (by assumption) | exact Qi | refine Qf ?_ ?_ | refine Qh ?_)) <;> simp [-zg,-zd,↓Qb,↓Qa,go_sem,hf,hW]))
 | (refine Qe ?_)
 | (refine Qs ?_;simp [-zg,-zd,↓Qb,↓Qa,go_sem])
 | (refine Qr ?_;simp [-zg,-zd,↓Qb,↓Qa,go_sem])
 | (refine Qu ?_;simp [-zg,-zd,↓Qb,↓Qa,go_sem,Try.results12])
 | (intro hx;refine zA ?_)
 | (refine ⟨?_,?_⟩ <;> refine zA ?_)
 | (intro hx;constructor <;> intro hs)
 | (constructor <;> intro hs)
 | (refine ⟨?_,fun hs=>?_⟩;refine zA ?_)
 | (refine ⟨fun hs=>?_,?_⟩;rotate_left;refine zA ?_;rotate_left)
 | (refine ⟨(q.1 + 1,true),⟨by dsimp only;omega,⟨fun _=>some_step.2 (.inl (f2.1 s13a)),fun _=>rfl⟩,fun h=>absurd h hW⟩,by dsimp only;omega,?_⟩;((repeat' (first | exact Qg (by assumption) | exact Qi | refine Qf ?_ ?_ | refine Qh ?_)) <;> simp [-zg,-zd,go_sem,hf,hW]);done)))
  all_goals (first
 | (rw [hx];done)
 | (rw [hx])
 | skip)

end Go.Proofs.Ytkjimmkemnmajaa.Vm

