/-
  FnLiveWord: the walk of the law. No conditions.
-/
import Derived.Test.YtkjimmkemnmajaaFWd
namespace Go.Proofs.Ytkjimmkemnmajaa.Vm
open Go
open List renaming getD_eq_getElem?_getD → zg,drop_one → zd
set_option linter.unusedVariables false
set_option linter.unusedSimpArgs false
set_option maxRecDepth 200000

set_option maxHeartbeats 8000000 in
theorem lawFnLw (xs:List UInt8) (ys:List UInt8)  : Pure Try.prog 9 [li cY xs,li cY ys] (.bool true):=by
  refine Pure.of_walk Try.func9 rfl (by simp [Try.f9]) (by simp [-zd,go_sem]) fun B hK=>?_
  (repeat' (first
 | refine Qt ?_
 | refine Qc (id:=0) Ui [] (by kernel_rfl) ?_;simp [-zg,-zd,↓Qb,↓Qa,go_sem]
 | refine Qc (id:=1) Ui [13] (by kernel_rfl) ?_;simp [-zg,-zd,↓Qb,↓Qa,go_sem];try (refine ⟨fun s1a=>?_,fun s1a=>?_⟩ <;> (try simp [B_iff,B_not] at s1a) <;> try (refine ⟨fun s1b=>?_,fun s1b=>?_⟩ <;> (try simp [B_iff,B_not] at s1b)))
 | refine Qc (id:=2) Ui [] (by kernel_rfl) ?_;simp [-zg,-zd,↓Qb,↓Qa,go_sem]
 | refine Qc (id:=3) Ui [] (by kernel_rfl) ?_;simp [-zg,-zd,↓Qb,↓Qa,go_sem];try ((intro c3);(have y0:AuM (zaaq xs c3):=zaki xs c3);(generalize (zaaq xs c3) = z at *);(obtain ⟨a,b,c⟩:=z);(obtain ⟨y1,y2,y3,y4⟩:=y0);(dsimp only at y1 y2 y3);(have hS:Xy c:=y4);(refine Xa hK 5 ?_);(simp [go_sem]);(by_cases hW:lsL a b c = []))
 | refine Qc (id:=4) Ui [] (by kernel_rfl) ?_;simp [-zg,-zd,↓Qb,↓Qa,go_sem,hS,hW];try ((refine Xa hK 6 ?_);(simp [go_sem,dat,datL,Jv]))
 | refine Qc (id:=5) Ui [28] (by kernel_rfl) ?_;simp [-zg,-zd,↓Qb,↓Qa,go_sem,hS,hW];try (refine ⟨fun s5a=>?_,fun s5a=>?_⟩ <;> (try simp [B_iff,B_not] at s5a) <;> try (refine ⟨fun s5b=>?_,fun s5b=>?_⟩ <;> (try simp [B_iff,B_not] at s5b)))
 | refine Qc (id:=6) Ui [] (by kernel_rfl) ?_;simp [-zg,-zd,↓Qb,↓Qa,go_sem,hS,hW]
 | ((have hA:=lsL_some hW);(have hg:Vm.B (AutOk a b.length c) = true:=B_yes hA);(have hll:(lsL a b c).length = b.length:=(by rw [zamh hg,zaip,Xp _ _ _ (Nat.le_refl _)]));(have hn1:=hA.1);(obtain ⟨k,hk⟩:∃ k:Nat,ys.length % b.length = k:=⟨_,rfl⟩);(have hkl:k < b.length:=(by rw [← hk];exact Nat.mod_lt _ (by omega)));(have htm:((ys.length:Int)).tmod (b.length:Int) = (k:Int):=(by rw [Int.tmod_eq_emod_of_nonneg (by omega),← Int.natCast_emod,hk]));(have hlf:=live_fw hA (x:=(k:Int)) (by omega) (by omega));(rw [Int.toNat_natCast] at hlf));refine Qc (id:=7) Ui [] (by kernel_rfl) ?_;simp [-zg,-zd,↓Qb,↓Qa,go_sem,hll,htm,hW,(show ¬ b = [] by rintro rfl;simp at hn1),(show ¬ b.length = 0 by omega),(show 0 < b.length by omega),Qv (x:=(k:Int)) (by omega) (by omega)]
 | refine Qc (id:=8) Ui [] (by kernel_rfl) ?_;simp [-zg,-zd,↓Qb,↓Qa,go_sem,hS,(show Is cI 1 [D.int .i64 (k:Int)] ↔ True by rw [Uo,is_cat];simp),(show de cI [D.int .i64 (k:Int)] = [(k:Int)] by rw [Uo,Qm])]
 | refine Qc (id:=9) Ui [] (by kernel_rfl) ?_;simp [-zg,-zd,↓Qb,↓Qa,go_sem,hlf,hll,hkl,Qj hkl,Nat.sub_pos_of_lt hkl,hW]
 | refine Qd (c:=.tmp 17) ?_;simp [-zg,-zd,↓Qb,↓Qa,go_sem];try first | (refine ⟨?_,?_⟩ <;> refine zA ?_) | (refine ⟨fun c17=>?_,fun c17=>?_⟩ <;> (try simp [B_iff,B_not] at c17))
 | refine Qd (c:=.tmp 32) ?_;simp [-zg,-zd,↓Qb,↓Qa,go_sem];try first | (refine ⟨?_,?_⟩ <;> refine zA ?_) | (refine ⟨fun c32=>?_,fun c32=>?_⟩ <;> (try simp [B_iff,B_not] at c32))
 | (refine Qe ?_)
 | (refine Qs ?_;simp [-zg,-zd,↓Qb,↓Qa,go_sem])
 | (refine Qr ?_;simp [-zg,-zd,↓Qb,↓Qa,go_sem])
 | (refine Qu ?_;simp [-zg,-zd,↓Qb,↓Qa,go_sem,Try.results9])
 | (intro hx;refine zA ?_)
 | (refine ⟨?_,?_⟩ <;> refine zA ?_)
 | (intro hx;constructor <;> intro hs)
 | (constructor <;> intro hs)
 | (refine ⟨?_,fun hs=>?_⟩;refine zA ?_)
 | (refine ⟨fun hs=>?_,?_⟩;rotate_left;refine zA ?_;rotate_left)))
  all_goals (first
 | (rw [hlf];simp;done)
 | skip)

end Go.Proofs.Ytkjimmkemnmajaa.Vm

