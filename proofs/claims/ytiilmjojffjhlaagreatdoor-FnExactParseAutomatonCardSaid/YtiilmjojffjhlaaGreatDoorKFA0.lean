/-
  The accepting states, and the specification's text of an automaton. No conditions but that the numbers are of 64 bits.
-/
import Derived.Test.YtiilmjojffjhlaaGreatDoorKFA1
import Derived.Test.YtiilmjojffjhlaaGreatDoorKA3
namespace Go.Proofs.YtiilmjojffjhlaaGreatDoor.Vm
open Go
open List renaming getD_eq_getElem?_getD → zg,drop_one → zd
set_option linter.unusedVariables false
set_option linter.unusedSimpArgs false
set_option maxRecDepth 200000

def accT (b:List Bool):Nat → List Int
  | 0=>[]
  | k + 1=>accT b k ++ (if nth b k = true then [(k:Int)] else [])
theorem accT_yes {b:List Bool} {k:Nat} (h:nth b k = true):accT b (k + 1) = accT b k ++ [(k:Int)]:=by simp [accT,h]
theorem accT_no {b:List Bool} {k:Nat} (h:nth b k = false):accT b (k + 1) = accT b k:=by simp [accT,h]
theorem accT_len (b:List Bool):∀ k,(accT b k).length ≤ k
  | 0=>by simp [accT]
  | k + 1=>by
    have:=accT_len b k
    rw [accT,List.length_append]
    split <;> simp <;> omega
theorem accT_bd (b:List Bool):∀ k,∀ x ∈ accT b k,0 ≤ x ∧ x < k
  | 0,x,h=>by simp [accT] at h
  | k + 1,x,h=>by
    rw [accT,List.mem_append] at h
    rcases h with h | h
    · have:=accT_bd b k x h;omega
    · split at h
      · simp at h;omega
      · simp at h
theorem snoc_acc (xs:List Int) (x:Int):cat cI xs ++ [.int .i64 x] = cat cI (xs ++ [x]):=by rw [Jg,Ve];rfl

set_option maxHeartbeats 2000000 in

theorem accepting_pure (a:List Int) (b:List Bool) (c:List Tr4) (hb:b.length ≤ 1048576):Pure Tryz.prog 54 [.st [li cI a,li cB b,li cT c]] (fr 1 cI (accT b b.length)):=by
  refine Pure.of_walk Tryz.func54 rfl (by simp [Tryz.f54]) (by simp [-zd,go_sem]) fun B hK=>?_
  (repeat' (first
 | refine Qr ?_
 | refine Qc (id:=0) Zw [] (by kernel_rfl) ?_;simp [-zg,-zd,↓Qb,↓Qa,go_sem];try ((refine Xm hK 1 ?_);simp [go_sem])
 | refine Qc (id:=1) Zw [] (by kernel_rfl) ?_;simp [-zg,-zd,↓Qb,↓Qa,go_sem];try ((refine AW_nilfr 3 1 rfl ?_))
 | refine Qc (id:=2) Zw [] (by kernel_rfl) ?_;simp [-zg,-zd,↓Qb,↓Qa,go_sem]
 | refine Qc (id:=3) Zw [] (by kernel_rfl) ?_;simp [-zg,-zd,↓Qb,↓Qa,go_sem]
 | ((have hal:=accT_len b k));refine Qc (id:=4) Zw [] (by kernel_rfl) ?_;simp [-zg,-zd,↓Qb,↓Qa,go_sem,c10,Qh c10,Nat.sub_pos_of_lt c10]
 | refine Qc (id:=5) Zw [] (by kernel_rfl) ?_;simp [-zg,-zd,↓Qb,↓Qa,go_sem,(show k = k from rfl)]
 | refine Qc (id:=6) Zw [] (by kernel_rfl) ?_;simp [-zg,-zd,↓Qb,↓Qa,go_sem,snoc_acc,(show (accT b k).length ≤ 9223372036854775806 by omega),(show 2 * ((accT b k).length + 1) * 8 ≤ 281474976710656 by omega),(show (accT b k).length + 1 ≤ 9223372036854775807 by omega)]
 | ((first | (have hac:=accT_yes (b:=b) (k:=k) c14) | (have hac:=accT_no (b:=b) (k:=k) c14)));refine Qc (id:=7) Zw [] (by kernel_rfl) ?_;simp [-zg,-zd,↓Qb,↓Qa,go_sem,wrapS (k:=k) (by omega)]
 | ((obtain rfl:k = b.length:=by omega));refine Qc (id:=8) Zw [] (by kernel_rfl) ?_;simp [-zg,-zd,↓Qb,↓Qa,go_sem]
 | refine Qf (c:=.tmp 10) ?_;simp [-zg,-zd,↓Qb,↓Qa,go_sem];try first | (refine ⟨?_,?_⟩ <;> refine zA ?_) | (refine ⟨fun c10=>?_,fun c10=>?_⟩ <;> (try simp [B_iff,B_not] at c10))
 | refine Qf (c:=.tmp 14) ?_;simp [-zg,-zd,↓Qb,↓Qa,go_sem];try first | (refine ⟨?_,?_⟩ <;> refine zA ?_) | (refine ⟨fun c14=>?_,fun c14=>?_⟩ <;> (try simp [B_iff,B_not] at c14))
 | (refine Qg (id:=0) (Xc (ι:=Nat) (fun k:Nat=>⟨(upd (upd (upd (upd (upd (fun _=>.any) 1 (.pd [li cI a,li cB b,li cT c])) 3 (.fr 1 (accT b k).length (cat cI (accT b k)))) 7 (li cB b)) 8 (.int .i64 b.length)) 9 (.int .i64 k)),fun _=>none⟩) (fun k=>k ≤ b.length) (fun k=>b.length - k) (0) ?_ ?_ ?_);exact Nat.zero_le _;((repeat' (first | exact Qj (by assumption) | exact Ql | refine Qm ?_ ?_ | refine Qk ?_)) <;> simp [-zg,-zd,↓Qb,↓Qa,go_sem,accT,cat]);rintro k hk)
 | (refine ⟨k + 1,(by omega),by first | omega | (simp;done) | (simp;omega),?_⟩;((repeat' (first | exact Qj (by assumption) | exact Ql | refine Qm ?_ ?_ | refine Qk ?_)) <;> simp [-zg,-zd,↓Qb,↓Qa,go_sem,hac]))
 | (refine Qg ?_)
 | (refine Qq ?_;simp [-zg,-zd,↓Qb,↓Qa,go_sem])
 | (refine Qp ?_;simp [-zg,-zd,↓Qb,↓Qa,go_sem])
 | (refine Qs ?_;simp [-zg,-zd,↓Qb,↓Qa,go_sem,Tryz.results54])
 | (intro hx;refine zA ?_)
 | (refine ⟨?_,?_⟩ <;> refine zA ?_)
 | (intro hx;constructor <;> intro hs)
 | (constructor <;> intro hs)
 | (refine ⟨?_,fun hs=>?_⟩;refine zA ?_)
 | (refine ⟨fun hs=>?_,?_⟩;rotate_left;refine zA ?_;rotate_left)))
noncomputable def zabh:Con:=.pure fun
  | [.st [.list n_a c_a,.list n_b c_b,.list n_c c_c]]=>((Is cI n_a c_a) ∧ (Is cB n_b c_b) ∧ (Is cT n_c c_c) ∧ ((de cB c_b).length ≤ 1048576),fr 1 cI (accT (de cB c_b) (de cB c_b).length))
  | _=>(False,.any)
attribute [go_sem] zabh
theorem zaed:ConOk Tryz.prog 54 zabh:=by
  refine ⟨Qn Tryz.func54 (by decide) rfl,fun args h=>?_⟩
  revert h
  dsimp only
  split
  · intro h
    obtain ⟨⟨a,rfl,rfl⟩,⟨b,rfl,rfl⟩,⟨c,rfl,rfl⟩,hb⟩:=h
    try simp only [Xb] at *
    exact ⟨accepting_pure a b c hb,by simp [go_sem]⟩
  · intro h
    exact h.elim
noncomputable def Γfa1:FuncId → Con:=ext Γa23 54 zabh
attribute [go_sem] Γfa1
theorem Γfa1_ok:∀ g,ConOk Tryz.prog g (Γfa1 g):=Qu Zw zaed

end Go.Proofs.YtiilmjojffjhlaaGreatDoor.Vm

