/-
  spec.l16Num; spec.ParseCertificate. No conditions.
-/
import Derived.Test.YtiilmjojffjhlaaDoorPM3
namespace Go.Proofs.YtiilmjojffjhlaaDoor.Vm
open Go
open List renaming getD_eq_getElem?_getD → zg,drop_one → zd
set_option linter.unusedVariables false
set_option linter.unusedSimpArgs false
set_option maxRecDepth 200000

def NumIs (s t:List UInt8) (neg:Bool):Prop:=numT s = t ∧ numNeg s = neg
theorem num_cases (s:List UInt8):(∃ t neg,0 < s.length ∧ ((s.getD 0 0).toNat:Int) = 45 ∧ s.drop 1 = t ∧ neg = true ∧ NumIs s t neg) ∨ (∃ t neg,t = s ∧ 0 < t.length ∧ ¬ ((t.getD 0 0).toNat:Int) = 45 ∧ True ∧ neg = false ∧ NumIs t t neg) ∨ (∃ t neg,t = s ∧ ¬ 0 < t.length ∧ True ∧ True ∧ neg = false ∧ NumIs t t neg):=by
  by_cases h0:0 < s.length
  · by_cases h1:(s.getD 0 0).toNat = 45
    · have hn:numNeg s = true:=decide_eq_true ⟨h0,h1⟩
      exact .inl ⟨_,_,h0,by omega,rfl,rfl,by unfold numT;rw [if_pos hn],hn⟩
    · have hn:numNeg s = false:=decide_eq_false fun h=>h1 h.2
      exact .inr (.inl ⟨s,_,rfl,h0,by omega,trivial,rfl,by unfold numT;rw [if_neg (by rw [hn];simp)],hn⟩)
  · have hn:numNeg s = false:=decide_eq_false fun h=>h0 h.1
    exact .inr (.inr ⟨s,_,rfl,h0,trivial,trivial,rfl,by unfold numT;rw [if_neg (by rw [hn];simp)],hn⟩)
theorem len_cases (t:List UInt8):(t = [] ∧ True ∧ True ∧ True) ∨ (0 < t.length ∧ 17 < (t.length:Int) ∧ True ∧ True) ∨ (0 < t.length ∧ ¬ 17 < (t.length:Int) ∧ ((t.getD 0 0).toNat:Int) = 48 ∧ 1 < (t.length:Int)) ∨
    (0 < t.length ∧ ¬ 17 < (t.length:Int) ∧ ((t.getD 0 0).toNat:Int) = 48 ∧ ¬ 1 < (t.length:Int)) ∨ (0 < t.length ∧ ¬ 17 < (t.length:Int) ∧ ¬ ((t.getD 0 0).toNat:Int) = 48 ∧ True):=by
  by_cases h0:t = []
  · exact .inl ⟨h0,trivial,trivial,trivial⟩
  · have:0 < t.length:=List.length_pos_iff.2 h0
    by_cases h1:17 < (t.length:Int)
    · exact .inr (.inl ⟨this,h1,trivial,trivial⟩)
    · by_cases h2:((t.getD 0 0).toNat:Int) = 48
      · by_cases h3:1 < (t.length:Int)
        · exact .inr (.inr (.inl ⟨this,h1,h2,h3⟩))
        · exact .inr (.inr (.inr (.inl ⟨this,h1,h2,h3⟩)))
      · exact .inr (.inr (.inr (.inr ⟨this,h1,h2,trivial⟩)))
def BadN (t:List UInt8) (neg:Bool):Prop:=t.length = 0 ∨ 17 < t.length ∨ ((t.getD 0 0).toNat = 48 ∧ (1 < t.length ∨ neg = true))
theorem bad_iff {t:List UInt8} {neg:Bool}:numBad t neg = true ↔ BadN t neg:=by
  simp [numBad,BadN,or_assoc,-zg]
theorem num_bad {s t:List UInt8} {neg:Bool} (hi:NumIs s t neg) (h:BadN t neg):numV s = 0 ∧ numOk s = false:=by
  obtain ⟨h1,h2⟩:=hi
  have hb:numB t neg = false:=by rw [numB,bad_iff.2 h];rfl
  exact ⟨by rw [numV,h1,h2,numR,if_neg (by rw [hb];simp)],by rw [numOk,h1,h2,hb]⟩
theorem num_bad_at {s t:List UInt8} {neg:Bool} (hi:NumIs s t neg) {k:Nat} (hk:k < t.length) (h:noDg t k = true):numV s = 0 ∧ numOk s = false:=by
  obtain ⟨h1,h2⟩:=hi
  have ha:(List.range t.length).any (noDg t) = true:=List.any_eq_true.2 ⟨k,List.mem_range.2 hk,h⟩
  have hb:numB t neg = false:=by rw [numB,ha];simp
  exact ⟨by rw [numV,h1,h2,numR,if_neg (by rw [hb];simp)],by rw [numOk,h1,h2,hb]⟩
theorem num_end {s t:List UInt8} {neg:Bool} (hi:NumIs s t neg) (h:¬ BadN t neg) {k:Nat} (hk:t.length ≤ k) (ht:NoneTill (noDg t) k):numV s = (if neg = true then -nmD t t.length else nmD t t.length) ∧ numOk s = true:=by
  obtain ⟨h1,h2⟩:=hi
  have ha:(List.range t.length).any (noDg t) = false:=by
    rw [List.any_eq_false]
    intro i hi
    rw [List.mem_range] at hi
    rw [ht i (by omega)];simp
  have hb:numB t neg = true:=by
    rw [numB,ha]
    cases e:numBad t neg
    · rfl
    · exact absurd (bad_iff.1 e) h
  exact ⟨by rw [numV,h1,h2,numR,if_pos hb],by rw [numOk,h1,h2,hb]⟩
theorem dg_succ {t:List UInt8} {k:Nat} (ht:NoneTill (noDg t) k) (h1:¬ ((t.getD k 0).toNat:Int) < 48) (h2:¬ 57 < ((t.getD k 0).toNat:Int)):NoneTill (noDg t) (k + 1) :=
  ht.succ (by rw [noDg,decide_eq_true (by omega)];rfl)

set_option maxHeartbeats 2000000 in

theorem l16Num_pure (s:List UInt8) (hl:s.length ≤ 1048576):Pure Tryd.prog 10 [.str s] (.tup [.int .i64 (numV s),.bool (numOk s)]):=by
  refine Pure.of_walk Tryd.func10 rfl (by simp [Tryd.f10]) (by simp [-zd,go_sem]) fun B hK=>?_
  rcases num_cases s with ⟨t,neg,h0,h45,hd,hneg,hi⟩ | ⟨t,neg,rfl,h0,h45,hd,hneg,hi⟩ | ⟨t,neg,rfl,h0,h45,hd,hneg,hi⟩ <;> rcases len_cases t with ⟨g1,g2,g3,g4⟩ | ⟨g1,g2,g3,g4⟩ | ⟨g1,g2,g3,g4⟩ | ⟨g1,g2,g3,g4⟩ | ⟨g1,g2,g3,g4⟩ <;> try (exfalso;omega)
  all_goals (repeat' (first
 | refine Xe ?_
 | refine Qd (id:=0) Qy [] (by kernel_rfl) ?_;simp [-zg,-zd,↓Qb,↓Qa,go_sem]
 | refine Qd (id:=1) Qy [10] (by kernel_rfl) ?_;simp [-zg,-zd,↓Qb,↓Qa,go_sem,h0,h45];try (refine ⟨fun s1a=>?_,fun s1a=>?_⟩ <;> (try simp [B_iff,B_not] at s1a) <;> try (refine ⟨fun s1b=>?_,fun s1b=>?_⟩ <;> (try simp [B_iff,B_not] at s1b)))
 | refine Qd (id:=2) Qy [] (by kernel_rfl) ?_;simp [-zg,-zd,↓Qb,↓Qa,go_sem]
 | refine Qd (id:=3) Qy [] (by kernel_rfl) ?_;simp [-zg,-zd,↓Qb,↓Qa,go_sem,(show s.length - 1 = t.length by rw [← hd];simp),hd,(show (1:Int) ≤ s.length by omega),List.take_length]
 | refine Qd (id:=4) Qy [21,26,30,34] (by kernel_rfl) ?_;simp [-zg,-zd,↓Qb,↓Qa,go_sem,g1,Xw g1,Nat.sub_pos_of_lt g1,g2,g3,g4];try (refine ⟨fun s4a=>?_,fun s4a=>?_⟩ <;> (try simp [B_iff,B_not] at s4a) <;> try (refine ⟨fun s4b=>?_,fun s4b=>?_⟩ <;> (try simp [B_iff,B_not] at s4b) <;> try (refine ⟨fun s4c=>?_,fun s4c=>?_⟩ <;> (try simp [B_iff,B_not] at s4c) <;> try (refine ⟨fun s4d=>?_,fun s4d=>?_⟩ <;> (try simp [B_iff,B_not] at s4d) <;> try (refine ⟨fun s4e=>?_,fun s4e=>?_⟩ <;> (try simp [B_iff,B_not] at s4e))))))
 | refine Qd (id:=4) Qy [21,26,30,34] (by kernel_rfl) ?_;simp [-zg,-zd,↓Qb,↓Qa,go_sem,g1];try (refine ⟨fun s4a=>?_,fun s4a=>?_⟩ <;> (try simp [B_iff,B_not] at s4a) <;> try (refine ⟨fun s4b=>?_,fun s4b=>?_⟩ <;> (try simp [B_iff,B_not] at s4b) <;> try (refine ⟨fun s4c=>?_,fun s4c=>?_⟩ <;> (try simp [B_iff,B_not] at s4c) <;> try (refine ⟨fun s4d=>?_,fun s4d=>?_⟩ <;> (try simp [B_iff,B_not] at s4d) <;> try (refine ⟨fun s4e=>?_,fun s4e=>?_⟩ <;> (try simp [B_iff,B_not] at s4e))))))
 | refine Qd (id:=5) Qy [] (by kernel_rfl) ?_;simp [-zg,-zd,↓Qb,↓Qa,go_sem]
 | refine Qd (id:=6) Qy [] (by kernel_rfl) ?_;simp [-zg,-zd,↓Qb,↓Qa,go_sem]
 | refine Qd (id:=7) Qy [] (by kernel_rfl) ?_;simp [-zg,-zd,↓Qb,↓Qa,go_sem]
 | refine Qd (id:=8) Qy [] (by kernel_rfl) ?_;simp [-zg,-zd,↓Qb,↓Qa,go_sem]
 | refine Qd (id:=10) Qy [49] (by kernel_rfl) ?_;simp [-zg,-zd,↓Qb,↓Qa,go_sem,c42,Xw c42,Nat.sub_pos_of_lt c42];try (refine ⟨fun s10a=>?_,fun s10a=>?_⟩ <;> (try simp [B_iff,B_not] at s10a) <;> try (refine ⟨fun s10b=>?_,fun s10b=>?_⟩ <;> (try simp [B_iff,B_not] at s10b)))
 | refine Qd (id:=11) Qy [] (by kernel_rfl) ?_;simp [-zg,-zd,↓Qb,↓Qa,go_sem]
 | (have hv:=nmD_s ht (by omega);have hgd:(t.getD k 0).toNat = (t[k]?.getD 0).toNat:=(by rw [List.getD_eq_getElem?_getD]));refine Qd (id:=12) Qy [] (by kernel_rfl) ?_;simp [-zg,-zd,↓Qb,↓Qa,go_sem,c42,Xw c42,Nat.sub_pos_of_lt c42,(show IntKind.u8.wrap (((t.getD k 0).toNat:Int) - 48) = ((t.getD k 0).toNat:Int) - 48 by rw [IntKind.wrap_u8];omega),Zg (x:=((t.getD k 0).toNat:Int) - 48) (by omega) (by omega),Zg (x:=nmD t k * 10) (by omega) (by omega),Zg (x:=nmD t k * 10 + (((t.getD k 0).toNat:Int) - 48)) (by omega) (by omega)]
 | (have htn:=dg_succ ht (by omega) (by omega));refine Qd (id:=9) Qy [] (by kernel_rfl) ?_;simp [-zg,-zd,↓Qb,↓Qa,go_sem,wrapS (k:=k) (by omega)]
 | refine Qd (id:=13) Qy [] (by kernel_rfl) ?_;simp [-zg,-zd,↓Qb,↓Qa,go_sem]
 | ((obtain rfl:k = t.length:=(by omega));have hv:=nmD_s ht (by omega));refine Qd (id:=14) Qy [] (by kernel_rfl) ?_;simp [-zg,-zd,↓Qb,↓Qa,go_sem,Zg (x:=-nmD t t.length) (by omega) (by omega)]
 | refine Qd (id:=15) Qy [] (by kernel_rfl) ?_;simp [-zg,-zd,↓Qb,↓Qa,go_sem]
 | refine Qm (c:=.tmp 15) ?_;simp [-zg,-zd,↓Qb,↓Qa,go_sem];try first | (refine ⟨?_,?_⟩ <;> refine zA ?_) | (refine ⟨fun c15=>?_,fun c15=>?_⟩ <;> (try simp [B_iff,B_not] at c15))
 | refine Qm (c:=.tmp 38) ?_;simp [-zg,-zd,↓Qb,↓Qa,go_sem];try first | (refine ⟨?_,?_⟩ <;> refine zA ?_) | (refine ⟨fun c38=>?_,fun c38=>?_⟩ <;> (try simp [B_iff,B_not] at c38))
 | refine Qm (c:=.tmp 42) ?_;simp [-zg,-zd,↓Qb,↓Qa,go_sem];try first | (refine ⟨?_,?_⟩ <;> refine zA ?_) | (refine ⟨fun c42=>?_,fun c42=>?_⟩ <;> (try simp [B_iff,B_not] at c42))
 | refine Qm (c:=.tmp 54) ?_;simp [-zg,-zd,↓Qb,↓Qa,go_sem];try first | (refine ⟨?_,?_⟩ <;> refine zA ?_) | (refine ⟨fun c54=>?_,fun c54=>?_⟩ <;> (try simp [B_iff,B_not] at c54))
 | refine Qm (c:=.tmp 63) ?_;simp [-zg,-zd,↓Qb,↓Qa,go_sem];try first | (refine ⟨?_,?_⟩ <;> refine zA ?_) | (refine ⟨fun c63=>?_,fun c63=>?_⟩ <;> (try simp [B_iff,B_not] at c63))
 | (refine Qq (id:=0) (zaec (ι:=Nat) (fun k:Nat=>⟨(upd (upd (upd (upd (fun _=>.any) 0 (.str t)) 4 (.bool neg)) 5 (.int .i64 (nmD t k))) 6 (.int .i64 k)),fun _=>none⟩) (fun k=>k ≤ t.length ∧ NoneTill (noDg t) k) (fun k=>t.length - k) (0) ?_ ?_ ?_);exact ⟨Nat.zero_le _,.zero _⟩;((repeat' (first | exact Xi (by assumption) | exact Xk | refine Xm ?_ ?_ | refine Xj ?_)) <;> simp [-zg,-zd,↓Qb,↓Qa,go_sem,hneg,nmD]);rintro k ⟨hk,ht⟩)
 | (refine ⟨k + 1,⟨by omega,htn⟩,by first | omega | (simp;done) | (simp;omega),?_⟩;((repeat' (first | exact Xi (by assumption) | exact Xk | refine Xm ?_ ?_ | refine Xj ?_)) <;> simp [-zg,-zd,↓Qb,↓Qa,go_sem,hneg,nmD]))
 | (refine Qq ?_)
 | (refine Xd ?_;simp [-zg,-zd,↓Qb,↓Qa,go_sem])
 | (refine Xc ?_;simp [-zg,-zd,↓Qb,↓Qa,go_sem])
 | (refine Xf ?_;simp [-zg,-zd,↓Qb,↓Qa,go_sem,Tryd.results10])
 | (intro hx;refine zA ?_)
 | (refine ⟨?_,?_⟩ <;> refine zA ?_)
 | (intro hx;constructor <;> intro hs)
 | (constructor <;> intro hs)
 | (refine ⟨?_,fun hs=>?_⟩;refine zA ?_)
 | (refine ⟨fun hs=>?_,?_⟩;rotate_left;refine zA ?_;rotate_left)))
  all_goals (first
 | (have hb:=num_bad hi (by first | (simp [BadN,hneg,g1,g2,g3,g4,-zg];done) | (simp [BadN,hneg,-zg];omega));exact ⟨hb.1.symm,hb.2⟩)
 | (exfalso;rw [hneg] at c63;cases c63;done)
 | (exact ⟨by decide,by decide⟩)
 | (have hgd:(t.getD k 0).toNat = (t[k]?.getD 0).toNat:=(by rw [List.getD_eq_getElem?_getD]);have hb:=num_bad_at hi c42 (by rw [noDg,decide_eq_false (by omega)];rfl);exact ⟨hb.1.symm,hb.2⟩)
 | (have he:=num_end hi (fun hb=>by rcases hb with h | h | ⟨h,h2 | h2⟩ <;> first | omega | (rw [hneg] at h2;cases h2)) (Nat.le_refl _) ht;exact ⟨by rw [he.1,if_pos c63],he.2⟩)
 | (obtain rfl:k = t.length:=(by omega);have he:=num_end hi (fun hb=>by rcases hb with h | h | ⟨h,h2 | h2⟩ <;> first | omega | (rw [hneg] at h2;cases h2)) (Nat.le_refl _) ht;exact ⟨by rw [he.1,if_neg (by rw [hneg];simp)],he.2⟩)
 | skip)
noncomputable def zabq:Con:=.pure fun
  | [.str s]=>((s.length ≤ 1048576),.tup [.int .i64 (numV s),.bool (numOk s)])
  | _=>(False,.any)
attribute [go_sem] zabq
theorem zaek:ConOk Tryd.prog 10 zabq:=by
  refine ⟨Qz Tryd.func10 (by decide) rfl,fun args h=>?_⟩
  revert h
  dsimp only
  split
  · intro h
    have hl:=h
    skip
    exact ⟨l16Num_pure _ hl,by simp [go_sem]⟩
  · intro h
    exact h.elim
noncomputable def Γpc5:FuncId → Con:=ext Γpc4 10 zabq
attribute [go_sem] Γpc5
theorem Γpc5_ok:∀ g,ConOk Tryd.prog g (Γpc5 g):=Xn Qy zaek

end Go.Proofs.YtiilmjojffjhlaaDoor.Vm

