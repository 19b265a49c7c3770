/-
  Paths; partitions: both ways. No conditions.
-/
import Derived.Test.YtmiimodggpjkmaaGreatF4
namespace Go.Proofs.YtmiimodggpjkmaaGreat.Vm
open Go
open List renaming getD_eq_getElem?_getD → zg,drop_one → zd
noncomputable section
set_option linter.unusedVariables false
set_option linter.unusedSimpArgs false
set_option maxRecDepth 200000

@[go_sem] def Γ41:FuncId → Con:=Γ40
theorem Γ41_ok:∀ g,ConOk Tryz.prog g (Γ41 g):=Γ40_ok

@[go_sem] def Γ42:FuncId → Con:=Γ41
theorem Jf:∀ g,ConOk Tryz.prog g (Γ42 g):=Γ41_ok

def most (xs:List Int):Nat → Int
  | 0=>0
  | k + 1=>if nth xs k = most xs k then most xs k + 1 else most xs k
theorem most_bd (xs:List Int):∀ k,0 ≤ most xs k ∧ most xs k ≤ k
  | 0=>by simp [most]
  | k + 1=>by have:=most_bd xs k;simp only [most];split <;> omega
def Xt (xs:List Int):Prop:=∀ i,i < xs.length → 0 ≤ nth xs i ∧ nth xs i ≤ most xs i

theorem zagf (a:List Ints2) (b:List (List Int)) (p:List Int)  : Pure Tryz.prog 12 [.st [li cP a,li cL b],li cI p] (.bool (B (GraphOk a b ∧ Xt p ∧ p.length = a.length))):=by
  refine Pure.of_walk Tryz.func12 rfl (by simp [Tryz.f12]) (by simp [-zd,go_sem]) fun B hK=>?_
  (repeat' (first
 | refine Qt ?_
 | refine Qc (id:=0) Jf [] (by kernel_rfl) ?_;simp [-zg,-zd,↓Qb,↓Qa,go_sem];try (refine Xf hK 2 ?_;simp [go_sem])
 | refine Qc (id:=1) Jf [10] (by kernel_rfl) ?_;simp [-zg,-zd,↓Qb,↓Qa,go_sem];try (refine ⟨fun s1a=>?_,fun s1a=>?_⟩ <;> (try simp [B_iff,B_not] at s1a) <;> try (refine ⟨fun s1b=>?_,fun s1b=>?_⟩ <;> (try simp [B_iff,B_not] at s1b)))
 | refine Qc (id:=2) Jf [] (by kernel_rfl) ?_;simp [-zg,-zd,↓Qb,↓Qa,go_sem]
 | (refine Zm 1 rfl fun hm=>?_;have hG:GraphOk a b:=(by assumption));refine Qc (id:=3) Jf [] (by kernel_rfl) ?_;simp [-zg,-zd,↓Qb,↓Qa,go_sem]
 | refine Qc (id:=4) Jf [] (by kernel_rfl) ?_;simp [-zg,-zd,↓Qb,↓Qa,go_sem]
 | refine Qc (id:=5) Jf [] (by kernel_rfl) ?_;simp [-zg,-zd,↓Qb,↓Qa,go_sem]
 | refine Qc (id:=7) Jf [29] (by kernel_rfl) ?_;simp [-zg,-zd,↓Qb,↓Qa,go_sem,c21,Qe c21,Nat.sub_pos_of_lt c21];try (refine ⟨fun s7a=>?_,fun s7a=>?_⟩ <;> (try simp [B_iff,B_not] at s7a) <;> try (refine ⟨fun s7b=>?_,fun s7b=>?_⟩ <;> (try simp [B_iff,B_not] at s7b)))
 | refine Qc (id:=8) Jf [] (by kernel_rfl) ?_;simp [-zg,-zd,↓Qb,↓Qa,go_sem]
 | (have bd:=most_bd p k);refine Qc (id:=9) Jf [] (by kernel_rfl) ?_;simp [-zg,-zd,↓Qb,↓Qa,go_sem,c21,Qe c21,Nat.sub_pos_of_lt c21]
 | refine Qc (id:=10) Jf [] (by kernel_rfl) ?_;simp [-zg,-zd,↓Qb,↓Qa,go_sem,Xb (x:=most p k + 1) (by omega) (by omega)]
 | refine Qc (id:=6) Jf [] (by kernel_rfl) ?_;simp [-zg,-zd,↓Qb,↓Qa,go_sem,wrapS (k:=k) (by omega)]
 | refine Qc (id:=11) Jf [] (by kernel_rfl) ?_;simp [-zg,-zd,↓Qb,↓Qa,go_sem]
 | refine Qd (c:=.tmp 17) ?_;simp [-zg,-zd,↓Qb,↓Qa,go_sem];try first | (refine ⟨?_,?_⟩ <;> refine zA ?_) | (refine ⟨fun c17=>?_,fun c17=>?_⟩ <;> (try simp [B_iff,B_not] at c17))
 | refine Qd (c:=.tmp 21) ?_;simp [-zg,-zd,↓Qb,↓Qa,go_sem];try first | (refine ⟨?_,?_⟩ <;> refine zA ?_) | (refine ⟨fun c21=>?_,fun c21=>?_⟩ <;> (try simp [B_iff,B_not] at c21))
 | refine Qd (c:=.tmp 36) ?_;simp [-zg,-zd,↓Qb,↓Qa,go_sem];try first | (refine ⟨?_,?_⟩ <;> refine zA ?_) | (refine ⟨fun c36=>?_,fun c36=>?_⟩ <;> (try simp [B_iff,B_not] at c36))
 | refine Qd (c:=.tmp 42) ?_;simp [-zg,-zd,↓Qb,↓Qa,go_sem];try first | (refine ⟨?_,?_⟩ <;> refine zA ?_) | (refine ⟨fun c42=>?_,fun c42=>?_⟩ <;> (try simp [B_iff,B_not] at c42))
 | (refine Qg (id:=0) (Qx (ι:=Nat) (fun k:Nat=>⟨(upd (upd (upd (upd (fun _=>.any) 1 (li cI p)) 2 (.pd [li cP a,li cL b])) 5 (.int .i64 (most p k))) 6 (.int .i64 k)),fun _=>none⟩) (fun k=>k ≤ p.length ∧ AllTill (fun i=>0 ≤ nth p i ∧ nth p i ≤ most p i) k) (fun k=>p.length - k) (0) ?_ ?_ ?_);exact ⟨Nat.zero_le _,.zero _⟩;((repeat' (first | exact Qh (by assumption) | exact Qj | refine Qk ?_ ?_ | refine Qi ?_)) <;> simp [-zg,-zd,↓Qb,↓Qa,go_sem,most]);rintro k ⟨hk,ht⟩)
 | (refine ⟨k + 1,⟨by omega,ht.succ ⟨by omega,by omega⟩⟩,by first | omega | (simp;done) | (simp;omega),?_⟩;((repeat' (first | exact Qh (by assumption) | exact Qj | refine Qk ?_ ?_ | refine Qi ?_)) <;> simp [-zg,-zd,↓Qb,↓Qa,go_sem,most,c42]))
 | (refine Qg ?_)
 | (refine Qs ?_;simp [-zg,-zd,↓Qb,↓Qa,go_sem])
 | (refine Qr ?_;simp [-zg,-zd,↓Qb,↓Qa,go_sem])
 | (refine Qq ?_;simp [-zg,-zd,↓Qb,↓Qa,go_sem,Tryz.results12])
 | (intro hx;refine zA ?_)
 | (refine ⟨?_,?_⟩ <;> refine zA ?_)
 | (intro hx;constructor <;> intro hs)
 | (constructor <;> intro hs)
 | (refine ⟨?_,fun hs=>?_⟩;refine zA ?_)
 | (refine ⟨fun hs=>?_,?_⟩;rotate_left;refine zA ?_;rotate_left)))
  all_goals (first
 | (intro h;exact absurd h s1a)
 | (intro h;exact absurd h.1 s1a)
 | (rintro ⟨g1,g2,g3⟩;omega)
 | (rintro ⟨g1,g2,g3⟩;have:=g2 k c21;omega)
 | (intro g1 g2 g3;omega)
 | (intro g1 g2 g3;have:=g2 k c21;omega)
 | (intro g1 g2;have:=g2 k c21;omega)
 | exact ⟨hG,fun i hi=>ht i (by omega),by omega⟩
 | skip)
@[go_sem] def zabb:Con:=.pure fun
  | [.st [.list n_a c_a,.list n_b c_b],.list n_p c_p]=>((Is cP n_a c_a) ∧ (Is cL n_b c_b) ∧ (Is cI n_p c_p),.bool (B (GraphOk (de cP c_a) (de cL c_b) ∧ Xt (de cI c_p) ∧ (de cI c_p).length = (de cP c_a).length)))
  | _=>(False,.any)
theorem zaed:ConOk Tryz.prog 12 zabb:=by
  refine ⟨Qo Tryz.func12 (by decide) rfl,fun args h=>?_⟩
  revert h
  dsimp only
  split
  · intro h
    obtain ⟨⟨a,rfl,rfl⟩,⟨b,rfl,rfl⟩,⟨p,rfl,rfl⟩⟩:=h
    try simp only [Qm] at *
    exact ⟨zagf a b p,by simp [go_sem]⟩
  · intro h
    exact h.elim
@[go_sem] def Γ43:FuncId → Con:=ext Γ42 12 zabb
theorem Jk:∀ g,ConOk Tryz.prog g (Γ43 g):=Qn Jf zaed

theorem zalz (p:List Int) (n:Int)  : Pure Tryz.prog 15 [li cI p,.int .i64 n] (.bool (B (Xt p ∧ (p.length:Int) = n))):=by
  refine Pure.of_walk Tryz.func15 rfl (by simp [Tryz.f15]) (by simp [-zd,go_sem]) fun B hK=>?_
  (repeat' (first
 | refine Qt ?_
 | refine Qc (id:=0) Jk [] (by kernel_rfl) ?_;simp [-zg,-zd,↓Qb,↓Qa,go_sem]
 | refine Qc (id:=1) Jk [] (by kernel_rfl) ?_;simp [-zg,-zd,↓Qb,↓Qa,go_sem]
 | (refine Zm 0 rfl fun hm=>?_);refine Qc (id:=2) Jk [] (by kernel_rfl) ?_;simp [-zg,-zd,↓Qb,↓Qa,go_sem]
 | refine Qc (id:=3) Jk [] (by kernel_rfl) ?_;simp [-zg,-zd,↓Qb,↓Qa,go_sem]
 | refine Qc (id:=4) Jk [] (by kernel_rfl) ?_;simp [-zg,-zd,↓Qb,↓Qa,go_sem,c11,Qe c11,Nat.sub_pos_of_lt c11]
 | refine Qc (id:=5) Jk [] (by kernel_rfl) ?_;simp [-zg,-zd,↓Qb,↓Qa,go_sem]
 | refine Qc (id:=6) Jk [] (by kernel_rfl) ?_;simp [-zg,-zd,↓Qb,↓Qa,go_sem]
 | (have bd:=most_bd p k);refine Qc (id:=7) Jk [] (by kernel_rfl) ?_;simp [-zg,-zd,↓Qb,↓Qa,go_sem]
 | refine Qc (id:=8) Jk [] (by kernel_rfl) ?_;simp [-zg,-zd,↓Qb,↓Qa,go_sem,Xb (x:=most p k + 1) (by omega) (by omega)]
 | refine Qc (id:=9) Jk [] (by kernel_rfl) ?_;simp [-zg,-zd,↓Qb,↓Qa,go_sem,wrapS (k:=k) (by omega)]
 | refine Qc (id:=10) Jk [] (by kernel_rfl) ?_;simp [-zg,-zd,↓Qb,↓Qa,go_sem]
 | refine Qd (c:=.tmp 11) ?_;simp [-zg,-zd,↓Qb,↓Qa,go_sem];try first | (refine ⟨?_,?_⟩ <;> refine zA ?_) | (refine ⟨fun c11=>?_,fun c11=>?_⟩ <;> (try simp [B_iff,B_not] at c11))
 | refine Qd (c:=.tmp 17) ?_;simp [-zg,-zd,↓Qb,↓Qa,go_sem];try first | (refine ⟨?_,?_⟩ <;> refine zA ?_) | (refine ⟨fun c17=>?_,fun c17=>?_⟩ <;> (try simp [B_iff,B_not] at c17))
 | refine Qd (c:=.tmp 20) ?_;simp [-zg,-zd,↓Qb,↓Qa,go_sem];try first | (refine ⟨?_,?_⟩ <;> refine zA ?_) | (refine ⟨fun c20=>?_,fun c20=>?_⟩ <;> (try simp [B_iff,B_not] at c20))
 | (refine Qg (id:=0) (Qx (ι:=Nat) (fun k:Nat=>⟨(upd (upd (upd (upd (upd (upd (fun _=>.any) 0 (li cI p)) 1 (.int .i64 n)) 5 (.int .i64 (most p k))) 8 (li cI p)) 9 (.int .i64 p.length)) 10 (.int .i64 k)),fun _=>none⟩) (fun k=>k ≤ p.length ∧ AllTill (fun i=>0 ≤ nth p i ∧ nth p i ≤ most p i) k) (fun k=>p.length - k) (0) ?_ ?_ ?_);exact ⟨Nat.zero_le _,.zero _⟩;((repeat' (first | exact Qh (by assumption) | exact Qj | refine Qk ?_ ?_ | refine Qi ?_)) <;> simp [-zg,-zd,↓Qb,↓Qa,go_sem,most]);rintro k ⟨hk,ht⟩)
 | (refine ⟨k + 1,⟨by omega,ht.succ ⟨by omega,by omega⟩⟩,by first | omega | (simp;done) | (simp;omega),?_⟩;((repeat' (first | exact Qh (by assumption) | exact Qj | refine Qk ?_ ?_ | refine Qi ?_)) <;> simp [-zg,-zd,↓Qb,↓Qa,go_sem,most,c20]))
 | (refine Qg ?_)
 | (refine Qs ?_;simp [-zg,-zd,↓Qb,↓Qa,go_sem])
 | (refine Qr ?_;simp [-zg,-zd,↓Qb,↓Qa,go_sem])
 | (refine Qq ?_;simp [-zg,-zd,↓Qb,↓Qa,go_sem,Tryz.results15])
 | (intro hx;refine zA ?_)
 | (refine ⟨?_,?_⟩ <;> refine zA ?_)
 | (intro hx;constructor <;> intro hs)
 | (constructor <;> intro hs)
 | (refine ⟨?_,fun hs=>?_⟩;refine zA ?_)
 | (refine ⟨fun hs=>?_,?_⟩;rotate_left;refine zA ?_;rotate_left)))
  all_goals (first
 | (rintro ⟨g2,g3⟩;have:=g2 k c11;omega)
 | (intro g2;have:=g2 k c11;omega)
 | (rw [Bool.eq_iff_iff,B_iff,decide_eq_true_eq];exact ⟨fun h=>⟨fun i hi=>ht i (by omega),h⟩,fun h=>h.2⟩)
 | skip)
@[go_sem] def zacp:Con:=.pure fun
  | [.list n_p c_p,.int .i64 n]=>((Is cI n_p c_p),.bool (B (Xt (de cI c_p) ∧ ((de cI c_p).length:Int) = n)))
  | _=>(False,.any)
theorem zagv:ConOk Tryz.prog 15 zacp:=by
  refine ⟨Qo Tryz.func15 (by decide) rfl,fun args h=>?_⟩
  revert h
  dsimp only
  split
  · intro h
    obtain ⟨p,rfl,rfl⟩:=h
    try simp only [Qm] at *
    exact ⟨zalz p _,by simp [go_sem]⟩
  · intro h
    exact h.elim
@[go_sem] def Γ44:FuncId → Con:=ext Γ43 15 zacp
theorem Γ44_ok:∀ g,ConOk Tryz.prog g (Γ44 g):=Qn Jk zagv

theorem zagw (a:List Ints2) (b:List (List Int)) (p:List Int)  : Pure Tryz.prog 9 [.st [li cP a,li cL b],li cI p] (.bool (B (GraphOk a b ∧ Xt p ∧ p.length = a.length))):=by
  refine Pure.of_walk Tryz.func9 rfl (by simp [Tryz.f9]) (by simp [-zd,go_sem]) fun B hK=>?_
  (repeat' (first
 | refine Qt ?_
 | refine Qc (id:=0) Γ44_ok [] (by kernel_rfl) ?_;simp [-zg,-zd,↓Qb,↓Qa,go_sem];try (refine Xf hK 2 ?_;simp [go_sem])
 | refine Qc (id:=1) Γ44_ok [7] (by kernel_rfl) ?_;simp [-zg,-zd,↓Qb,↓Qa,go_sem];try (refine ⟨fun s1a=>?_,fun s1a=>?_⟩ <;> (try simp [B_iff,B_not] at s1a) <;> try (refine ⟨fun s1b=>?_,fun s1b=>?_⟩ <;> (try simp [B_iff,B_not] at s1b)))
 | (refine Qg ?_)
 | (refine Qs ?_;simp [-zg,-zd,↓Qb,↓Qa,go_sem])
 | (refine Qr ?_;simp [-zg,-zd,↓Qb,↓Qa,go_sem])
 | (refine Qq ?_;simp [-zg,-zd,↓Qb,↓Qa,go_sem,Tryz.results9])
 | (intro hx;refine zA ?_)
 | (refine ⟨?_,?_⟩ <;> refine zA ?_)
 | (intro hx;constructor <;> intro hs)
 | (constructor <;> intro hs)
 | (refine ⟨?_,fun hs=>?_⟩;refine zA ?_)
 | (refine ⟨fun hs=>?_,?_⟩;rotate_left;refine zA ?_;rotate_left)))
  all_goals (first
 | (rw [Bool.eq_iff_iff,B_iff,B_iff];exact ⟨fun h=>⟨s1a,h.1,by have:=h.2;omega⟩,fun h=>⟨h.2.1,by have:=h.2.2;omega⟩⟩)
 | (intro h;exact absurd h s1a)
 | skip)
@[go_sem] def zaag:Con:=.pure fun
  | [.st [.list n_a c_a,.list n_b c_b],.list n_p c_p]=>((Is cP n_a c_a) ∧ (Is cL n_b c_b) ∧ (Is cI n_p c_p),.bool (B (GraphOk (de cP c_a) (de cL c_b) ∧ Xt (de cI c_p) ∧ (de cI c_p).length = (de cP c_a).length)))
  | _=>(False,.any)
theorem zabt:ConOk Tryz.prog 9 zaag:=by
  refine ⟨Qo Tryz.func9 (by decide) rfl,fun args h=>?_⟩
  revert h
  dsimp only
  split
  · intro h
    obtain ⟨⟨a,rfl,rfl⟩,⟨b,rfl,rfl⟩,⟨p,rfl,rfl⟩⟩:=h
    try simp only [Qm] at *
    exact ⟨zagw a b p,by simp [go_sem]⟩
  · intro h
    exact h.elim
@[go_sem] def Γ45:FuncId → Con:=ext Γ44 9 zaag
theorem Γ45_ok:∀ g,ConOk Tryz.prog g (Γ45 g):=Qn Γ44_ok zabt

end
end Go.Proofs.YtmiimodggpjkmaaGreat.Vm

