/-
  Paths; partitions: both ways. No conditions.
-/
import Derived.Test.YtmiimodggpjkmaaF4
namespace Go.Proofs.Ytmiimodggpjkmaa.Vm
open Go
open List renaming getD_eq_getElem?_getD → zg,drop_one → zd
noncomputable section
set_option linter.unusedVariables false
set_option linter.unusedSimpArgs false
set_option maxRecDepth 200000

@[go_sem] def Γ41:FuncId → Con:=Γ40
theorem Γ41_ok:∀ g,ConOk Try.prog g (Γ41 g):=Γ40_ok

@[go_sem] def Γ42:FuncId → Con:=Γ41
theorem Ze:∀ g,ConOk Try.prog g (Γ42 g):=Γ41_ok

def most (xs:List Int):Nat → Int
  | 0=>0
  | k + 1=>if nth xs k = most xs k then most xs k + 1 else most xs k
theorem most_bd (xs:List Int):∀ k,0 ≤ most xs k ∧ most xs k ≤ k
  | 0=>by simp [most]
  | k + 1=>by have:=most_bd xs k;simp only [most];split <;> omega
def Xn (xs:List Int):Prop:=∀ i,i < xs.length → 0 ≤ nth xs i ∧ nth xs i ≤ most xs i

theorem zacx (a:List Ints2) (b:List (List Int)) (p:List Int)  : Pure Try.prog 43 [.st [li cP a,li cL b],li cI p] (.bool (B (GraphOk a b ∧ Xn p ∧ p.length = a.length))):=by
  refine Pure.of_walk Try.func43 rfl (by simp [Try.f43]) (by simp [-zd,go_sem]) fun B hK=>?_
  (repeat' (first
 | refine Qr ?_
 | refine Qc (id:=0) Ze [] (by kernel_rfl) ?_;simp [-zg,-zd,↓Qb,↓Qa,go_sem];try (refine Xh hK 2 ?_;simp [go_sem])
 | refine Qc (id:=1) Ze [10] (by kernel_rfl) ?_;simp [-zg,-zd,↓Qb,↓Qa,go_sem];try (refine ⟨fun s1a=>?_,fun s1a=>?_⟩ <;> (try simp [B_iff,B_not] at s1a) <;> try (refine ⟨fun s1b=>?_,fun s1b=>?_⟩ <;> (try simp [B_iff,B_not] at s1b)))
 | refine Qc (id:=2) Ze [] (by kernel_rfl) ?_;simp [-zg,-zd,↓Qb,↓Qa,go_sem]
 | (refine Xr 1 rfl fun hm=>?_;have hG:GraphOk a b:=(by assumption));refine Qc (id:=3) Ze [] (by kernel_rfl) ?_;simp [-zg,-zd,↓Qb,↓Qa,go_sem]
 | refine Qc (id:=4) Ze [] (by kernel_rfl) ?_;simp [-zg,-zd,↓Qb,↓Qa,go_sem]
 | refine Qc (id:=5) Ze [] (by kernel_rfl) ?_;simp [-zg,-zd,↓Qb,↓Qa,go_sem]
 | refine Qc (id:=7) Ze [29] (by kernel_rfl) ?_;simp [-zg,-zd,↓Qb,↓Qa,go_sem,c21,Qh c21,Nat.sub_pos_of_lt c21];try (refine ⟨fun s7a=>?_,fun s7a=>?_⟩ <;> (try simp [B_iff,B_not] at s7a) <;> try (refine ⟨fun s7b=>?_,fun s7b=>?_⟩ <;> (try simp [B_iff,B_not] at s7b)))
 | refine Qc (id:=8) Ze [] (by kernel_rfl) ?_;simp [-zg,-zd,↓Qb,↓Qa,go_sem]
 | (have bd:=most_bd p k);refine Qc (id:=9) Ze [] (by kernel_rfl) ?_;simp [-zg,-zd,↓Qb,↓Qa,go_sem,c21,Qh c21,Nat.sub_pos_of_lt c21]
 | refine Qc (id:=10) Ze [] (by kernel_rfl) ?_;simp [-zg,-zd,↓Qb,↓Qa,go_sem,Zx (x:=most p k + 1) (by omega) (by omega)]
 | refine Qc (id:=6) Ze [] (by kernel_rfl) ?_;simp [-zg,-zd,↓Qb,↓Qa,go_sem,wrapS (k:=k) (by omega)]
 | refine Qc (id:=11) Ze [] (by kernel_rfl) ?_;simp [-zg,-zd,↓Qb,↓Qa,go_sem]
 | refine Qe (c:=.tmp 17) ?_;simp [-zg,-zd,↓Qb,↓Qa,go_sem];try first | (refine ⟨?_,?_⟩ <;> refine zA ?_) | (refine ⟨fun c17=>?_,fun c17=>?_⟩ <;> (try simp [B_iff,B_not] at c17))
 | refine Qe (c:=.tmp 21) ?_;simp [-zg,-zd,↓Qb,↓Qa,go_sem];try first | (refine ⟨?_,?_⟩ <;> refine zA ?_) | (refine ⟨fun c21=>?_,fun c21=>?_⟩ <;> (try simp [B_iff,B_not] at c21))
 | refine Qe (c:=.tmp 36) ?_;simp [-zg,-zd,↓Qb,↓Qa,go_sem];try first | (refine ⟨?_,?_⟩ <;> refine zA ?_) | (refine ⟨fun c36=>?_,fun c36=>?_⟩ <;> (try simp [B_iff,B_not] at c36))
 | refine Qe (c:=.tmp 42) ?_;simp [-zg,-zd,↓Qb,↓Qa,go_sem];try first | (refine ⟨?_,?_⟩ <;> refine zA ?_) | (refine ⟨fun c42=>?_,fun c42=>?_⟩ <;> (try simp [B_iff,B_not] at c42))
 | (refine Qf (id:=0) (Xc (ι:=Nat) (fun k:Nat=>⟨(upd (upd (upd (upd (fun _=>.any) 1 (li cI p)) 2 (.pd [li cP a,li cL b])) 5 (.int .i64 (most p k))) 6 (.int .i64 k)),fun _=>none⟩) (fun k=>k ≤ p.length ∧ AllTill (fun i=>0 ≤ nth p i ∧ nth p i ≤ most p i) k) (fun k=>p.length - k) (0) ?_ ?_ ?_);exact ⟨Nat.zero_le _,.zero _⟩;((repeat' (first | exact Qi (by assumption) | exact Qk | refine Ql ?_ ?_ | refine Qj ?_)) <;> simp [-zg,-zd,↓Qb,↓Qa,go_sem,most]);rintro k ⟨hk,ht⟩)
 | (refine ⟨k + 1,⟨by omega,ht.succ ⟨by omega,by omega⟩⟩,by first | omega | (simp;done) | (simp;omega),?_⟩;((repeat' (first | exact Qi (by assumption) | exact Qk | refine Ql ?_ ?_ | refine Qj ?_)) <;> simp [-zg,-zd,↓Qb,↓Qa,go_sem,most,c42]))
 | (refine Qf ?_)
 | (refine Qq ?_;simp [-zg,-zd,↓Qb,↓Qa,go_sem])
 | (refine Qp ?_;simp [-zg,-zd,↓Qb,↓Qa,go_sem])
 | (refine Qs ?_;simp [-zg,-zd,↓Qb,↓Qa,go_sem,Try.results43])
 | (intro hx;refine zA ?_)
 | (refine ⟨?_,?_⟩ <;> refine zA ?_)
 | (intro hx;constructor <;> intro hs)
 | (constructor <;> intro hs)
 | (refine ⟨?_,fun hs=>?_⟩;refine zA ?_)
 | (refine ⟨fun hs=>?_,?_⟩;rotate_left;refine zA ?_;rotate_left)))
  all_goals (first
 | (intro h;exact absurd h s1a)
 | (intro h;exact absurd h.1 s1a)
 | (rintro ⟨g1,g2,g3⟩;omega)
 | (rintro ⟨g1,g2,g3⟩;have:=g2 k c21;omega)
 | (intro g1 g2 g3;omega)
 | (intro g1 g2 g3;have:=g2 k c21;omega)
 | (intro g1 g2;have:=g2 k c21;omega)
 | exact ⟨hG,fun i hi=>ht i (by omega),by omega⟩
 | skip)
@[go_sem] def zaaa:Con:=.pure fun
  | [.st [.list n_a c_a,.list n_b c_b],.list n_p c_p]=>((Is cP n_a c_a) ∧ (Is cL n_b c_b) ∧ (Is cI n_p c_p),.bool (B (GraphOk (de cP c_a) (de cL c_b) ∧ Xn (de cI c_p) ∧ (de cI c_p).length = (de cP c_a).length)))
  | _=>(False,.any)
theorem zabj:ConOk Try.prog 43 zaaa:=by
  refine ⟨Qn Try.func43 (by decide) rfl,fun args h=>?_⟩
  revert h
  dsimp only
  split
  · intro h
    obtain ⟨⟨a,rfl,rfl⟩,⟨b,rfl,rfl⟩,⟨p,rfl,rfl⟩⟩:=h
    try simp only [Qt] at *
    exact ⟨zacx a b p,by simp [go_sem]⟩
  · intro h
    exact h.elim
@[go_sem] def Γ43:FuncId → Con:=ext Γ42 43 zaaa
theorem Zh:∀ g,ConOk Try.prog g (Γ43 g):=Qo Ze zabj

theorem zagm (p:List Int) (n:Int)  : Pure Try.prog 98 [li cI p,.int .i64 n] (.bool (B (Xn p ∧ (p.length:Int) = n))):=by
  refine Pure.of_walk Try.func98 rfl (by simp [Try.f98]) (by simp [-zd,go_sem]) fun B hK=>?_
  (repeat' (first
 | refine Qr ?_
 | refine Qc (id:=0) Zh [] (by kernel_rfl) ?_;simp [-zg,-zd,↓Qb,↓Qa,go_sem]
 | refine Qc (id:=1) Zh [] (by kernel_rfl) ?_;simp [-zg,-zd,↓Qb,↓Qa,go_sem]
 | (refine Xr 0 rfl fun hm=>?_);refine Qc (id:=2) Zh [] (by kernel_rfl) ?_;simp [-zg,-zd,↓Qb,↓Qa,go_sem]
 | refine Qc (id:=3) Zh [] (by kernel_rfl) ?_;simp [-zg,-zd,↓Qb,↓Qa,go_sem]
 | refine Qc (id:=4) Zh [] (by kernel_rfl) ?_;simp [-zg,-zd,↓Qb,↓Qa,go_sem,c11,Qh c11,Nat.sub_pos_of_lt c11]
 | refine Qc (id:=5) Zh [] (by kernel_rfl) ?_;simp [-zg,-zd,↓Qb,↓Qa,go_sem]
 | refine Qc (id:=6) Zh [] (by kernel_rfl) ?_;simp [-zg,-zd,↓Qb,↓Qa,go_sem]
 | (have bd:=most_bd p k);refine Qc (id:=7) Zh [] (by kernel_rfl) ?_;simp [-zg,-zd,↓Qb,↓Qa,go_sem]
 | refine Qc (id:=8) Zh [] (by kernel_rfl) ?_;simp [-zg,-zd,↓Qb,↓Qa,go_sem,Zx (x:=most p k + 1) (by omega) (by omega)]
 | refine Qc (id:=9) Zh [] (by kernel_rfl) ?_;simp [-zg,-zd,↓Qb,↓Qa,go_sem,wrapS (k:=k) (by omega)]
 | refine Qc (id:=10) Zh [] (by kernel_rfl) ?_;simp [-zg,-zd,↓Qb,↓Qa,go_sem]
 | refine Qe (c:=.tmp 11) ?_;simp [-zg,-zd,↓Qb,↓Qa,go_sem];try first | (refine ⟨?_,?_⟩ <;> refine zA ?_) | (refine ⟨fun c11=>?_,fun c11=>?_⟩ <;> (try simp [B_iff,B_not] at c11))
 | refine Qe (c:=.tmp 17) ?_;simp [-zg,-zd,↓Qb,↓Qa,go_sem];try first | (refine ⟨?_,?_⟩ <;> refine zA ?_) | (refine ⟨fun c17=>?_,fun c17=>?_⟩ <;> (try simp [B_iff,B_not] at c17))
 | refine Qe (c:=.tmp 20) ?_;simp [-zg,-zd,↓Qb,↓Qa,go_sem];try first | (refine ⟨?_,?_⟩ <;> refine zA ?_) | (refine ⟨fun c20=>?_,fun c20=>?_⟩ <;> (try simp [B_iff,B_not] at c20))
 | (refine Qf (id:=0) (Xc (ι:=Nat) (fun k:Nat=>⟨(upd (upd (upd (upd (upd (upd (fun _=>.any) 0 (li cI p)) 1 (.int .i64 n)) 5 (.int .i64 (most p k))) 8 (li cI p)) 9 (.int .i64 p.length)) 10 (.int .i64 k)),fun _=>none⟩) (fun k=>k ≤ p.length ∧ AllTill (fun i=>0 ≤ nth p i ∧ nth p i ≤ most p i) k) (fun k=>p.length - k) (0) ?_ ?_ ?_);exact ⟨Nat.zero_le _,.zero _⟩;((repeat' (first | exact Qi (by assumption) | exact Qk | refine Ql ?_ ?_ | refine Qj ?_)) <;> simp [-zg,-zd,↓Qb,↓Qa,go_sem,most]);rintro k ⟨hk,ht⟩)
 | (refine ⟨k + 1,⟨by omega,ht.succ ⟨by omega,by omega⟩⟩,by first | omega | (simp;done) | (simp;omega),?_⟩;((repeat' (first | exact Qi (by assumption) | exact Qk | refine Ql ?_ ?_ | refine Qj ?_)) <;> simp [-zg,-zd,↓Qb,↓Qa,go_sem,most,c20]))
 | (refine Qf ?_)
 | (refine Qq ?_;simp [-zg,-zd,↓Qb,↓Qa,go_sem])
 | (refine Qp ?_;simp [-zg,-zd,↓Qb,↓Qa,go_sem])
 | (refine Qs ?_;simp [-zg,-zd,↓Qb,↓Qa,go_sem,Try.results98])
 | (intro hx;refine zA ?_)
 | (refine ⟨?_,?_⟩ <;> refine zA ?_)
 | (intro hx;constructor <;> intro hs)
 | (constructor <;> intro hs)
 | (refine ⟨?_,fun hs=>?_⟩;refine zA ?_)
 | (refine ⟨fun hs=>?_,?_⟩;rotate_left;refine zA ?_;rotate_left)))
  all_goals (first
 | (rintro ⟨g2,g3⟩;have:=g2 k c11;omega)
 | (intro g2;have:=g2 k c11;omega)
 | (rw [Bool.eq_iff_iff,B_iff,decide_eq_true_eq];exact ⟨fun h=>⟨fun i hi=>ht i (by omega),h⟩,fun h=>h.2⟩)
 | skip)
@[go_sem] def zaan:Con:=.pure fun
  | [.list n_p c_p,.int .i64 n]=>((Is cI n_p c_p),.bool (B (Xn (de cI c_p) ∧ ((de cI c_p).length:Int) = n)))
  | _=>(False,.any)
theorem zade:ConOk Try.prog 98 zaan:=by
  refine ⟨Qn Try.func98 (by decide) rfl,fun args h=>?_⟩
  revert h
  dsimp only
  split
  · intro h
    obtain ⟨p,rfl,rfl⟩:=h
    try simp only [Qt] at *
    exact ⟨zagm p _,by simp [go_sem]⟩
  · intro h
    exact h.elim
@[go_sem] def Γ44:FuncId → Con:=ext Γ43 98 zaan
theorem Γ44_ok:∀ g,ConOk Try.prog g (Γ44 g):=Qo Zh zade

theorem zadg (a:List Ints2) (b:List (List Int)) (p:List Int)  : Pure Try.prog 35 [.st [li cP a,li cL b],li cI p] (.bool (B (GraphOk a b ∧ Xn p ∧ p.length = a.length))):=by
  refine Pure.of_walk Try.func35 rfl (by simp [Try.f35]) (by simp [-zd,go_sem]) fun B hK=>?_
  (repeat' (first
 | refine Qr ?_
 | refine Qc (id:=0) Γ44_ok [] (by kernel_rfl) ?_;simp [-zg,-zd,↓Qb,↓Qa,go_sem];try (refine Xh hK 2 ?_;simp [go_sem])
 | refine Qc (id:=1) Γ44_ok [7] (by kernel_rfl) ?_;simp [-zg,-zd,↓Qb,↓Qa,go_sem];try (refine ⟨fun s1a=>?_,fun s1a=>?_⟩ <;> (try simp [B_iff,B_not] at s1a) <;> try (refine ⟨fun s1b=>?_,fun s1b=>?_⟩ <;> (try simp [B_iff,B_not] at s1b)))
 | (refine Qf ?_)
 | (refine Qq ?_;simp [-zg,-zd,↓Qb,↓Qa,go_sem])
 | (refine Qp ?_;simp [-zg,-zd,↓Qb,↓Qa,go_sem])
 | (refine Qs ?_;simp [-zg,-zd,↓Qb,↓Qa,go_sem,Try.results35])
 | (intro hx;refine zA ?_)
 | (refine ⟨?_,?_⟩ <;> refine zA ?_)
 | (intro hx;constructor <;> intro hs)
 | (constructor <;> intro hs)
 | (refine ⟨?_,fun hs=>?_⟩;refine zA ?_)
 | (refine ⟨fun hs=>?_,?_⟩;rotate_left;refine zA ?_;rotate_left)))
  all_goals (first
 | (rw [Bool.eq_iff_iff,B_iff,B_iff];exact ⟨fun h=>⟨s1a,h.1,by have:=h.2;omega⟩,fun h=>⟨h.2.1,by have:=h.2.2;omega⟩⟩)
 | (intro h;exact absurd h s1a)
 | skip)
@[go_sem] def zaab:Con:=.pure fun
  | [.st [.list n_a c_a,.list n_b c_b],.list n_p c_p]=>((Is cP n_a c_a) ∧ (Is cL n_b c_b) ∧ (Is cI n_p c_p),.bool (B (GraphOk (de cP c_a) (de cL c_b) ∧ Xn (de cI c_p) ∧ (de cI c_p).length = (de cP c_a).length)))
  | _=>(False,.any)
theorem zabp:ConOk Try.prog 35 zaab:=by
  refine ⟨Qn Try.func35 (by decide) rfl,fun args h=>?_⟩
  revert h
  dsimp only
  split
  · intro h
    obtain ⟨⟨a,rfl,rfl⟩,⟨b,rfl,rfl⟩,⟨p,rfl,rfl⟩⟩:=h
    try simp only [Qt] at *
    exact ⟨zadg a b p,by simp [go_sem]⟩
  · intro h
    exact h.elim
@[go_sem] def Γ45:FuncId → Con:=ext Γ44 35 zaab
theorem Jn:∀ g,ConOk Try.prog g (Γ45 g):=Qo Γ44_ok zabp

end
end Go.Proofs.Ytmiimodggpjkmaa.Vm

