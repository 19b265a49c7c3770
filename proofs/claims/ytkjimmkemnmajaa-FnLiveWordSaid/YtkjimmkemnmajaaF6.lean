/-
  Lists joined; traces. No conditions.
-/
import Derived.Test.YtkjimmkemnmajaaF5
namespace Go.Proofs.Ytkjimmkemnmajaa.Vm
open Go
open List renaming getD_eq_getElem?_getD → zg,drop_one → zd
noncomputable section
set_option linter.unusedVariables false
set_option linter.unusedSimpArgs false
set_option maxRecDepth 200000

theorem grow_spec (n:Int) (H:Hp) (h0:0 ≤ n) (h1:n ≤ 1048576):Spec Try.prog 194 [.nil,.int .i64 n] H (.fr 1 0 []) H:=by
  refine Spec.of_walk Try.func194 rfl (by simp [Try.f194]) fun B=>?_
  (repeat' (first
 | refine Qt ?_
 | refine Qc (id:=0) Yg [] (by kernel_rfl) ?_;simp [-zg,-zd,↓Qb,↓Qa,go_sem]
 | refine Qc (id:=1) Yg [] (by kernel_rfl) ?_;simp [-zg,-zd,↓Qb,↓Qa,go_sem]
 | refine Qc (id:=2) Yg [] (by kernel_rfl) ?_;simp [-zg,-zd,↓Qb,↓Qa,go_sem]
 | refine Qc (id:=3) Yg [] (by kernel_rfl) ?_;simp [-zg,-zd,↓Qb,↓Qa,go_sem,(by decide:IntKind.i64.wrap 0 = 0),Qv (x:=n) (by omega) (by omega)]
 | refine Qc (id:=4) Yg [] (by kernel_rfl) ?_;simp [-zg,-zd,↓Qb,↓Qa,go_sem]
 | refine Qc (id:=5) Yg [] (by kernel_rfl) ?_;simp [-zg,-zd,↓Qb,↓Qa,go_sem,(by omega:(1:Int) ≤ n),(by omega:n ≤ 9223372036854775807),(by omega:n.toNat * 8 ≤ 281474976710656),(by omega:0 ≤ n),(by omega:(0:Int) ≤ max n 0)]
 | (first | refine Ye 0 1 rfl ?_ | skip);refine Qc (id:=6) Yg [] (by kernel_rfl) ?_;simp [-zg,-zd,↓Qb,↓Qa,go_sem]
 | refine Qd (c:=.tmp 6) ?_;simp [-zg,-zd,↓Qb,↓Qa,go_sem];try first | (refine ⟨?_,?_⟩ <;> refine zA ?_) | (refine ⟨fun c6=>?_,fun c6=>?_⟩ <;> (try simp [B_iff,B_not] at c6))
 | refine Qd (c:=.tmp 16) ?_;simp [-zg,-zd,↓Qb,↓Qa,go_sem];try first | (refine ⟨?_,?_⟩ <;> refine zA ?_) | (refine ⟨fun c16=>?_,fun c16=>?_⟩ <;> (try simp [B_iff,B_not] at c16))
 | (refine Qe ?_)
 | (refine Qs ?_;simp [-zg,-zd,↓Qb,↓Qa,go_sem])
 | (refine Qr ?_;simp [-zg,-zd,↓Qb,↓Qa,go_sem])
 | (refine Qu ?_;simp [-zg,-zd,↓Qb,↓Qa,go_sem,Try.results194])
 | (intro hx;refine zA ?_)
 | (refine ⟨?_,?_⟩ <;> refine zA ?_)
 | (intro hx;constructor <;> intro hs)
 | (constructor <;> intro hs)
 | (refine ⟨?_,fun hs=>?_⟩;refine zA ?_)
 | (refine ⟨fun hs=>?_,?_⟩;rotate_left;refine zA ?_;rotate_left)
 | (exfalso;omega)))
@[go_sem] def growC:Con:=.gen fun args H=>match args with
  | [.nil,.int .i64 n]=>(0 ≤ n ∧ n ≤ 1048576,.fr 1 0 [],H)
  | _=>(False,.any,H)
theorem growC_ok:ConOk Try.prog 194 growC:=by
  refine ⟨Qp Try.func194 (by decide) rfl,fun args H h=>?_⟩
  revert h
  dsimp only
  split
  · rintro ⟨h0,h1⟩
    exact grow_spec _ H h0 h1
  · intro h
    exact h.elim
@[go_sem] def Γ46:FuncId → Con:=ext Γ45 194 growC
theorem Jh:∀ g,ConOk Try.prog g (Γ46 g):=Qo Yg growC_ok

theorem flat_succ {xss:List (List Int)} {k:Nat} (h:k < xss.length):(xss.take (k + 1)).flatten = (xss.take k).flatten ++ nth xss k:=by
  rw [List.take_succ_eq_append_getElem h,List.flatten_append,Ql h];simp
theorem msum_flat (xss:List (List Int)) (k:Nat):msum mL xss k = ((xss.take k).flatten).length:=by
  simp [msum,List.length_flatten];rfl
@[go_sem] theorem makeD_two (x:D):makeD [x] 2 = [x,x]:=by rw [Vf];rfl
@[go_sem] theorem is_two (a b:List Int) {n m:Nat} (h1:n = a.length) (h2:m = b.length):Is cL 2 [.list n (cat cI a),.list m (cat cI b)] = True:=by subst h1 h2;exact eq_true ⟨[a,b],rfl,rfl⟩
@[go_sem] theorem de_two (a b:List Int) {n m:Nat} (h1:n = a.length) (h2:m = b.length):de cL [.list n (cat cI a),.list m (cat cI b)] = [a,b]:=by
  subst h1 h2
  have:=Qm (f:=cL) [a,b];exact this

theorem concat_pure (xss:List (List Int)) (h0:xss.flatten.length ≤ 1048576):Pure Try.prog 143 [li cL xss] (fr 1 cI xss.flatten):=by
  refine Pure.of_walk Try.func143 rfl (by simp [Try.f143]) (by simp [-zd,go_sem]) fun B hK=>?_
  (repeat' (first
 | refine Qt ?_
 | refine Qc (id:=0) Jh [] (by kernel_rfl) ?_;simp [-zg,-zd,↓Qb,↓Qa,go_sem]
 | refine Qc (id:=1) Jh [] (by kernel_rfl) ?_;simp [-zg,-zd,↓Qb,↓Qa,go_sem]
 | (refine Vl 0 rfl fun hm=>?_;have ht:=msum_flat xss xss.length;(rw [List.take_length] at ht));refine Qc (id:=2) Jh [] (by kernel_rfl) ?_;simp [-zg,-zd,↓Qb,↓Qa,go_sem]
 | refine Qc (id:=3) Jh [] (by kernel_rfl) ?_;simp [-zg,-zd,↓Qb,↓Qa,go_sem]
 | refine Qc (id:=4) Jh [] (by kernel_rfl) ?_;simp [-zg,-zd,↓Qb,↓Qa,go_sem,c12,Qj c12,Nat.sub_pos_of_lt c12]
 | (have hs:=zafl (m:=mL) c12;have hmm:=zahj (m:=mL) (xs:=xss) (show k + 1 ≤ xss.length from c12);(simp only [mL] at hs));refine Qc (id:=5) Jh [] (by kernel_rfl) ?_;simp [-zg,-zd,↓Qb,↓Qa,go_sem,Qv (x:=(msum mL xss k:Int) + ((nth xss k).length:Int)) (by omega) (by omega)]
 | refine Qc (id:=6) Jh [] (by kernel_rfl) ?_;simp [-zg,-zd,↓Qb,↓Qa,go_sem]
 | refine Qc (id:=7) Jh [] (by kernel_rfl) ?_;simp [-zg,-zd,↓Qb,↓Qa,go_sem]
 | refine Qc (id:=8) Jh [] (by kernel_rfl) ?_;simp [-zg,-zd,↓Qb,↓Qa,go_sem,wrapS (k:=k) (by omega)]
 | (have hmm:=zahj (m:=mL) (xs:=xss) hk);refine Qc (id:=9) Jh [] (by kernel_rfl) ?_;simp [-zg,-zd,↓Qb,↓Qa,go_sem,(by omega:(0:Int) ≤ (msum mL xss k:Int)),(by omega:(msum mL xss k:Int) ≤ 1048576)]
 | refine Qc (id:=10) Jh [] (by kernel_rfl) ?_;simp [-zg,-zd,↓Qb,↓Qa,go_sem]
 | refine Qc (id:=11) Jh [] (by kernel_rfl) ?_;simp [-zg,-zd,↓Qb,↓Qa,go_sem]
 | refine Qc (id:=12) Jh [] (by kernel_rfl) ?_;simp [-zg,-zd,↓Qb,↓Qa,go_sem,c28,Qj c28,Nat.sub_pos_of_lt c28]
 | (have hs:=zafl (m:=mL) c28;have hmm:=zahj (m:=mL) (xs:=xss) (show i + 1 ≤ xss.length from c28);(simp only [mL] at hs));refine Qc (id:=13) Jh [] (by kernel_rfl) ?_;simp [-zg,-zd,↓Qb,↓Qa,go_sem,(by omega:msum mL xss i + (nth xss i).length ≤ 9223372036854775807),(by omega:2 * (msum mL xss i + (nth xss i).length) * 8 ≤ 281474976710656)]
 | refine Qc (id:=14) Jh [] (by kernel_rfl) ?_;simp [-zg,-zd,↓Qb,↓Qa,go_sem,wrapS (k:=i) (by omega)]
 | refine Qc (id:=15) Jh [] (by kernel_rfl) ?_;simp [-zg,-zd,↓Qb,↓Qa,go_sem]
 | refine Qd (c:=.tmp 12) ?_;simp [-zg,-zd,↓Qb,↓Qa,go_sem];try first | (refine ⟨?_,?_⟩ <;> refine zA ?_) | (refine ⟨fun c12=>?_,fun c12=>?_⟩ <;> (try simp [B_iff,B_not] at c12))
 | refine Qd (c:=.tmp 20) ?_;simp [-zg,-zd,↓Qb,↓Qa,go_sem];try first | (refine ⟨?_,?_⟩ <;> refine zA ?_) | (refine ⟨fun c20=>?_,fun c20=>?_⟩ <;> (try simp [B_iff,B_not] at c20))
 | refine Qd (c:=.tmp 28) ?_;simp [-zg,-zd,↓Qb,↓Qa,go_sem];try first | (refine ⟨?_,?_⟩ <;> refine zA ?_) | (refine ⟨fun c28=>?_,fun c28=>?_⟩ <;> (try simp [B_iff,B_not] at c28))
 | (refine Qe (id:=0) (Qy (ι:=Nat) (fun k:Nat=>⟨(upd (upd (upd (upd (upd (fun _=>.any) 0 (li cL xss)) 3 (.int .i64 (msum mL xss k))) 9 (li cL xss)) 10 (.int .i64 xss.length)) 11 (.int .i64 k)),fun _=>none⟩) (fun k=>k ≤ xss.length) (fun k=>xss.length - k) (0) ?_ ?_ ?_);exact Nat.zero_le _;((repeat' (first | exact Qg (by assumption) | exact Qi | refine Qf ?_ ?_ | refine Qh ?_)) <;> simp [-zg,-zd,↓Qb,↓Qa,go_sem]);rintro k hk)
 | (refine ⟨k + 1,by omega,by first | omega | (simp;done) | (simp;omega),?_⟩;((repeat' (first | exact Qg (by assumption) | exact Qi | refine Qf ?_ ?_ | refine Qh ?_)) <;> simp [-zg,-zd,↓Qb,↓Qa,go_sem,zafl c12,mL]))
 | (refine Qe (id:=2) (Qy (ι:=Nat) (fun i:Nat=>⟨(upd (upd (upd (upd (fun _=>.any) 6 (.fr 1 (msum mL xss i) (cat cI (xss.take i).flatten))) 25 (li cL xss)) 26 (.int .i64 xss.length)) 27 (.int .i64 i)),fun _=>none⟩) (fun i=>i ≤ xss.length) (fun i=>xss.length - i) (0) ?_ ?_ ?_);exact Nat.zero_le _;((repeat' (first | exact Qg (by assumption) | exact Qi | refine Qf ?_ ?_ | refine Qh ?_)) <;> simp [-zg,-zd,↓Qb,↓Qa,go_sem]);rintro i hi)
 | (refine ⟨i + 1,by omega,by first | omega | (simp;done) | (simp;omega),?_⟩;((repeat' (first | exact Qg (by assumption) | exact Qi | refine Qf ?_ ?_ | refine Qh ?_)) <;> simp [-zg,-zd,↓Qb,↓Qa,go_sem,zafl c28,mL,flat_succ c28,Jk]))
 | (refine Qe ?_)
 | (refine Qs ?_;simp [-zg,-zd,↓Qb,↓Qa,go_sem])
 | (refine Qr ?_;simp [-zg,-zd,↓Qb,↓Qa,go_sem])
 | (refine Qu ?_;simp [-zg,-zd,↓Qb,↓Qa,go_sem,Try.results143])
 | (intro hx;refine zA ?_)
 | (refine ⟨?_,?_⟩ <;> refine zA ?_)
 | (intro hx;constructor <;> intro hs)
 | (constructor <;> intro hs)
 | (refine ⟨?_,fun hs=>?_⟩;refine zA ?_)
 | (refine ⟨fun hs=>?_,?_⟩;rotate_left;refine zA ?_;rotate_left)
 | (exfalso;omega)))
  all_goals (first
 | (obtain rfl:i = xss.length:=(by omega);rw [List.take_length];exact ⟨by rw [ht,List.length_flatten],rfl⟩)
 | skip)
@[go_sem] def zagx:Con:=.pure fun
  | [.list n_xss c_xss]=>((Is cL n_xss c_xss) ∧ ((de cL c_xss).flatten.length ≤ 1048576),fr 1 cI (de cL c_xss).flatten)
  | _=>(False,.any)
theorem zaov:ConOk Try.prog 143 zagx:=by
  refine ⟨Qp Try.func143 (by decide) rfl,fun args h=>?_⟩
  revert h
  dsimp only
  split
  · intro h
    obtain ⟨⟨xss,rfl,rfl⟩,h0⟩:=h
    try simp only [Qm] at *
    exact ⟨concat_pure xss h0,by simp [go_sem]⟩
  · intro h
    exact h.elim
@[go_sem] def Γ47:FuncId → Con:=ext Γ46 143 zagx
theorem Γ47_ok:∀ g,ConOk Try.prog g (Γ47 g):=Qo Jh zaov

@[go_sem] def Γ48:FuncId → Con:=Γ47
theorem Γ48_ok:∀ g,ConOk Try.prog g (Γ48 g):=Γ47_ok

end
end Go.Proofs.Ytkjimmkemnmajaa.Vm

