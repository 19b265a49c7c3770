/-
  The specification's text of an automaton. Its condition: the edges' values are of 64 bits.
-/
import Derived.Test.YtnfldmfamnhpcaaDoorFA3
namespace Go.Proofs.YtnfldmfamnhpcaaDoor.Vm
open Go
open List renaming getD_eq_getElem?_getD → zg,drop_one → zd
noncomputable section
set_option linter.unusedVariables false
set_option linter.unusedSimpArgs false
set_option maxRecDepth 200000

theorem l16Dec_pure (n:Int) (h0:0 ≤ n) (h:n ≤ 1000000000):Pure Tryd.prog 21 [.int .i64 n] (.str (decN n.toNat)):=fun μ w vs _ hr=>by
  obtain ⟨v,rfl⟩:∃ v,vs = [v]:=by
    have:=hr.length
    match vs,this with
    | [v],_=>exact ⟨v,rfl⟩
  have h1:=hr.one
  simp only [Rep] at h1
  obtain ⟨_,rfl⟩:=h1
  obtain ⟨x,rfl⟩:=Int.eq_ofNat_of_zero_le h0
  refine (l16Dec_any w x (by omega)).mono fun e w' ⟨he,hg⟩=>?_
  exact ⟨_,[],he,by simp [Rep,mkS,tx],.nil,by simp,⟨hg.os,hg.tape,hg.output,hg.size,fun b hb _=>hg.block b hb⟩⟩
@[go_sem] def l16DecC:Con:=.pure fun
  | [.int .i64 n]=>(0 ≤ n ∧ n ≤ 1000000000,.str (decN n.toNat))
  | _=>(False,.any)
theorem l16DecC_ok:ConOk Tryd.prog 21 l16DecC:=by
  refine ⟨Qt Tryd.func21 (by decide) rfl,fun args h=>?_⟩
  revert h
  dsimp only
  split
  · rintro ⟨h0,h1⟩
    exact ⟨l16Dec_pure _ h0 h1,by simp [bnd]⟩
  · intro h
    exact h.elim
@[go_sem] def Γfa2:FuncId → Con:=ext Γfa1 21 l16DecC
theorem Xb:∀ g,ConOk Tryd.prog g (Γfa2 g):=Qu Γfa1_ok l16DecC_ok

theorem s1_next {a:List Int} {b:List Bool} {k:Nat} (h:k < a.length):s1 a b (k + 1) = s1 a b k ++ 32 :: decN (nth a k).toNat:=by
  rw [s1_succ h,List.append_assoc];rfl
theorem s2_next {a:List Int} {b:List Bool} {k:Nat} (h:nth b k = true):s2 a b (k + 1) = s2 a b k ++ 32 :: decN k:=by
  rw [s2_yes h,List.append_assoc];rfl
theorem s1_last (a:List Int) (b:List Bool):s1 a b a.length ++ [10,97,99,99,101,112,116,105,110,103] = s2 a b 0:=s1_end a b
theorem at_next {a:List Int} {b:List Bool} {c:List Tr4} {k:Nat} (h:k < c.length):Xo a b c (k + 1) = Xo a b c k ++ 101 :: 100 :: 103 :: 101 :: 32 :: (decN (nth c k).1.toNat ++ 32 :: (decN (nth c k).2.1.toNat ++ 32 :: (decN (nth c k).2.2.1.toNat ++ 32 :: (decN (nth c k).2.2.2.toNat ++ [10])))):=by
  rw [zaco h,edgeT,edgeL,Ql];simp [wEdge]
theorem edge_nums {a:List Int} {b:List Bool} {c:List Tr4} (h:AutN a b c) {k:Nat} (hk:k < c.length):(0 ≤ (nth c k).1 ∧ (nth c k).1 ≤ 99) ∧ (0 ≤ (nth c k).2.1 ∧ (nth c k).2.1 ≤ 99) ∧ (0 ≤ (nth c k).2.2.1 ∧ (nth c k).2.2.1 ≤ 99) ∧ (0 ≤ (nth c k).2.2.2 ∧ (nth c k).2.2.2 ≤ 99):=by
  have h2:=h.ne k hk
  exact ⟨h2 0 (by simp [edgeL]),h2 1 (by simp [edgeL]),h2 2 (by simp [edgeL]),h2 3 (by simp [edgeL])⟩

set_option maxHeartbeats 4000000 in

theorem zabi (a:List Int) (b:List Bool) (c:List Tr4) (hS:Xj c):Pure Tryd.prog 12 [.st [li cI a,li cB b,li cT c]] (.str (autT a b c)):=by
  refine Pure.of_walk Tryd.func12 rfl (by simp [Tryd.f12]) (by simp [-zd,go_sem]) fun B hK=>?_
  cases hv:Vm.B (AutOk a b.length c)
  all_goals (repeat' (first
 | refine Qy ?_
 | refine Qc (id:=0) Xb [] (by kernel_rfl) ?_;simp [-zg,-zd,↓Qb,↓Qa,go_sem];try ((refine Xi hK 1 ?_);simp [go_sem])
 | refine Qc (id:=1) Xb [] (by kernel_rfl) ?_;simp [-zg,-zd,↓Qb,↓Qa,go_sem,hv,hS]
 | refine Qc (id:=2) Xb [] (by kernel_rfl) ?_;simp [-zg,-zd,↓Qb,↓Qa,go_sem]
 | ((have hN:AutN a b c:=autN (by rw [B_iff] at hv;exact hv));(have hla:=hN.la);(have hlb:=hN.lb);(have hlc:=hN.lc);(have hd2:(decN b.length).length ≤ 2:=decN_len 1 _ (by omega)));refine Qc (id:=3) Xb [] (by kernel_rfl) ?_;simp [-zg,-zd,↓Qb,↓Qa,go_sem,(show (b.length:Int) ≤ 1000000000 by omega),(show 10 + (decN b.length).length ≤ 9223372036854775807 by omega),(show (decN b.length).length + 10 ≤ 9223372036854775807 by omega),(show 10 + (decN b.length).length + 8 ≤ 9223372036854775807 by omega),(show (decN b.length).length + 10 + 8 ≤ 9223372036854775807 by omega)]
 | refine Qc (id:=4) Xb [] (by kernel_rfl) ?_;simp [-zg,-zd,↓Qb,↓Qa,go_sem]
 | refine Qc (id:=5) Xb [] (by kernel_rfl) ?_;simp [-zg,-zd,↓Qb,↓Qa,go_sem]
 | ((have hnx:=s1_next (a:=a) (b:=b) (k:=k) (by assumption));(have hsl:=s1_len hN k);(have hna:0 ≤ nth a k ∧ nth a k ≤ 99:=hN.na k (by assumption));(have hdl:(decN (nth a k).toNat).length ≤ 2:=dec2 hna));refine Qc (id:=7) Xb [] (by kernel_rfl) ?_;simp [-zg,-zd,↓Qb,↓Qa,go_sem,c21,Qs c21,Nat.sub_pos_of_lt c21,hna.1,(show nth a k ≤ 1000000000 by omega),(show (s1 a b k).length ≤ 9223372036854775806 by omega),(show (s1 a b k).length + 1 + (decN (nth a k).toNat).length ≤ 9223372036854775807 by omega)]
 | refine Qc (id:=6) Xb [] (by kernel_rfl) ?_;simp [-zg,-zd,↓Qb,↓Qa,go_sem,wrapS (k:=k) (by omega)]
 | ((obtain rfl:k = a.length:=by omega);(have hlast:=s1_last a b);(have hsl:=s1_len hN a.length));refine Qc (id:=8) Xb [] (by kernel_rfl) ?_;simp [-zg,-zd,↓Qb,↓Qa,go_sem,(show (s1 a b a.length).length ≤ 9223372036854775797 by omega)]
 | refine Qc (id:=9) Xb [] (by kernel_rfl) ?_;simp [-zg,-zd,↓Qb,↓Qa,go_sem]
 | refine Qc (id:=10) Xb [] (by kernel_rfl) ?_;simp [-zg,-zd,↓Qb,↓Qa,go_sem]
 | refine Qc (id:=12) Xb [] (by kernel_rfl) ?_;simp [-zg,-zd,↓Qb,↓Qa,go_sem,c39,Qs c39,Nat.sub_pos_of_lt c39]
 | ((have hsl:=s2_len hN (show k ≤ b.length by omega));(have hdl:(decN k).length ≤ 2:=decN_len 1 _ (by omega)));refine Qc (id:=13) Xb [] (by kernel_rfl) ?_;simp [-zg,-zd,↓Qb,↓Qa,go_sem,(show (k:Int) ≤ 1000000000 by omega),(show (s2 a b k).length ≤ 9223372036854775806 by omega),(show (s2 a b k).length + 1 + (decN k).length ≤ 9223372036854775807 by omega)]
 | ((first | (have hnx:=s2_next (a:=a) (b:=b) (k:=k) c46) | (have hnx:=s2_no (a:=a) (b:=b) (k:=k) c46)));refine Qc (id:=11) Xb [] (by kernel_rfl) ?_;simp [-zg,-zd,↓Qb,↓Qa,go_sem,wrapS (k:=k) (by omega)]
 | ((obtain rfl:k = b.length:=by omega);(have hlast2:=s2_end a b c);(have hsl:=s2_len hN (Nat.le_refl b.length)));refine Qc (id:=14) Xb [] (by kernel_rfl) ?_;simp [-zg,-zd,↓Qb,↓Qa,go_sem,(show (s2 a b b.length).length ≤ 9223372036854775806 by omega)]
 | refine Qc (id:=15) Xb [] (by kernel_rfl) ?_;simp [-zg,-zd,↓Qb,↓Qa,go_sem]
 | refine Qc (id:=16) Xb [] (by kernel_rfl) ?_;simp [-zg,-zd,↓Qb,↓Qa,go_sem]
 | refine Qc (id:=18) Xb [] (by kernel_rfl) ?_;simp [-zg,-zd,↓Qb,↓Qa,go_sem,c58,Qs c58,Nat.sub_pos_of_lt c58];try ((refine Xi hK 7 ?_);(simp [go_sem]))
 | ((have hnx:=at_next (a:=a) (b:=b) (k:=k) c58);(have hsl:=zadd hN k (by omega));(obtain ⟨n0,n1,n2,n3⟩:=edge_nums hN c58);(have d0:=dec2 n0);(have d1:=dec2 n1);(have d2:=dec2 n2);(have d3:=dec2 n3));refine zaae (id:=19) Xb mixed [] [7] (by kernel_rfl) (by kernel_rfl) (by simp [-zg,-zd,↓Qb,↓Qa,go_sem,n0.1,n1.1,n2.1,n3.1,(show (nth c k).1 ≤ 1000000000 by omega),(show (nth c k).2.1 ≤ 1000000000 by omega),(show (nth c k).2.2.1 ≤ 1000000000 by omega),(show (nth c k).2.2.2 ≤ 1000000000 by omega)]) ?_;simp [-zg,-zd,↓Qb,↓Qa,go_sem,n0.1,n1.1,n2.1,n3.1,(show (nth c k).1 ≤ 1000000000 by omega),(show (nth c k).2.1 ≤ 1000000000 by omega),(show (nth c k).2.2.1 ≤ 1000000000 by omega),(show (nth c k).2.2.2 ≤ 1000000000 by omega)];try ((repeat (refine And.intro (by omega) ?_)))
 | refine Qc (id:=17) Xb [] (by kernel_rfl) ?_;simp [-zg,-zd,↓Qb,↓Qa,go_sem,wrapS (k:=k) (by omega)]
 | ((obtain rfl:k = c.length:=by omega));refine Qc (id:=20) Xb [] (by kernel_rfl) ?_;simp [-zg,-zd,↓Qb,↓Qa,go_sem]
 | refine Qh (c:=.tmp 10) ?_;simp [-zg,-zd,↓Qb,↓Qa,go_sem];try first | (refine ⟨?_,?_⟩ <;> refine zA ?_) | (refine ⟨fun c10=>?_,fun c10=>?_⟩ <;> (try simp [B_iff,B_not] at c10))
 | refine Qh (c:=.tmp 21) ?_;simp [-zg,-zd,↓Qb,↓Qa,go_sem];try first | (refine ⟨?_,?_⟩ <;> refine zA ?_) | (refine ⟨fun c21=>?_,fun c21=>?_⟩ <;> (try simp [B_iff,B_not] at c21))
 | refine Qh (c:=.tmp 39) ?_;simp [-zg,-zd,↓Qb,↓Qa,go_sem];try first | (refine ⟨?_,?_⟩ <;> refine zA ?_) | (refine ⟨fun c39=>?_,fun c39=>?_⟩ <;> (try simp [B_iff,B_not] at c39))
 | refine Qh (c:=.tmp 46) ?_;simp [-zg,-zd,↓Qb,↓Qa,go_sem];try first | (refine ⟨?_,?_⟩ <;> refine zA ?_) | (refine ⟨fun c46=>?_,fun c46=>?_⟩ <;> (try simp [B_iff,B_not] at c46))
 | refine Qh (c:=.tmp 58) ?_;simp [-zg,-zd,↓Qb,↓Qa,go_sem];try first | (refine ⟨?_,?_⟩ <;> refine zA ?_) | (refine ⟨fun c58=>?_,fun c58=>?_⟩ <;> (try simp [B_iff,B_not] at c58))
 | (refine Qj (id:=0) (Xp (ι:=Nat) (fun k:Nat=>⟨(upd (upd (upd (fun _=>.any) 1 (.pd [li cI a,li cB b,li cT c])) 3 (.str (s1 a b k))) 4 (.int .i64 k)),fun _=>none⟩) (fun k=>k ≤ a.length) (fun k=>a.length - k) (0) ?_ ?_ ?_);exact Nat.zero_le _;((repeat' (first | exact Qn (by assumption) | exact Qp | refine Qq ?_ ?_ | refine Qo ?_)) <;> simp [-zg,-zd,↓Qb,↓Qa,go_sem,s1,Ql,numsT,wAut,wIni]);rintro k hk)
 | (refine ⟨k + 1,(by omega),by first | omega | (simp;done) | (simp;omega),?_⟩;((repeat' (first | exact Qn (by assumption) | exact Qp | refine Qq ?_ ?_ | refine Qo ?_)) <;> simp [-zg,-zd,↓Qb,↓Qa,go_sem,hnx]))
 | (refine Qj (id:=2) (Xp (ι:=Nat) (fun k:Nat=>⟨(upd (upd (upd (fun _=>.any) 1 (.pd [li cI a,li cB b,li cT c])) 3 (.str (s2 a b k))) 5 (.int .i64 k)),fun _=>none⟩) (fun k=>k ≤ b.length) (fun k=>b.length - k) (0) ?_ ?_ ?_);exact Nat.zero_le _;((repeat' (first | exact Qn (by assumption) | exact Qp | refine Qq ?_ ?_ | refine Qo ?_)) <;> simp [-zg,-zd,↓Qb,↓Qa,go_sem,hlast]);rintro k hk)
 | (refine ⟨k + 1,(by omega),by first | omega | (simp;done) | (simp;omega),?_⟩;((repeat' (first | exact Qn (by assumption) | exact Qp | refine Qq ?_ ?_ | refine Qo ?_)) <;> simp [-zg,-zd,↓Qb,↓Qa,go_sem,hnx]))
 | (refine Qj (id:=4) (Xp (ι:=Nat) (fun k:Nat=>⟨(upd (upd (upd (fun _=>.any) 1 (.pd [li cI a,li cB b,li cT c])) 3 (.str (Xo a b c k))) 6 (.int .i64 k)),fun _=>none⟩) (fun k=>k ≤ c.length) (fun k=>c.length - k) (0) ?_ ?_ ?_);exact Nat.zero_le _;((repeat' (first | exact Qn (by assumption) | exact Qp | refine Qq ?_ ?_ | refine Qo ?_)) <;> simp [-zg,-zd,↓Qb,↓Qa,go_sem,hlast2]);rintro k hk)
 | (refine ⟨k + 1,(by omega),by first | omega | (simp;done) | (simp;omega),?_⟩;((repeat' (first | exact Qn (by assumption) | exact Qp | refine Qq ?_ ?_ | refine Qo ?_)) <;> simp [-zg,-zd,↓Qb,↓Qa,go_sem,hnx]))
 | (refine Qj ?_)
 | (refine Qw ?_;simp [-zg,-zd,↓Qb,↓Qa,go_sem])
 | (refine Qv ?_;simp [-zg,-zd,↓Qb,↓Qa,go_sem])
 | (refine Qz ?_;simp [-zg,-zd,↓Qb,↓Qa,go_sem,Tryd.results12])
 | (intro hx;refine zA ?_)
 | (refine ⟨?_,?_⟩ <;> refine zA ?_)
 | (intro hx;constructor <;> intro hs)
 | (constructor <;> intro hs)
 | (refine ⟨?_,fun hs=>?_⟩;refine zA ?_)
 | (refine ⟨fun hs=>?_,?_⟩;rotate_left;refine zA ?_;rotate_left)))
  all_goals (first
 | (rw [autT_no hv];done)
 | (rw [autT_yes hv];done)
 | skip)
@[go_sem] def zaaa:Con:=.pure fun
  | [.st [.list n_a c_a,.list n_b c_b,.list n_c c_c]]=>((Is cI n_a c_a) ∧ (Is cB n_b c_b) ∧ (Is cT n_c c_c) ∧ (Xj (de cT c_c)),.str (autT (de cI c_a) (de cB c_b) (de cT c_c)))
  | _=>(False,.any)
theorem zaau:ConOk Tryd.prog 12 zaaa:=by
  refine ⟨Qt Tryd.func12 (by decide) rfl,fun args h=>?_⟩
  revert h
  dsimp only
  split
  · intro h
    obtain ⟨⟨a,rfl,rfl⟩,⟨b,rfl,rfl⟩,⟨c,rfl,rfl⟩,hS⟩:=h
    try simp only [Xd] at *
    exact ⟨zabi a b c hS,by simp [go_sem]⟩
  · intro h
    exact h.elim
@[go_sem] def Γfa3:FuncId → Con:=ext Γfa2 12 zaaa
theorem Γfa3_ok:∀ g,ConOk Tryd.prog g (Γfa3 g):=Qu Xb zaau

end
end Go.Proofs.YtnfldmfamnhpcaaDoor.Vm

