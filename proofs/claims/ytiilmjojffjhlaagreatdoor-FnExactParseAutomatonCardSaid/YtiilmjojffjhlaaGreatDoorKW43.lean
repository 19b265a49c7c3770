import Derived.Test.YtiilmjojffjhlaaGreatDoorKFA6
import Derived.Deep.RegionHeld3
import Derived.Deep.DeepCutAuto
/-
  The specification's text of an automaton. Its condition: the edges' values are of 64 bits.
-/
namespace Go.Proofs.YtiilmjojffjhlaaGreatDoor.Vm
open Go
set_option linter.unusedVariables false
set_option linter.unusedSimpArgs false
set_option maxRecDepth 200000

theorem l16Dec_pure (n:Int) (h0:0 ≤ n) (h:n ≤ 1000000000):Pure Tryz.prog 47 [.int .i64 n] (.str (decN n.toNat)):=fun μ w vs _ hr=>by
  obtain ⟨v,rfl⟩:∃ v,vs = [v]:=by
    have:=hr.length
    match vs,this with
    | [v],_=>exact ⟨v,rfl⟩
  have h1:=hr.one
  simp only [Rep] at h1
  obtain ⟨_,rfl⟩:=h1
  obtain ⟨x,rfl⟩:=Int.eq_ofNat_of_zero_le h0
  refine (l16Dec_any w x (by omega)).mono fun e w' ⟨he,hg⟩=>?_
  exact ⟨_,[],he,by simp [Rep,mkS,tx],.nil,by simp,⟨hg.os,hg.tape,hg.output,hg.size,fun b hb _=>hg.block b hb⟩⟩
noncomputable def l16DecC:Con:=.pure fun
  | [.int .i64 n]=>(0 ≤ n ∧ n ≤ 1000000000,.str (decN n.toNat))
  | _=>(False,.any)
attribute [go_sem] l16DecC
theorem l16DecC_ok:ConOk Tryz.prog 47 l16DecC:=by
  refine ⟨Qn Tryz.func47 (by decide) rfl,fun args h=>?_⟩
  revert h
  dsimp only
  split
  · rintro ⟨h0,h1⟩
    exact ⟨l16Dec_pure _ h0 h1,by simp [bnd]⟩
  · intro h
    exact h.elim
noncomputable def Γfa2:FuncId → Con:=ext Γfa1 47 l16DecC
attribute [go_sem] Γfa2
theorem Xp:∀ g,ConOk Tryz.prog g (Γfa2 g):=Qu Γfa1_ok l16DecC_ok

theorem s1_next {a:List Int} {b:List Bool} {k:Nat} (h:k < a.length):s1 a b (k + 1) = s1 a b k ++ 32 :: decN (nth a k).toNat:=by
  rw [s1_succ h,List.append_assoc];rfl
theorem s2_next {a:List Int} {b:List Bool} {k:Nat} (h:nth b k = true):s2 a b (k + 1) = s2 a b k ++ 32 :: decN k:=by
  rw [s2_yes h,List.append_assoc];rfl
theorem s1_last (a:List Int) (b:List Bool):s1 a b a.length ++ [10,97,99,99,101,112,116,105,110,103] = s2 a b 0:=s1_end a b
theorem at_next {a:List Int} {b:List Bool} {c:List Tr4} {k:Nat} (h:k < c.length):Xy a b c (k + 1) = Xy a b c k ++ 101 :: 100 :: 103 :: 101 :: 32 :: (decN (nth c k).1.toNat ++ 32 :: (decN (nth c k).2.1.toNat ++ 32 :: (decN (nth c k).2.2.1.toNat ++ 32 :: (decN (nth c k).2.2.2.toNat ++ [10])))):=by
  rw [zada h,edgeT,edgeL,Qx];simp [wEdge]
theorem edge_nums {a:List Int} {b:List Bool} {c:List Tr4} (h:AutN a b c) {k:Nat} (hk:k < c.length):(0 ≤ (nth c k).1 ∧ (nth c k).1 ≤ 99) ∧ (0 ≤ (nth c k).2.1 ∧ (nth c k).2.1 ≤ 99) ∧ (0 ≤ (nth c k).2.2.1 ∧ (nth c k).2.2.1 ≤ 99) ∧ (0 ≤ (nth c k).2.2.2 ∧ (nth c k).2.2.2 ≤ 99):=by
  have h2:=h.ne k hk
  exact ⟨h2 0 (by simp [edgeL]),h2 1 (by simp [edgeL]),h2 2 (by simp [edgeL]),h2 3 (by simp [edgeL])⟩

set_option maxHeartbeats 4000000 in

theorem zabq (a:List Int) (b:List Bool) (c:List Tr4) (hS:AllSmall c):Pure Tryz.prog 20 [.st [li cI a,li cB b,li cT c]] (.str (autT a b c)):=by
  refine Pure.of_walk Tryz.func20 rfl (by simp [Tryz.f20]) (by simp [-List.drop_one,go_sem]) fun B hK=>?_
  cases hv:Vm.B (AutOk a b.length c)
  all_goals (repeat' (first
 | refine Qr ?_
 | refine Qc (id:=0) Xp [] (by kernel_rfl) ?_;simp [-List.getD_eq_getElem?_getD,-List.drop_one,↓Qb,↓Qa,go_sem];try ((refine Xm hK 1 ?_);simp [go_sem])
 | refine Qc (id:=1) Xp [] (by kernel_rfl) ?_;simp [-List.getD_eq_getElem?_getD,-List.drop_one,↓Qb,↓Qa,go_sem,hv,hS]
 | refine Qc (id:=2) Xp [] (by kernel_rfl) ?_;simp [-List.getD_eq_getElem?_getD,-List.drop_one,↓Qb,↓Qa,go_sem]
 | ((have hN:AutN a b c:=autN (by rw [B_iff] at hv;exact hv));(have hla:=hN.la);(have hlb:=hN.lb);(have hlc:=hN.lc);(have hd2:(decN b.length).length ≤ 2:=zadz 1 _ (by omega)));refine Qc (id:=3) Xp [] (by kernel_rfl) ?_;simp [-List.getD_eq_getElem?_getD,-List.drop_one,↓Qb,↓Qa,go_sem,(show (b.length:Int) ≤ 1000000000 by omega),(show 10 + (decN b.length).length ≤ 9223372036854775807 by omega),(show (decN b.length).length + 10 ≤ 9223372036854775807 by omega),(show 10 + (decN b.length).length + 8 ≤ 9223372036854775807 by omega),(show (decN b.length).length + 10 + 8 ≤ 9223372036854775807 by omega)]
 | refine Qc (id:=4) Xp [] (by kernel_rfl) ?_;simp [-List.getD_eq_getElem?_getD,-List.drop_one,↓Qb,↓Qa,go_sem]
 | refine Qc (id:=5) Xp [] (by kernel_rfl) ?_;simp [-List.getD_eq_getElem?_getD,-List.drop_one,↓Qb,↓Qa,go_sem]
 | ((have hnx:=s1_next (a:=a) (b:=b) (k:=k) (by assumption));(have hsl:=s1_len hN k);(have hna:0 ≤ nth a k ∧ nth a k ≤ 99:=hN.na k (by assumption));(have hdl:(decN (nth a k).toNat).length ≤ 2:=dec2 hna));refine Qc (id:=7) Xp [] (by kernel_rfl) ?_;simp [-List.getD_eq_getElem?_getD,-List.drop_one,↓Qb,↓Qa,go_sem,c21,Qh c21,Nat.sub_pos_of_lt c21,hna.1,(show nth a k ≤ 1000000000 by omega),(show (s1 a b k).length ≤ 9223372036854775806 by omega),(show (s1 a b k).length + 1 + (decN (nth a k).toNat).length ≤ 9223372036854775807 by omega)]
 | refine Qc (id:=6) Xp [] (by kernel_rfl) ?_;simp [-List.getD_eq_getElem?_getD,-List.drop_one,↓Qb,↓Qa,go_sem,wrapS (k:=k) (by omega)]
 | ((obtain rfl:k = a.length:=by omega);(have hlast:=s1_last a b);(have hsl:=s1_len hN a.length));refine Qc (id:=8) Xp [] (by kernel_rfl) ?_;simp [-List.getD_eq_getElem?_getD,-List.drop_one,↓Qb,↓Qa,go_sem,(show (s1 a b a.length).length ≤ 9223372036854775797 by omega)]
 | refine Qc (id:=9) Xp [] (by kernel_rfl) ?_;simp [-List.getD_eq_getElem?_getD,-List.drop_one,↓Qb,↓Qa,go_sem]
 | refine Qc (id:=10) Xp [] (by kernel_rfl) ?_;simp [-List.getD_eq_getElem?_getD,-List.drop_one,↓Qb,↓Qa,go_sem]
 | refine Qc (id:=12) Xp [] (by kernel_rfl) ?_;simp [-List.getD_eq_getElem?_getD,-List.drop_one,↓Qb,↓Qa,go_sem,c39,Qh c39,Nat.sub_pos_of_lt c39]
 | ((have hsl:=s2_len hN (show k ≤ b.length by omega));(have hdl:(decN k).length ≤ 2:=zadz 1 _ (by omega)));refine Qc (id:=13) Xp [] (by kernel_rfl) ?_;simp [-List.getD_eq_getElem?_getD,-List.drop_one,↓Qb,↓Qa,go_sem,(show (k:Int) ≤ 1000000000 by omega),(show (s2 a b k).length ≤ 9223372036854775806 by omega),(show (s2 a b k).length + 1 + (decN k).length ≤ 9223372036854775807 by omega)]
 | ((first | (have hnx:=s2_next (a:=a) (b:=b) (k:=k) c46) | (have hnx:=s2_no (a:=a) (b:=b) (k:=k) c46)));refine Qc (id:=11) Xp [] (by kernel_rfl) ?_;simp [-List.getD_eq_getElem?_getD,-List.drop_one,↓Qb,↓Qa,go_sem,wrapS (k:=k) (by omega)]
 | ((obtain rfl:k = b.length:=by omega);(have hlast2:=s2_end a b c);(have hsl:=s2_len hN (Nat.le_refl b.length)));refine Qc (id:=14) Xp [] (by kernel_rfl) ?_;simp [-List.getD_eq_getElem?_getD,-List.drop_one,↓Qb,↓Qa,go_sem,(show (s2 a b b.length).length ≤ 9223372036854775806 by omega)]
 | refine Qc (id:=15) Xp [] (by kernel_rfl) ?_;simp [-List.getD_eq_getElem?_getD,-List.drop_one,↓Qb,↓Qa,go_sem]
 | refine Qc (id:=16) Xp [] (by kernel_rfl) ?_;simp [-List.getD_eq_getElem?_getD,-List.drop_one,↓Qb,↓Qa,go_sem]
 | refine Qc (id:=18) Xp [] (by kernel_rfl) ?_;simp [-List.getD_eq_getElem?_getD,-List.drop_one,↓Qb,↓Qa,go_sem,c58,Qh c58,Nat.sub_pos_of_lt c58];try ((refine Xm hK 7 ?_);(simp [go_sem]))
 | ((have hnx:=at_next (a:=a) (b:=b) (k:=k) c58);(have hsl:=zaec hN k (by omega));(obtain ⟨n0,n1,n2,n3⟩:=edge_nums hN c58);(have d0:=dec2 n0);(have d1:=dec2 n1);(have d2:=dec2 n2);(have d3:=dec2 n3));refine Zf (id:=19) Xp mixed [] [7] (by kernel_rfl) (by kernel_rfl) (by simp [-List.getD_eq_getElem?_getD,-List.drop_one,↓Qb,↓Qa,go_sem,n0.1,n1.1,n2.1,n3.1,(show (nth c k).1 ≤ 1000000000 by omega),(show (nth c k).2.1 ≤ 1000000000 by omega),(show (nth c k).2.2.1 ≤ 1000000000 by omega),(show (nth c k).2.2.2 ≤ 1000000000 by omega)]) ?_;simp [-List.getD_eq_getElem?_getD,-List.drop_one,↓Qb,↓Qa,go_sem,n0.1,n1.1,n2.1,n3.1,(show (nth c k).1 ≤ 1000000000 by omega),(show (nth c k).2.1 ≤ 1000000000 by omega),(show (nth c k).2.2.1 ≤ 1000000000 by omega),(show (nth c k).2.2.2 ≤ 1000000000 by omega)];try ((repeat (refine And.intro (by omega) ?_)))
 | refine Qc (id:=17) Xp [] (by kernel_rfl) ?_;simp [-List.getD_eq_getElem?_getD,-List.drop_one,↓Qb,↓Qa,go_sem,wrapS (k:=k) (by omega)]
 | ((obtain rfl:k = c.length:=by omega));refine Qc (id:=20) Xp [] (by kernel_rfl) ?_;simp [-List.getD_eq_getElem?_getD,-List.drop_one,↓Qb,↓Qa,go_sem]
 | refine Qf (c:=.tmp 10) ?_;simp [-List.getD_eq_getElem?_getD,-List.drop_one,↓Qb,↓Qa,go_sem];try first | (refine ⟨?_,?_⟩ <;> refine zA ?_) | (refine ⟨fun c10=>?_,fun c10=>?_⟩ <;> (try simp [B_iff,B_not] at c10))
 | refine Qf (c:=.tmp 21) ?_;simp [-List.getD_eq_getElem?_getD,-List.drop_one,↓Qb,↓Qa,go_sem];try first | (refine ⟨?_,?_⟩ <;> refine zA ?_) | (refine ⟨fun c21=>?_,fun c21=>?_⟩ <;> (try simp [B_iff,B_not] at c21))
 | refine Qf (c:=.tmp 39) ?_;simp [-List.getD_eq_getElem?_getD,-List.drop_one,↓Qb,↓Qa,go_sem];try first | (refine ⟨?_,?_⟩ <;> refine zA ?_) | (refine ⟨fun c39=>?_,fun c39=>?_⟩ <;> (try simp [B_iff,B_not] at c39))
 | refine Qf (c:=.tmp 46) ?_;simp [-List.getD_eq_getElem?_getD,-List.drop_one,↓Qb,↓Qa,go_sem];try first | (refine ⟨?_,?_⟩ <;> refine zA ?_) | (refine ⟨fun c46=>?_,fun c46=>?_⟩ <;> (try simp [B_iff,B_not] at c46))
 | refine Qf (c:=.tmp 58) ?_;simp [-List.getD_eq_getElem?_getD,-List.drop_one,↓Qb,↓Qa,go_sem];try first | (refine ⟨?_,?_⟩ <;> refine zA ?_) | (refine ⟨fun c58=>?_,fun c58=>?_⟩ <;> (try simp [B_iff,B_not] at c58))
 | (refine Qg (id:=0) (Xc (ι:=Nat) (fun k:Nat=>⟨(upd (upd (upd (fun _=>.any) 1 (.pd [li cI a,li cB b,li cT c])) 3 (.str (s1 a b k))) 4 (.int .i64 k)),fun _=>none⟩) (fun k=>k ≤ a.length) (fun k=>a.length - k) (0) ?_ ?_ ?_);exact Nat.zero_le _;((repeat' (first | exact Qj (by assumption) | exact Ql | refine Qm ?_ ?_ | refine Qk ?_)) <;> simp [-List.getD_eq_getElem?_getD,-List.drop_one,↓Qb,↓Qa,go_sem,s1,Qx,numsT,wAut,wIni]);rintro k hk)
 | (refine ⟨k + 1,(by omega),by first | omega | (simp;done) | (simp;omega),?_⟩;((repeat' (first | exact Qj (by assumption) | exact Ql | refine Qm ?_ ?_ | refine Qk ?_)) <;> simp [-List.getD_eq_getElem?_getD,-List.drop_one,↓Qb,↓Qa,go_sem,hnx]))
 | (refine Qg (id:=2) (Xc (ι:=Nat) (fun k:Nat=>⟨(upd (upd (upd (fun _=>.any) 1 (.pd [li cI a,li cB b,li cT c])) 3 (.str (s2 a b k))) 5 (.int .i64 k)),fun _=>none⟩) (fun k=>k ≤ b.length) (fun k=>b.length - k) (0) ?_ ?_ ?_);exact Nat.zero_le _;((repeat' (first | exact Qj (by assumption) | exact Ql | refine Qm ?_ ?_ | refine Qk ?_)) <;> simp [-List.getD_eq_getElem?_getD,-List.drop_one,↓Qb,↓Qa,go_sem,hlast]);rintro k hk)
 | (refine ⟨k + 1,(by omega),by first | omega | (simp;done) | (simp;omega),?_⟩;((repeat' (first | exact Qj (by assumption) | exact Ql | refine Qm ?_ ?_ | refine Qk ?_)) <;> simp [-List.getD_eq_getElem?_getD,-List.drop_one,↓Qb,↓Qa,go_sem,hnx]))
 | (refine Qg (id:=4) (Xc (ι:=Nat) (fun k:Nat=>⟨(upd (upd (upd (fun _=>.any) 1 (.pd [li cI a,li cB b,li cT c])) 3 (.str (Xy a b c k))) 6 (.int .i64 k)),fun _=>none⟩) (fun k=>k ≤ c.length) (fun k=>c.length - k) (0) ?_ ?_ ?_);exact Nat.zero_le _;((repeat' (first | exact Qj (by assumption) | exact Ql | refine Qm ?_ ?_ | refine Qk ?_)) <;> simp [-List.getD_eq_getElem?_getD,-List.drop_one,↓Qb,↓Qa,go_sem,hlast2]);rintro k hk)
 | (refine ⟨k + 1,(by omega),by first | omega | (simp;done) | (simp;omega),?_⟩;((repeat' (first | exact Qj (by assumption) | exact Ql | refine Qm ?_ ?_ | refine Qk ?_)) <;> simp [-List.getD_eq_getElem?_getD,-List.drop_one,↓Qb,↓Qa,go_sem,hnx]))
 | (refine Qg ?_)
 | (refine Qq ?_;simp [-List.getD_eq_getElem?_getD,-List.drop_one,↓Qb,↓Qa,go_sem])
 | (refine Qp ?_;simp [-List.getD_eq_getElem?_getD,-List.drop_one,↓Qb,↓Qa,go_sem])
 | (refine Qs ?_;simp [-List.getD_eq_getElem?_getD,-List.drop_one,↓Qb,↓Qa,go_sem,Tryz.results20])
 | (intro hx;refine zA ?_)
 | (refine ⟨?_,?_⟩ <;> refine zA ?_)
 | (intro hx;constructor <;> intro hs)
 | (constructor <;> intro hs)
 | (refine ⟨?_,fun hs=>?_⟩;refine zA ?_)
 | (refine ⟨fun hs=>?_,?_⟩;rotate_left;refine zA ?_;rotate_left)))
  all_goals (first
 | (rw [autT_no hv];done)
 | (rw [zagj hv];done)
 | skip)
noncomputable def zaaa:Con:=.pure fun
  | [.st [.list n_a c_a,.list n_b c_b,.list n_c c_c]]=>((Is cI n_a c_a) ∧ (Is cB n_b c_b) ∧ (Is cT n_c c_c) ∧ (AllSmall (de cT c_c)),.str (autT (de cI c_a) (de cB c_b) (de cT c_c)))
  | _=>(False,.any)
attribute [go_sem] zaaa
theorem zaaq:ConOk Tryz.prog 20 zaaa:=by
  refine ⟨Qn Tryz.func20 (by decide) rfl,fun args h=>?_⟩
  revert h
  dsimp only
  split
  · intro h
    obtain ⟨⟨a,rfl,rfl⟩,⟨b,rfl,rfl⟩,⟨c,rfl,rfl⟩,hS⟩:=h
    try simp only [Xb] at *
    exact ⟨zabq a b c hS,by simp [go_sem]⟩
  · intro h
    exact h.elim
end Go.Proofs.YtiilmjojffjhlaaGreatDoor.Vm

/-
  The program's text of an automaton. Its condition: the edges' values are of 64 bits.
-/
namespace Go.Proofs.YtiilmjojffjhlaaGreatDoor
open Go.RowKit Go.Deep
open Vm (Tr4 AutOk AllSmall AU accT)
set_option linter.unusedVariables false

theorem Wr.cast {w wr:World} {l l':List UInt8} (h:Wr w wr l) (e:l = l'):Wr w wr l':=e ▸ h
theorem tx3 (x y z:List UInt8):([]:List UInt8) ++ (tx x ++ tx y ++ tx z).data.toList = x ++ y ++ z:=by rw [tx_add,tx_add];rfl
theorem IW.new (w:World) (x:Int):IW (w.alloc (.cells #[.int .i64 x] 3)) (.slice (some ⟨w.heap.size,0,none⟩) 1 1) [x]:=by
  refine ⟨_,_,_,rfl,rfl,fun k hk=>⟨_,rfl,?_⟩⟩
  obtain rfl:k = 0:=by omega
  rw [add0,(Box.new (w:=w) (t:=3) (cs:=#[.int .i64 x]) rfl).c]
  rfl
theorem IW.new4 (w:World) (x y z u:Int):IW (w.alloc (.cells #[.int .i64 x,.int .i64 y,.int .i64 z,.int .i64 u] 3)) (.slice (some ⟨w.heap.size,0,none⟩) 4 4) [x,y,z,u]:=by
  refine ⟨_,_,_,rfl,rfl,fun k hk=>⟨_,rfl,?_⟩⟩
  rw [add0,(Box.new (w:=w) (t:=3) (cs:=#[.int .i64 x,.int .i64 y,.int .i64 z,.int .i64 u]) rfl).c]
  match k,hk with
  | 0,_=>rfl
  | 1,_=>rfl
  | 2,_=>rfl
  | 3,_=>rfl
theorem IW.new' (w:World) (x:Int) {bk:Nat} (hb:bk = w.heap.size):IW (w.alloc (.cells #[.int .i64 x] 3)) (.slice (some ⟨bk,0,none⟩) 1 1) [x]:=by subst hb;exact IW.new w x
theorem IW.new4' (w:World) (x y z u:Int) {bk:Nat} (hb:bk = w.heap.size):IW (w.alloc (.cells #[.int .i64 x,.int .i64 y,.int .i64 z,.int .i64 u] 3)) (.slice (some ⟨bk,0,none⟩) 4 4) [x,y,z,u]:=by subst hb;exact IW.new4 w x y z u
theorem IW.of_dv {w:World} {v:Value} {xs:List Int} (h:Vm.DV w v (Vm.li Vm.cI xs)):IW w v xs:=by
  obtain ⟨A,c,rfl,h2⟩:=Vm.DV.ints h
  exact ⟨_,_,_,rfl,h2⟩
theorem accepting_any (w:World) (v:Value) (a:List Int) (b:List Bool) (c:List Tr4) (h:AU w v a b c) (hb:b.length ≤ 64) :
    Calls Tryz.prog 54 #[v] w fun e w'=>∃ A n k,e = .returned (.slice A n k) ∧ IW w' (.slice A n k) (accT b b.length) ∧ Gr w w':=by
  refine (Vm.Pure.up (vs:=[v]) (Vm.accepting_pure a b c (by omega)) (by simp [Vm.bndL,Vm.bnd,Vm.cat_bnd,Vm.li]) (Vm.DVL.one h)).mono ?_
  rintro e w' ⟨u,rfl,hu,hg⟩
  have hu2:Vm.DV w' u (Vm.li Vm.cI (accT b b.length)):=by simpa [Vm.fr,Vm.dat,Vm.li,Vm.datL_map,Vm.cat_dat] using hu
  obtain ⟨A,c,rfl,h⟩:=Vm.DV.ints hu2
  exact ⟨A,_,c,rfl,⟨_,_,_,rfl,h⟩,hg⟩

theorem wAut_any (w:World) (v:Value) (l:List Int) (h:IW w v l) (hl:l.length ≤ 4096) (hn:NumOk l) :
    Calls Tryz.prog 53 #[.string ⟨#[97,117,116,111,109,97,116,111,110]⟩,v] w fun e w'=>e = .returned (.string (tx (Qx wAut l))) ∧ Gr w w':=zael w wAut v l h hl (by decide) hn
theorem wIni_any (w:World) (v:Value) (l:List Int) (h:IW w v l) (hl:l.length ≤ 4096) (hn:NumOk l) :
    Calls Tryz.prog 53 #[.string ⟨#[105,110,105,116,105,97,108]⟩,v] w fun e w'=>e = .returned (.string (tx (Qx wIni l))) ∧ Gr w w':=zael w wIni v l h hl (by decide) hn
theorem wAcc_any (w:World) (v:Value) (l:List Int) (h:IW w v l) (hl:l.length ≤ 4096) (hn:NumOk l) :
    Calls Tryz.prog 53 #[.string ⟨#[97,99,99,101,112,116,105,110,103]⟩,v] w fun e w'=>e = .returned (.string (tx (Qx wAcc l))) ∧ Gr w w':=zael w wAcc v l h hl (by decide) hn
theorem wEdge_any (w:World) (v:Value) (l:List Int) (h:IW w v l) (hl:l.length ≤ 4096) (hn:NumOk l) :
    Calls Tryz.prog 53 #[.string ⟨#[101,100,103,101]⟩,v] w fun e w'=>e = .returned (.string (tx (Qx wEdge l))) ∧ Gr w w':=zael w wEdge v l h hl (by decide) hn

set_option maxRecDepth 100000 in
set_option maxHeartbeats 4000000 in
theorem zaby (w:World) (v:Value) (a:List Int) (b:List Bool) (c:List Tr4) (h:AU w v a b c) (hS:AllSmall c) :
    Calls Tryz.prog 19 #[v] w fun e w'=>e = .returned (.string (tx (autT a b c))) ∧ Gr w w':=by
  obtain ⟨A1,c1,A2,c2,A3,c3,rfl,i1,i2,i3,r1,r2,r3⟩:=h.shape
  have h00:=h
  go_enter Tryz.func19,Tryz.ntmps19
  go_wp2_with fail
  refine (Vm.Pure.upB (vs:=[_]) (Vm.implAutomatonValid_pure a b c hS) (by simp [Vm.bndL,Vm.bnd,Vm.cat_bnd,Vm.li]) (Vm.DVL.one (h.gr ((Gr.refl w).alloc _)))).mono ?_
  rintro e w1 ⟨rfl,hg⟩
  have b0:=(Box.new (w:=w) (k:=w.heap.size) (t:=26) (cs:=#[.slice A1 a.length c1,.slice A2 b.length c2,.slice A3 c.length c3]) rfl).gr hg
  have G:=Lib.hid (((Gr.refl w).alloc _).trans hg)
  clear hg h
  have c0:=b0.c
  cases hv:Vm.B (AutOk a b.length c)
  · have HV:=Lib.hid (autT_no hv)
    clear hv
    go_wp2_with fail
    go_ret
    exact ⟨by rw [HV.out];rfl,G.out⟩
  · have HV:=Lib.hid (zagj hv)
    have hA:AutOk a b.length c:=by rw [Vm.B_iff] at hv;exact hv
    have HN:=Lib.hid (autN hA)
    have hla:=HN.out.la
    have hlb:=HN.out.lb
    have hlc:=HN.out.lc
    clear hv hA
    have HA:=Lib.hid h00
    have HI:=Lib.hid r1
    clear h00 r1 r2 r3
    have HK:=Lib.hid (fun w' (h:Gr w1 w')=>And.intro h (b0.gr h).c)
    have HT1:=Lib.hid (zahj hlb)
    have HT2:=Lib.hid (num_acc hlb (Nat.le_refl _))
    have hz1:(tx (Qx wAut [(b.length:Int)])).size ≤ 30:=by rw [Zj];have:=Zu (wd:=wAut) HT1.out;have e1:wAut.length = 9:=rfl;simp only [List.length_cons,List.length_nil] at this;omega
    have hz2:(tx (Qx wIni a)).size ≤ 800:=by rw [Zj];have:=Zu (wd:=wIni) HN.out.na;have e1:wIni.length = 7:=rfl;omega
    have hz3:(tx (Qx wAcc (accT b b.length))).size ≤ 800:=by rw [Zj];have:=Zu (wd:=wAcc) HT2.out;have e1:wAcc.length = 9:=rfl;have:=Vm.accT_len b b.length;omega
    have hA1:∀ w:World,(Op.stringOp .add (tx (Qx wAut [(b.length:Int)])) (tx (Qx wIni a))).run Tryz.prog w = .ok (.string (tx (Qx wAut [(b.length:Int)]) ++ tx (Qx wIni a))) w:=fun w=>run_string_add_sum w _ _ (by omega)
    have hA2:∀ w:World,(Op.stringOp .add (tx (Qx wAut [(b.length:Int)]) ++ tx (Qx wIni a)) (tx (Qx wAcc (accT b b.length)))).run Tryz.prog w = .ok (.string (tx (Qx wAut [(b.length:Int)]) ++ tx (Qx wIni a) ++ tx (Qx wAcc (accT b b.length)))) w:=fun w=>run_string_add_sum w _ _ (by rw [ByteArray.size_append];omega)
    go_wp2_with fail
    clear c0
    go_cut [22] (fun u wx=>Wr w1 wx (headT a b))
    case first =>
      go_region_held3 (fun w'=>Gr w1 w' ∧ ∀ i,w'.cell? ⟨w.heap.size,i,none⟩ = (#[.slice A1 a.length c1,.slice A2 b.length c2,.slice A3 c.length c3]:Array Value)[i]?)
        (first | assumption | exact HK.out _ hwx.1 | exact HK.out _ (((Gr.refl _).alloc _).drew) | exact HK.out _ (Gr.alloc (And.left ‹_›) _) | exact HK.out _ (Gr.trans (And.left ‹_›) hgx))
        (first
          | (go_at_call_of 53 (Value.slice A1 a.length c1);refine (wIni_any _ _ a ((IW.of_dv HI.out).gr (G.out.trans (And.left ‹Gr w1 _ ∧ _›))) (by omega) HN.out.na).mono ?_;rintro e w' ⟨rfl,hgx⟩)
          | (go_at_call_of 53 (Value.slice AA AN AC);refine (wAcc_any _ _ (accT b b.length) hia (by have:=Vm.accT_len b b.length;omega) HT2.out).mono ?_;rintro e w' ⟨rfl,hgx⟩)
          | (go_at_call 54;refine (accepting_any _ _ a b c (HA.out.gr (G.out.trans (And.left ‹Gr w1 _ ∧ _›))) hlb).mono ?_;rintro e w' ⟨AA,AN,AC,rfl,hia,hgx⟩)
          | (go_at_call 53;refine Calls.mono (wAut_any _ _ [(b.length:Int)] ((IW.new' _ _ (by simp)).gr (Gr.refl _).drew) (by simp) HT1.out) ?_;rintro e w' ⟨rfl,hgx⟩)
          | (go_at_call 43;refine Calls.mono (Wr.write' (w:=w1) (l:=[]) (by (repeat' (first | exact (Wr.fresh w1).beside (((Gr.refl _).alloc _).drew) | refine Wr.beside ?_ (by assumption)))) rfl _ (by simp only [ByteArray.size_append,List.length_nil];omega)) ?_;rintro e w' ⟨rfl,hwx⟩))
      all_goals (go_wp2_with fail;go_meet;exact Wr.cast ‹Wr w1 _ _› (tx3 _ _ _))
    case rest =>
      have HW:=Lib.hid hcut
      have c0:=(b0.gr hcut.1).c
      clear hcut HK hz1 hz2 hz3 hA1 hA2
      go_wp2_with fail
      go_loopw [5,26] (fun _ i wr=>∃ (k:Nat) (W:World),W = wr ∧ k ≤ c.length ∧ i = .int .i64 k ∧ Wr w1 W (Xy a b c k)) (fun _ i _=>c.length - (intOf i).toNat)
      case atStart=>exact ⟨0,_,rfl,Nat.zero_le _,rfl,Wr.cast HW.out (by simp [Xy])⟩
      case round =>
        obtain ⟨k,W,hW,hk,rfl,hx⟩:=hrel
        subst hW
        clear c0 HW
        have hlen:=zaec HN.out k hk
        have HX:=Lib.hid hx
        by_cases hlt:k < c.length
        · obtain ⟨ad,rfl,hc0,hc1,hc2,hc3⟩:=i3.2 k hlt
          have hgw:=G.out.trans hx.1
          have d0:=hgw.cell hc0
          have d1:=hgw.cell hc1
          have d2:=hgw.cell hc2
          have d3:=hgw.cell hc3
          clear hc0 hc1 hc2 hc3 hx hgw
          have HE:=Lib.hid (HN.out.ne k hlt)
          have hel:=edgeT_len HE.out
          have HD:=Lib.hid (zada (a:=a) (b:=b) hlt)
          go_wp2_with fail
          clear d0 d1 d2 d3
          refine Calls.mono (wEdge_any _ _ (edgeL (Vm.nth c k)) (IW.new4' _ _ _ _ _ (by simp)) (by simp [edgeL]) HE.out) ?_
          rintro e w3 ⟨rfl,hg3⟩
          have HX3:=Lib.hid ((HX.out.beside (((Gr.refl _).alloc _).alloc _)).beside hg3)
          clear hg3
          have hsz:(tx (Qx wEdge (edgeL (Vm.nth c k)))).size ≤ 49:=by rw [Zj];exact hel
          go_wp2_with fail
          refine Calls.mono (Wr.write' HX3.out rfl _ (by omega)) ?_
          rintro e w4 ⟨rfl,hw4⟩
          have HY:=Lib.hid (Wr.cast hw4 (show _ = Xy a b c (k + 1) by rw [HD.out];rfl))
          clear hw4
          go_wp2_with fail
          exact ⟨⟨k + 1,_,rfl,by omega,by go_num,HY.out⟩,by simp [intOf];omega⟩
        · obtain rfl:k = c.length:=by omega
          clear hx
          go_wp2_with fail
          refine Calls.mono (Wr.text' HX.out rfl) ?_
          rintro e w4 ⟨rfl,hg4⟩
          have HG:=Lib.hid (G.out.trans hg4)
          clear hg4
          go_wp2_with fail
          go_ret
          exact ⟨by rw [HV.out];rfl,HG.out⟩
end Go.Proofs.YtiilmjojffjhlaaGreatDoor

/-
  FnExactFormatAutomaton: the walk of the law. No conditions.
-/
namespace Go.Proofs.YtiilmjojffjhlaaGreatDoor.Vm
open Go
set_option linter.unusedVariables false
set_option linter.unusedSimpArgs false
set_option maxRecDepth 200000

theorem zabu (a:List Int) (b:List Bool) (c:List Tr4) (hS:AllSmall c):Pure Tryz.prog 19 [.st [li cI a,li cB b,li cT c]] (.str (autT a b c)):=fun μ w vs _ hr=>by
  obtain ⟨v,rfl⟩:∃ v,vs = [v]:=by
    have:=hr.length
    match vs,this with
    | [v],_=>exact ⟨v,rfl⟩
  have h1:Rep (fun b=>b) (fun x=>x < w.heap.size) w (.st [li cI a,li cB b,li cT c]) v []:=Rep.ren (N:=0) (fun b hb=>absurd hb (by omega)) (by simp [bnd,bndL,cat_bnd,li]) hr.one
  refine (zaby w v a b c h1 hS).mono fun e w' ⟨he,hg⟩=>?_
  exact ⟨_,[],he,by simp [Rep,mkS,tx],.nil,by simp,⟨hg.os,hg.tape,hg.output,hg.size,fun b hb _=>hg.block b hb⟩⟩

noncomputable def zaab:Con:=.pure fun
  | [.st [.list n_a c_a,.list n_b c_b,.list n_c c_c]]=>((Is cI n_a c_a) ∧ (Is cB n_b c_b) ∧ (Is cT n_c c_c) ∧ (AllSmall (de cT c_c)),.str (autT (de cI c_a) (de cB c_b) (de cT c_c)))
  | _=>(False,.any)
attribute [go_sem] zaab
theorem zaav:ConOk Tryz.prog 19 zaab:=by
  refine ⟨Qn Tryz.func19 (by decide) rfl,fun args h=>?_⟩
  revert h
  dsimp only
  split
  · intro h
    obtain ⟨⟨a,rfl,rfl⟩,⟨b,rfl,rfl⟩,⟨c,rfl,rfl⟩,hS⟩:=h
    try simp only [Xb] at *
    exact ⟨zabu a b c hS,by simp [go_sem]⟩
  · intro h
    exact h.elim
end Go.Proofs.YtiilmjojffjhlaaGreatDoor.Vm

