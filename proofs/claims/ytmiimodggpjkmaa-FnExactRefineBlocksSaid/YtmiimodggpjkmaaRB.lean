/-
  Numbers of keys, sorted insertion, refinement: the reference's walks. No conditions.
-/
import Derived.Test.YtmiimodggpjkmaaRA
import Derived.Test.YtmiimodggpjkmaaVm15
namespace Go.Proofs.Ytmiimodggpjkmaa.Vm
open Go
open Nat renaming sub_pos_of_lt → zsP
open List renaming getD_eq_getElem?_getD → zg,drop_one → zd,replicate → zrP
noncomputable section
set_option linter.unusedVariables false
set_option linter.unusedSimpArgs false
set_option maxRecDepth 200000

@[go_sem] theorem makeD_1R (x:D):makeD [x] 1 = [x]:=by rw [zafd];rfl
theorem Spec.frameF {P:Program} {f:FuncId} {args:List D} {r:D} (h:Spec P f args (fun _=>none) r (fun _=>none)) (H:Hp):Spec P f args H r H:=by
  have h1:SpecR P f args (fun _=>none) (fun _=>(r,fun _=>none)):=fun w J vs μ fp N hR=>(h w J vs μ fp N hR).mono fun e w' ⟨v,μ',fp',N',he,hr⟩=>⟨⟨Unit,()⟩,v,μ',fp',N',he,hr⟩
  have h2:=SpecR.frame0 (r:=fun _=>r) h1 (H:=H)
  exact fun w J vs μ fp N hR=>(h2 w J vs μ fp N hR).mono fun e w' ⟨c,v,μ',fp',N',he,hr⟩=>⟨v,μ',fp',N',he,hr⟩

set_option maxHeartbeats 1000000 in
theorem l10Number_pure (ks:List (List Int)) (hn:ks.length ≤ 1048577):Pure Try.prog 107 [li cL ks] (fr 1 cI (numK ks)):=by
  refine Pure.of_walk Try.func107 rfl (by simp [Try.f107]) (by simp [-zd,go_sem]) fun B hK=>?_
  (repeat' (first
 | refine Qr ?_
 | refine Qc (id:=0) Xe [] (by kernel_rfl) ?_;simp [-zg,-zd,↓Qb,↓Qa,go_sem]
 | refine Qc (id:=1) Xe [] (by kernel_rfl) ?_;simp [-zg,-zd,↓Qb,↓Qa,go_sem]
 | refine Qc (id:=2) Xe [] (by kernel_rfl) ?_;simp [-zg,-zd,↓Qb,↓Qa,go_sem]
 | refine Qc (id:=3) Xe [] (by kernel_rfl) ?_;simp [-zg,-zd,↓Qb,↓Qa,go_sem];try ((have hz:distK ([]:List (List Int)) = []:=rfl);(have hz2:Qy ks 0 = []:=rfl))
 | refine Qc (id:=4) Xe [] (by kernel_rfl) ?_;simp [-zg,-zd,↓Qb,↓Qa,go_sem]
 | ((have hnl:=Za (xs:=ks) (k:=i) (by omega)));refine Qc (id:=6) Xe [] (by kernel_rfl) ?_;simp [-zg,-zd,↓Qb,↓Qa,go_sem];try ((refine Zq 3 rfl fun b cp j _ hcp hj=>?_))
 | refine Qc (id:=7) Xe [] (by kernel_rfl) ?_;simp [-zg,-zd,↓Qb,↓Qa,go_sem]
 | refine Qc (id:=8) Xe [18] (by kernel_rfl) ?_;simp [-zg,-zd,↓Qb,↓Qa,go_sem];try (refine ⟨fun s8a=>?_,fun s8a=>?_⟩ <;> (try simp [B_iff,B_not] at s8a) <;> try (refine ⟨fun s8b=>?_,fun s8b=>?_⟩ <;> (try simp [B_iff,B_not] at s8b)))
 | ((have hki:q.1 < i:=(by omega));(have hin:i < ks.length:=(by omega));(have hkn:q.1 < ks.length:=(by omega)));refine Zg (id:=10) Xe mixed [] [0] (by kernel_rfl) (by kernel_rfl) (by simp [-zg,-zd,↓Qb,↓Qa,go_sem,hin,Qh hin,zsP hin,hkn,Qh hkn,zsP hkn]) ?_;simp [-zg,-zd,↓Qb,↓Qa,go_sem,hin,Qh hin,zsP hin,hkn,Qh hkn,zsP hkn]
 | ((have hkl:q.1 < (Qy ks i).length:=(by omega));(have hkl2:q.1 < (Qy ks i).length + j:=(by omega));(have hkl3:q.1 + 1 ≤ (Qy ks i).length + j:=(by omega)));refine Qc (id:=11) Xe [] (by kernel_rfl) ?_;simp [-zg,-zd,↓Qb,↓Qa,go_sem,hki,hkl,hkl2,hkl3,(show 0 < (Qy ks i).length - q.1 by omega),(show 0 < i - q.1 by omega),(show ¬ i = 0 by omega),(show q.1 < i + j by omega),(show q.1 + 1 ≤ i + j by omega)];try ((obtain ⟨c',hc',hCf⟩:∃ c',c' = nth (Qy ks i) q.1 ∧ CfK ks i (q.1 + 1) c':=⟨_,rfl,CfK.hit hki (by omega) c32⟩))
 | (first | (have hCf2:=hCf;skip) | (obtain ⟨c',hc',hCf⟩:∃ c',c' = q.2 ∧ CfK ks i (q.1 + 1) c':=⟨_,rfl,CfK.miss g2 (by omega) c32⟩));refine Qc (id:=9) Xe [] (by kernel_rfl) ?_;simp [-zg,-zd,↓Qb,↓Qa,go_sem,wrapS (k:=q.1) (by omega)]
 | refine Qc (id:=12) Xe [] (by kernel_rfl) ?_;simp [-zg,-zd,↓Qb,↓Qa,go_sem]
 | ((have hki:q.1 = i:=(by omega));(have hnew:=CfK.new (by rw [hki] at g2;exact g2) (by omega) (show i < ks.length by omega));(have hdl:=zafe ks i (by omega));(have e8:((distK (ks.take (i + 1))).length:Int) = ((distK (ks.take i)).length:Int) + 1:=(by rw [hnew.2];rfl));(have e7:cat cI (Qy ks i) ++ [.int .i64 ((distK (ks.take i)).length:Int)] = cat cI (Qy ks (i + 1)):=(by rw [snoc_cI,hnew.1])));refine Qc (id:=13) Xe [] (by kernel_rfl) ?_;simp [-zg,-zd,↓Qb,↓Qa,go_sem]
 | refine Qc (id:=14) Xe [] (by kernel_rfl) ?_;simp [-zg,-zd,↓Qb,↓Qa,go_sem,Zx (x:=((distK (ks.take i)).length:Int) + 1) (by omega) (by omega)]
 | ((first | (have e72:=e7;skip) | (have hold:=CfK.old g2 (by omega) (show i < ks.length by omega);have e8:((distK (ks.take (i + 1))).length:Int) = ((distK (ks.take i)).length:Int):=(by rw [hold.2]);have e7:cat cI (Qy ks i) ++ [.int .i64 q.2] = cat cI (Qy ks (i + 1)):=(by rw [snoc_cI,hold.1])));(refine Jd 3 (b:=b) (all:=cat cI (Qy ks i) ++ zrP j .any) rfl (by simp [upd]) (by omega) (by simp [Qu,hnl]) (by simp [Qu,hnl];omega) ?_));refine Qc (id:=15) Xe [] (by kernel_rfl) ?_;simp [-zg,-zd,↓Qb,↓Qa,go_sem,e7,hnl,Xo (f:=cI) (Qy ks i) (zrP j .any) (n:=i) hnl.symm,(show i ≤ 9223372036854775806 by omega),(show 2 * (i + 1) * 8 ≤ 281474976710656 by omega),(show i + 1 ≤ 9223372036854775807 by omega)]
 | refine Qc (id:=5) Xe [] (by kernel_rfl) ?_;simp [-zg,-zd,↓Qb,↓Qa,go_sem,wrapS (k:=i) (by omega)]
 | ((obtain rfl:i = ks.length:=by omega);have hcn:=Za (xs:=ks) (Nat.le_refl ks.length));refine Qc (id:=16) Xe [] (by kernel_rfl) ?_;simp [-zg,-zd,↓Qb,↓Qa,go_sem,numK,hcn]
 | refine Qe (c:=.tmp 12) ?_;simp [-zg,-zd,↓Qb,↓Qa,go_sem];try first | (refine ⟨?_,?_⟩ <;> refine zA ?_) | (refine ⟨fun c12=>?_,fun c12=>?_⟩ <;> (try simp [B_iff,B_not] at c12))
 | refine Qe (c:=.tmp 21) ?_;simp [-zg,-zd,↓Qb,↓Qa,go_sem];try first | (refine ⟨?_,?_⟩ <;> refine zA ?_) | (refine ⟨fun c21=>?_,fun c21=>?_⟩ <;> (try simp [B_iff,B_not] at c21))
 | refine Qe (c:=.tmp 32) ?_;simp [-zg,-zd,↓Qb,↓Qa,go_sem];try first | (refine ⟨?_,?_⟩ <;> refine zA ?_) | (refine ⟨fun c32=>?_,fun c32=>?_⟩ <;> (try simp [B_iff,B_not] at c32))
 | refine Qe (c:=.tmp 38) ?_;simp [-zg,-zd,↓Qb,↓Qa,go_sem];try first | (refine ⟨?_,?_⟩ <;> refine zA ?_) | (refine ⟨fun c38=>?_,fun c38=>?_⟩ <;> (try simp [B_iff,B_not] at c38))
 | (refine Qf (id:=0) (Xc (ι:=Nat) (fun i:Nat=>⟨(upd (upd (upd (upd (fun _=>.any) 0 (li cL ks)) 3 (.fr 1 i (cat cI (Qy ks i)))) 4 (.int .i64 (distK (ks.take i)).length)) 5 (.int .i64 i)),fun _=>none⟩) (fun i=>i ≤ ks.length) (fun i=>ks.length - i) (0) ?_ ?_ ?_);exact Nat.zero_le _;((repeat' (first | exact Qi (by assumption) | exact Qk | exact ⟨fun _=>Or.inl rfl,fun _ _ h=>nomatch h⟩ | refine Ql ?_ ?_ | refine Qj ?_)) <;> simp [-zg,-zd,↓Qb,↓Qa,go_sem,hz,hz2,cat_nil,li]);rintro i hi)
 | (refine ⟨i + 1,by omega,by first | omega | (simp;done) | (simp;omega),?_⟩;((repeat' (first | exact Qi (by assumption) | exact Qk | exact ⟨fun _=>Or.inl rfl,fun _ _ h=>nomatch h⟩ | refine Ql ?_ ?_ | refine Qj ?_)) <;> simp [-zg,-zd,↓Qb,↓Qa,go_sem,e8]))
 | (refine Qf (id:=2) (Xc (ι:=Nat × Int) (fun q:Nat × Int=>⟨(upd (upd (upd (upd (upd (upd (fun _=>.any) 0 (li cL ks)) 3 (.sl b 1 0 i cp)) 4 (.int .i64 (distK (ks.take i)).length)) 5 (.int .i64 i)) 6 (.int .i64 q.2)) 7 (.int .i64 q.1)),upd (fun _=>none) b (some (cat cI (Qy ks i) ++ zrP j .any))⟩) (fun q=>q.1 ≤ i ∧ CfK ks i q.1 q.2) (fun q=>i - q.1) ((0,-1)) ?_ ?_ ?_);exact ⟨Nat.zero_le _,CfK.zero ks i⟩;((repeat' (first | exact Qi (by assumption) | exact Qk | exact ⟨fun _=>Or.inl rfl,fun _ _ h=>nomatch h⟩ | refine Ql ?_ ?_ | refine Qj ?_)) <;> simp [-zg,-zd,↓Qb,↓Qa,go_sem]);rintro q ⟨g1,g2⟩)
 | (refine ⟨(q.1 + 1,c'),⟨by dsimp only;omega,hCf⟩,by first | omega | (simp;done) | (simp;omega),?_⟩;((repeat' (first | exact Qi (by assumption) | exact Qk | exact ⟨fun _=>Or.inl rfl,fun _ _ h=>nomatch h⟩ | refine Ql ?_ ?_ | refine Qj ?_)) <;> simp [-zg,-zd,↓Qb,↓Qa,go_sem,hc']))
 | (refine Qf ?_)
 | (refine Qq ?_;simp [-zg,-zd,↓Qb,↓Qa,go_sem])
 | (refine Qp ?_;simp [-zg,-zd,↓Qb,↓Qa,go_sem])
 | (refine Qs ?_;simp [-zg,-zd,↓Qb,↓Qa,go_sem,Try.results107])
 | (intro hx;refine zA ?_)
 | (refine ⟨?_,?_⟩ <;> refine zA ?_)
 | (intro hx;constructor <;> intro hs)
 | (constructor <;> intro hs)
 | (refine ⟨?_,fun hs=>?_⟩;refine zA ?_)
 | (refine ⟨fun hs=>?_,?_⟩;rotate_left;refine zA ?_;rotate_left)))
@[go_sem] def zaaz:Con:=.pure fun
  | [.list n_ks c_ks]=>((Is cL n_ks c_ks) ∧ ((de cL c_ks).length ≤ 1048577),fr 1 cI (numK (de cL c_ks)))
  | _=>(False,.any)
theorem zaee:ConOk Try.prog 107 zaaz:=by
  refine ⟨Qn Try.func107 (by decide) rfl,fun args h=>?_⟩
  revert h
  dsimp only
  split
  · intro h
    obtain ⟨⟨ks,rfl,rfl⟩,hn⟩:=h
    try simp only [Qt] at *
    exact ⟨l10Number_pure ks hn,by simp [go_sem]⟩
  · intro h
    exact h.elim
@[go_sem] def Γr1:FuncId → Con:=ext Γ23 107 zaaz
theorem Xu:∀ g,ConOk Try.prog g (Γr1 g):=Qo Xe zaee

set_option maxHeartbeats 1000000 in
theorem l10Sorted_spec (l:List Int) (n:Int) (hn:l.length ≤ 1048576):Spec Try.prog 142 [fr 1 cI l,.int .i64 n] (fun _=>none) (fr 1 cI (srtE l n)) (fun _=>none):=by
  refine Spec.of_walk Try.func142 rfl (by simp [Try.f142]) fun B=>?_
  (repeat' (first
 | refine Qr ?_
 | refine Qc (id:=0) Xu [] (by kernel_rfl) ?_;simp [-zg,-zd,↓Qb,↓Qa,go_sem]
 | refine Qc (id:=1) Xu [] (by kernel_rfl) ?_;simp [-zg,-zd,↓Qb,↓Qa,go_sem]
 | refine Qc (id:=2) Xu [] (by kernel_rfl) ?_;simp [-zg,-zd,↓Qb,↓Qa,go_sem]
 | refine Qc (id:=3) Xu [] (by kernel_rfl) ?_;simp [-zg,-zd,↓Qb,↓Qa,go_sem];try (refine Zq 0 rfl fun b cp j _ hcp hj=>?_)
 | refine Qc (id:=4) Xu [] (by kernel_rfl) ?_;simp [-zg,-zd,↓Qb,↓Qa,go_sem]
 | refine Qc (id:=6) Xu [] (by kernel_rfl) ?_;simp [-zg,-zd,↓Qb,↓Qa,go_sem,c12,Qh c12,zsP c12,(show i < l.length + j by omega),(show i + 1 ≤ l.length + j by omega)]
 | ((have hs:=srtE_mem c12 c20);refine Jd 0 (b:=b) (all:=cat cI l ++ zrP j .any) rfl (by simp [upd]) (by omega) (by simp [Qu]) (by simp [Qu];omega) ?_);refine Qc (id:=7) Xu [] (by kernel_rfl) ?_;simp [-zg,-zd,↓Qb,↓Qa,go_sem,Xo (f:=cI) l (zrP j .any) (n:=l.length) rfl]
 | refine Qc (id:=8) Xu [28] (by kernel_rfl) ?_;simp [-zg,-zd,↓Qb,↓Qa,go_sem,c12,Qh c12,zsP c12,(show i < l.length + j by omega),(show i + 1 ≤ l.length + j by omega)];try (refine ⟨fun s8a=>?_,fun s8a=>?_⟩ <;> (try simp [B_iff,B_not] at s8a) <;> try (refine ⟨fun s8b=>?_,fun s8b=>?_⟩ <;> (try simp [B_iff,B_not] at s8b)))
 | (have hle:=insF_le (n:=n) (show i ≤ l.length by omega));refine Qc (id:=9) Xu [] (by kernel_rfl) ?_;simp [-zg,-zd,↓Qb,↓Qa,go_sem,snoc_cI,(show (insF l n i).1.length ≤ 9223372036854775806 by omega),(show 2 * ((insF l n i).1.length + 1) * 8 ≤ 281474976710656 by omega),(show (insF l n i).1.length + 1 ≤ 9223372036854775807 by omega)]
 | refine Qc (id:=10) Xu [] (by kernel_rfl) ?_;simp [-zg,-zd,↓Qb,↓Qa,go_sem]
 | (have hlf:=insF_le (n:=n) (show i ≤ l.length by omega));refine Qc (id:=11) Xu [] (by kernel_rfl) ?_;simp [-zg,-zd,↓Qb,↓Qa,go_sem,c12,Qh c12,zsP c12,(show i < l.length + j by omega),(show i + 1 ≤ l.length + j by omega),snoc_cI,(show (insF l n i).1.length ≤ 9223372036854775806 by omega),(show 2 * ((insF l n i).1.length + 1) * 8 ≤ 281474976710656 by omega),(show (insF l n i).1.length + 1 ≤ 9223372036854775807 by omega),(show (insF l n i).1.length + 1 ≤ 9223372036854775806 by omega),(show 2 * ((insF l n i).1.length + 1 + 1) * 8 ≤ 281474976710656 by omega),(show (insF l n i).1.length + 1 + 1 ≤ 9223372036854775807 by omega)]
 | (first | (have e5:=insF_yes c12 s8a c31) | (have e5:=insF_no2 c12 c31;have e6:=c31) | (have e5:=insF_no3 c12 s8a));refine Qc (id:=5) Xu [] (by kernel_rfl) ?_;simp [-zg,-zd,↓Qb,↓Qa,go_sem,wrapS (k:=i) (by omega)]
 | ((obtain rfl:i = l.length:=by omega));refine Qc (id:=12) Xu [] (by kernel_rfl) ?_;simp [-zg,-zd,↓Qb,↓Qa,go_sem]
 | (have hle:=insF_le (n:=n) (Nat.le_refl l.length));refine Qc (id:=13) Xu [] (by kernel_rfl) ?_;simp [-zg,-zd,↓Qb,↓Qa,go_sem,snoc_cI,(show (insF l n l.length).1.length ≤ 9223372036854775806 by omega),(show 2 * ((insF l n l.length).1.length + 1) * 8 ≤ 281474976710656 by omega),(show (insF l n l.length).1.length + 1 ≤ 9223372036854775807 by omega)]
 | (first | (have hs:=srtE_y ht c44) | (have hs:=srtE_n ht c44));refine Qc (id:=14) Xu [] (by kernel_rfl) ?_;simp [-zg,-zd,↓Qb,↓Qa,go_sem]
 | refine Qe (c:=.tmp 12) ?_;simp [-zg,-zd,↓Qb,↓Qa,go_sem];try first | (refine ⟨?_,?_⟩ <;> refine zA ?_) | (refine ⟨fun c12=>?_,fun c12=>?_⟩ <;> (try simp [B_iff,B_not] at c12))
 | refine Qe (c:=.tmp 20) ?_;simp [-zg,-zd,↓Qb,↓Qa,go_sem];try first | (refine ⟨?_,?_⟩ <;> refine zA ?_) | (refine ⟨fun c20=>?_,fun c20=>?_⟩ <;> (try simp [B_iff,B_not] at c20))
 | refine Qe (c:=.tmp 31) ?_;simp [-zg,-zd,↓Qb,↓Qa,go_sem];try first | (refine ⟨?_,?_⟩ <;> refine zA ?_) | (refine ⟨fun c31=>?_,fun c31=>?_⟩ <;> (try simp [B_iff,B_not] at c31))
 | refine Qe (c:=.tmp 44) ?_;simp [-zg,-zd,↓Qb,↓Qa,go_sem];try first | (refine ⟨?_,?_⟩ <;> refine zA ?_) | (refine ⟨fun c44=>?_,fun c44=>?_⟩ <;> (try simp [B_iff,B_not] at c44))
 | (refine Qf (id:=0) (Xc (ι:=Nat) (fun i:Nat=>⟨(upd (upd (upd (upd (upd (fun _=>.any) 0 (.sl b 1 0 l.length cp)) 1 (.int .i64 n)) 5 (.fr 1 (insF l n i).1.length (cat cI (insF l n i).1))) 6 (.bool (insF l n i).2)) 7 (.int .i64 i)),upd (fun _=>none) b (some (cat cI l ++ zrP j .any))⟩) (fun i=>i ≤ l.length ∧ NoneTill (fun k=>decide (nth l k = n)) i) (fun i=>l.length - i) (0) ?_ ?_ ?_);exact ⟨Nat.zero_le _,.zero _⟩;((repeat' (first | exact Qi (by assumption) | exact Qk | refine Ql ?_ ?_ | refine Qj ?_)) <;> simp [-zg,-zd,↓Qb,↓Qa,go_sem,insF_zero,cat_nil]);rintro i ⟨hi,ht⟩)
 | (refine ⟨i + 1,⟨by omega,ht.succ (by simp_all)⟩,by first | omega | (simp;done) | (simp;omega),?_⟩;((repeat' (first | exact Qi (by assumption) | exact Qk | refine Ql ?_ ?_ | refine Qj ?_)) <;> simp [-zg,-zd,↓Qb,↓Qa,go_sem,e5]))
 | (refine Qf ?_)
 | (refine Qq ?_;simp [-zg,-zd,↓Qb,↓Qa,go_sem])
 | (refine Qp ?_;simp [-zg,-zd,↓Qb,↓Qa,go_sem])
 | (refine Qs ?_;simp [-zg,-zd,↓Qb,↓Qa,go_sem,Try.results142])
 | (intro hx;refine zA ?_)
 | (refine ⟨?_,?_⟩ <;> refine zA ?_)
 | (intro hx;constructor <;> intro hs)
 | (constructor <;> intro hs)
 | (refine ⟨?_,fun hs=>?_⟩;refine zA ?_)
 | (refine ⟨fun hs=>?_,?_⟩;rotate_left;refine zA ?_;rotate_left)))
  all_goals (first
 | exact c31
 | (rw [hs];exact ⟨rfl,rfl⟩)
 | (rw [hs];exact ⟨by simp,rfl⟩)
 | skip)
@[go_sem] def zaax:Con:=.gen fun args H=>match args with
  | [.fr 1 n_l c_l,.int .i64 n]=>((Is cI n_l c_l) ∧ ((de cI c_l).length ≤ 1048576),fr 1 cI (srtE (de cI c_l) n),H)
  | _=>(False,.any,H)
theorem zaec:ConOk Try.prog 142 zaax:=by
  refine ⟨Qn Try.func142 (by decide) rfl,fun args H h=>?_⟩
  revert h
  dsimp only
  split
  · intro h
    obtain ⟨⟨l,rfl,rfl⟩,hn⟩:=h
    try simp only [Qt] at *
    exact Spec.frameF (l10Sorted_spec l _ hn) H
  · intro h
    exact h.elim
@[go_sem] def Γr2:FuncId → Con:=ext Γr1 142 zaax
theorem Jm:∀ g,ConOk Try.prog g (Γr2 g):=Qo Xu zaec

set_option maxHeartbeats 1000000 in
theorem l10After_pure (a:List Ints2) (b:List (List Int)) (bl:List Int) (s:Int) (hr:RefOk b bl.length) (hn:bl.length ≤ 1048576) (h0:0 ≤ s) (h1:s < bl.length):Pure Try.prog 106 [.st [li cP a,li cL b],li cI bl,.int .i64 s] (fr 1 cI (aftE bl (nth b s.toNat))):=by
  refine Pure.of_walk Try.func106 rfl (by simp [Try.f106]) (by simp [-zd,go_sem]) fun B hK=>?_
  obtain ⟨m,rfl⟩:=Int.eq_ofNat_of_zero_le h0;have hm1:m < b.length:=(by rw [hr.1];omega);have hrl:=(hr.2 m (by omega)).1;have hrr:=(hr.2 m (by omega)).2
  all_goals (repeat' (first
 | refine Qr ?_
 | refine Qc (id:=0) Jm [] (by kernel_rfl) ?_;simp [-zg,-zd,↓Qb,↓Qa,go_sem];try (refine Xh hK 3 ?_;simp [go_sem])
 | refine Qc (id:=1) Jm [] (by kernel_rfl) ?_;simp [-zg,-zd,↓Qb,↓Qa,go_sem]
 | refine Qc (id:=2) Jm [] (by kernel_rfl) ?_;simp [-zg,-zd,↓Qb,↓Qa,go_sem]
 | refine Qc (id:=3) Jm [] (by kernel_rfl) ?_;simp [-zg,-zd,↓Qb,↓Qa,go_sem,hm1,Qh hm1,zsP hm1]
 | ((obtain ⟨w,hw⟩:=Int.eq_ofNat_of_zero_le (hrr k c17).1);(have hwl:w < bl.length:=(by have:=(hrr k c17).2;omega));(have hal:=aftF_len bl (nth b m) k (by omega));(have e5:aftF bl (nth b m) (k + 1) = srtE (aftF bl (nth b m) k) (nth bl w):=(by rw [zafh c17,hw];rfl)));refine Qc (id:=5) Jm [] (by kernel_rfl) ?_;simp [-zg,-zd,↓Qb,↓Qa,go_sem,hm1,Qh hm1,zsP hm1,c17,Qh c17,zsP c17,hw,hwl,Qh hwl,zsP hwl,(show (aftF bl (nth b m) k).length ≤ 1048576 by omega)]
 | refine Qc (id:=4) Jm [] (by kernel_rfl) ?_;simp [-zg,-zd,↓Qb,↓Qa,go_sem,wrapS (k:=k) (by omega)]
 | ((obtain rfl:k = (nth b m).length:=by omega));refine Qc (id:=6) Jm [] (by kernel_rfl) ?_;simp [-zg,-zd,↓Qb,↓Qa,go_sem,aftE]
 | refine Qe (c:=.tmp 17) ?_;simp [-zg,-zd,↓Qb,↓Qa,go_sem];try first | (refine ⟨?_,?_⟩ <;> refine zA ?_) | (refine ⟨fun c17=>?_,fun c17=>?_⟩ <;> (try simp [B_iff,B_not] at c17))
 | (refine Qf (id:=0) (Xc (ι:=Nat) (fun k:Nat=>⟨(upd (upd (upd (upd (upd (fun _=>.any) 1 (li cI bl)) 2 (.int .i64 (m:Int))) 3 (.pd [li cP a,li cL b])) 7 (.fr 1 (aftF bl (nth b m) k).length (cat cI (aftF bl (nth b m) k)))) 8 (.int .i64 k)),fun _=>none⟩) (fun k=>k ≤ (nth b m).length) (fun k=>(nth b m).length - k) (0) ?_ ?_ ?_);exact Nat.zero_le _;((repeat' (first | exact Qi (by assumption) | exact Qk | refine Ql ?_ ?_ | refine Qj ?_)) <;> simp [-zg,-zd,↓Qb,↓Qa,go_sem,aftF_zero,cat_nil]);rintro k hk)
 | (refine ⟨k + 1,by omega,by first | omega | (simp;done) | (simp;omega),?_⟩;((repeat' (first | exact Qi (by assumption) | exact Qk | refine Ql ?_ ?_ | refine Qj ?_)) <;> simp [-zg,-zd,↓Qb,↓Qa,go_sem,e5]))
 | (refine Qf ?_)
 | (refine Qq ?_;simp [-zg,-zd,↓Qb,↓Qa,go_sem])
 | (refine Qp ?_;simp [-zg,-zd,↓Qb,↓Qa,go_sem])
 | (refine Qs ?_;simp [-zg,-zd,↓Qb,↓Qa,go_sem,Try.results106])
 | (intro hx;refine zA ?_)
 | (refine ⟨?_,?_⟩ <;> refine zA ?_)
 | (intro hx;constructor <;> intro hs)
 | (constructor <;> intro hs)
 | (refine ⟨?_,fun hs=>?_⟩;refine zA ?_)
 | (refine ⟨fun hs=>?_,?_⟩;rotate_left;refine zA ?_;rotate_left)))
@[go_sem] def zabn:Con:=.pure fun
  | [.st [.list n_a c_a,.list n_b c_b],.list n_bl c_bl,.int .i64 s]=>((Is cP n_a c_a) ∧ (Is cL n_b c_b) ∧ (Is cI n_bl c_bl) ∧ (RefOk (de cL c_b) (de cI c_bl).length) ∧ ((de cI c_bl).length ≤ 1048576) ∧ (0 ≤ s) ∧ (s < (de cI c_bl).length),fr 1 cI (aftE (de cI c_bl) (nth (de cL c_b) s.toNat)))
  | _=>(False,.any)
theorem zaet:ConOk Try.prog 106 zabn:=by
  refine ⟨Qn Try.func106 (by decide) rfl,fun args h=>?_⟩
  revert h
  dsimp only
  split
  · intro h
    obtain ⟨⟨a,rfl,rfl⟩,⟨b,rfl,rfl⟩,⟨bl,rfl,rfl⟩,hr,hn,h0,h1⟩:=h
    try simp only [Qt] at *
    exact ⟨l10After_pure a b bl _ hr hn h0 h1,by simp [go_sem]⟩
  · intro h
    exact h.elim
@[go_sem] def Γr3:FuncId → Con:=ext Γr2 106 zabn
theorem zafk:∀ g,ConOk Try.prog g (Γr3 g):=Qo Jm zaet

set_option maxHeartbeats 1000000 in
theorem l10Refine_pure (a:List Ints2) (b:List (List Int)) (bl:List Int) (hr:RefOk b bl.length) (hn:bl.length ≤ 1048576):Pure Try.prog 59 [.st [li cP a,li cL b],li cI bl] (fr 1 cI (refE b bl)):=by
  refine Pure.of_walk Try.func59 rfl (by simp [Try.f59]) (by simp [-zd,go_sem]) fun B hK=>?_
  (repeat' (first
 | refine Qr ?_
 | refine Qc (id:=0) zafk [] (by kernel_rfl) ?_;simp [-zg,-zd,↓Qb,↓Qa,go_sem];try (refine Xh hK 2 ?_;simp [go_sem])
 | refine Qc (id:=1) zafk [] (by kernel_rfl) ?_;simp [-zg,-zd,↓Qb,↓Qa,go_sem]
 | refine Qc (id:=2) zafk [] (by kernel_rfl) ?_;simp [-zg,-zd,↓Qb,↓Qa,go_sem]
 | refine Qc (id:=3) zafk [] (by kernel_rfl) ?_;simp [-zg,-zd,↓Qb,↓Qa,go_sem]
 | ((have hal:(aftE bl (nth b i)).length ≤ (nth b i).length:=aftF_len bl (nth b i) _ (Nat.le_refl _));(have hrl:=(hr.2 i c11).1);(have e5:cat oL (keyF b bl i) ++ [.fr 1 (1 + (aftE bl (nth b i)).length) (.int .i64 (nth bl i) :: cat cI (aftE bl (nth b i)))] = cat oL (keyF b bl (i + 1)):=(by rw [keyF_succ,zabe,Jr];simp [oL,fr,cat,cI,Nat.add_comm])));refine Zg (id:=5) zafk mixed [] [1,6] (by kernel_rfl) (by kernel_rfl) (by simp [-zg,-zd,↓Qb,↓Qa,go_sem,c11,Qh c11,zsP c11,hr,hn,e5,(show 1 + (aftE bl (nth b i)).length ≤ 9223372036854775807 by omega),(show 2 * (1 + (aftE bl (nth b i)).length) * 8 ≤ 281474976710656 by omega),(show (0:Int) ≤ (i:Int) by omega),(show (i:Int) < (bl.length:Int) by omega),(show i ≤ 9223372036854775806 by omega),(show 2 * (i + 1) * 24 ≤ 281474976710656 by omega),(show i + 1 ≤ 9223372036854775807 by omega)]) ?_;simp [-zg,-zd,↓Qb,↓Qa,go_sem,c11,Qh c11,zsP c11,hr,hn,e5,(show 1 + (aftE bl (nth b i)).length ≤ 9223372036854775807 by omega),(show 2 * (1 + (aftE bl (nth b i)).length) * 8 ≤ 281474976710656 by omega),(show (0:Int) ≤ (i:Int) by omega),(show (i:Int) < (bl.length:Int) by omega),(show i ≤ 9223372036854775806 by omega),(show 2 * (i + 1) * 24 ≤ 281474976710656 by omega),(show i + 1 ≤ 9223372036854775807 by omega)]
 | refine Qc (id:=4) zafk [] (by kernel_rfl) ?_;simp [-zg,-zd,↓Qb,↓Qa,go_sem,wrapS (k:=i) (by omega)]
 | ((obtain rfl:i = bl.length:=by omega);(refine Xh hK 5 ?_);(have hkl:=keyF_len b bl bl.length));refine Qc (id:=6) zafk [] (by kernel_rfl) ?_;simp [-zg,-zd,↓Qb,↓Qa,go_sem,refE,hkl,(show bl.length ≤ 1048577 by omega)]
 | refine Qe (c:=.tmp 11) ?_;simp [-zg,-zd,↓Qb,↓Qa,go_sem];try first | (refine ⟨?_,?_⟩ <;> refine zA ?_) | (refine ⟨fun c11=>?_,fun c11=>?_⟩ <;> (try simp [B_iff,B_not] at c11))
 | (refine Qf (id:=0) (Xc (ι:=Nat) (fun i:Nat=>⟨(upd (upd (upd (upd (fun _=>.any) 1 (li cI bl)) 2 (.pd [li cP a,li cL b])) 5 (.fr 1 i (cat oL (keyF b bl i)))) 6 (.int .i64 i)),fun _=>none⟩) (fun i=>i ≤ bl.length) (fun i=>bl.length - i) (0) ?_ ?_ ?_);exact Nat.zero_le _;((repeat' (first | exact Qi (by assumption) | exact Qk | refine Ql ?_ ?_ | refine Qj ?_)) <;> simp [-zg,-zd,↓Qb,↓Qa,go_sem,keyF,cat_nil]);rintro i hi)
 | (refine ⟨i + 1,by omega,by first | omega | (simp;done) | (simp;omega),?_⟩;((repeat' (first | exact Qi (by assumption) | exact Qk | refine Ql ?_ ?_ | refine Qj ?_)) <;> simp [-zg,-zd,↓Qb,↓Qa,go_sem,e5]))
 | (refine Qf ?_)
 | (refine Qq ?_;simp [-zg,-zd,↓Qb,↓Qa,go_sem])
 | (refine Qp ?_;simp [-zg,-zd,↓Qb,↓Qa,go_sem])
 | (refine Qs ?_;simp [-zg,-zd,↓Qb,↓Qa,go_sem,Try.results59])
 | (intro hx;refine zA ?_)
 | (refine ⟨?_,?_⟩ <;> refine zA ?_)
 | (intro hx;constructor <;> intro hs)
 | (constructor <;> intro hs)
 | (refine ⟨?_,fun hs=>?_⟩;refine zA ?_)
 | (refine ⟨fun hs=>?_,?_⟩;rotate_left;refine zA ?_;rotate_left)))
@[go_sem] def zaay:Con:=.pure fun
  | [.st [.list n_a c_a,.list n_b c_b],.list n_bl c_bl]=>((Is cP n_a c_a) ∧ (Is cL n_b c_b) ∧ (Is cI n_bl c_bl) ∧ (RefOk (de cL c_b) (de cI c_bl).length) ∧ ((de cI c_bl).length ≤ 1048576),fr 1 cI (refE (de cL c_b) (de cI c_bl)))
  | _=>(False,.any)
theorem zaed:ConOk Try.prog 59 zaay:=by
  refine ⟨Qn Try.func59 (by decide) rfl,fun args h=>?_⟩
  revert h
  dsimp only
  split
  · intro h
    obtain ⟨⟨a,rfl,rfl⟩,⟨b,rfl,rfl⟩,⟨bl,rfl,rfl⟩,hr,hn⟩:=h
    try simp only [Qt] at *
    exact ⟨l10Refine_pure a b bl hr hn,by simp [go_sem]⟩
  · intro h
    exact h.elim
end
end Go.Proofs.Ytmiimodggpjkmaa.Vm

