import Derived.Test.YtkjimmkemnmajaaN3
/-
  spec.l7Next. No conditions.
-/
namespace Go.Proofs.Ytkjimmkemnmajaa.Vm
open Go
open Nat renaming sub_pos_of_lt → zsP
open List renaming getD_eq_getElem?_getD → zg,drop_one → zd,replicate → zrP
open Ne renaming symm → zS
noncomputable section
set_option linter.unusedVariables false
set_option linter.unusedSimpArgs false
set_option maxRecDepth 200000

theorem set_nth {α:Type} [Inhabited α] {xs:List α} {i:Nat} (h:i < xs.length):xs.set i (nth xs i) = xs:=by rw [Ql h,List.set_getElem_self]
set_option maxHeartbeats 4000000 in

theorem nextD_pure (a:List Int) (b:List Bool) (c:List Tr4) (hr:InRng b.length c) (hb:b.length ≤ 1048576) (hc:c.length ≤ 1048576):Pure Try.prog 126 [.st [li cI a,li cB b,li cT c]] (fr 1 oN (nxD b.length c c.length)):=by
  refine Pure.of_walk Try.func126 rfl (by simp [Try.f126]) (by simp [-zd,go_sem]) fun B hK=>?_
  (repeat' (first
 | refine Qt ?_
 | refine Qc (id:=0) Vq [] (by kernel_rfl) ?_;simp [-zg,-zd,↓Qb,↓Qa,go_sem];try (refine Xa hK 1 ?_;simp [go_sem])
 | refine Qc (id:=1) Vq [] (by kernel_rfl) ?_;simp [-zg,-zd,↓Qb,↓Qa,go_sem,make_oN,(by omega:24 * (b.length:Int) ≤ 281474976710656),(by omega:(b.length:Int) ≤ 281474976710656),(by omega:(b.length:Int) ≤ 9223372036854775807)];try ((refine Xk 3 rfl fun b3 c3 j3 q3 hc3 hj3=>?_);(clear q3);(refine Qx (fun H1=>H1 b3 = some (cat oN (nxD b.length c 0) ++ zrP j3 D.any)) (by simp [upd,nxD_zero]) fun H1 w3=>?_))
 | refine Qc (id:=2) Vq [] (by kernel_rfl) ?_;simp [-zg,-zd,↓Qb,↓Qa,go_sem]
 | refine Qc (id:=3) Vq [] (by kernel_rfl) ?_;simp [-zg,-zd,↓Qb,↓Qa,go_sem]
 | refine Qc (id:=5) Vq [] (by kernel_rfl) ?_;simp [-zg,-zd,↓Qb,↓Qa,go_sem,c14,Qj c14,zsP c14];try ((refine Xa hK 5 ?_);(simp [go_sem]);(obtain ⟨⟨p0,p1⟩,p2,p3⟩:=hr q.1 c14);(have hnl:=Yj b.length c q.1 (by omega));(have hrow:=nxD_row hr q.1 (by omega) (nth c q.1).1.toNat);(have hfl:(nth c q.1).1.toNat < b.length:=(by omega));(have hadd:=fun hn=>oN_addD hr c14 hn (zrP j3 D.any));(have hgt:=oN_get (xs:=nxD b.length c q.1) (i:=(nth c q.1).1.toNat) (by omega) (zrP j3 D.any));(have hcl:=Vi (xs:=nxD b.length c q.1) (junk:=zrP j3 D.any));(rw [List.length_replicate] at hcl);(by_cases he:(nth (nxD b.length c q.1) (nth c q.1).1.toNat) = []);(rw [he,zalz] at hgt);(rw [he] at hadd);(obtain ⟨cells,hce⟩:∃ cells,(cat oN (nxD b.length c q.1) ++ zrP j3 D.any) = cells:=⟨_,rfl⟩);(rw [hce] at hgt hcl g2 hadd);(have hadd1:cells.set (nth c q.1).1.toNat (.fr 1 1 [.int .i64 (nth c q.1).2.2.2]) = cat oN (nxD b.length c (q.1 + 1)) ++ zrP j3 D.any:=hadd (by simp));rotate_left;(have hcell:=oN_cell (by omega) he (zrP j3 D.any));(refine Zu b3 (nth c q.1).1.toNat g2 hcell fun rb rcp rj q8 hrc hrj=>?_);(dsimp only at q8);(have rn:¬ rb = b3:=(by rintro rfl;rw [g2] at q8;cases q8));(clear q8);(have hset2:∀ z,((cat oN (nxD b.length c q.1) ++ zrP j3 D.any).set (nth c q.1).1.toNat (D.sl rb 1 0 (nth (nxD b.length c q.1) (nth c q.1).1.toNat).length rcp)).set (nth c q.1).1.toNat z = (cat oN (nxD b.length c q.1) ++ zrP j3 D.any).set (nth c q.1).1.toNat z:=fun z=>List.set_set ..);(have hgi2:((cat oN (nxD b.length c q.1) ++ zrP j3 D.any).set (nth c q.1).1.toNat (D.sl rb 1 0 (nth (nxD b.length c q.1) (nth c q.1).1.toNat).length rcp))[(nth c q.1).1.toNat]? = some (D.sl rb 1 0 (nth (nxD b.length c q.1) (nth c q.1).1.toNat).length rcp):=List.getElem?_set_self (by rw [Vi];omega));(have hgt2:((cat oN (nxD b.length c q.1) ++ zrP j3 D.any).set (nth c q.1).1.toNat (D.sl rb 1 0 (nth (nxD b.length c q.1) (nth c q.1).1.toNat).length rcp)).getD (nth c q.1).1.toNat D.any = (D.sl rb 1 0 (nth (nxD b.length c q.1) (nth c q.1).1.toNat).length rcp):=(by rw [List.getD_eq_getElem?_getD,hgi2];rfl));(have hadd2:=hadd);(rw [← hset2] at hadd2);(have hback:((cat oN (nxD b.length c q.1) ++ zrP j3 D.any).set (nth c q.1).1.toNat (D.sl rb 1 0 (nth (nxD b.length c q.1) (nth c q.1).1.toNat).length rcp)).set (nth c q.1).1.toNat (.fr 1 (nth (nxD b.length c q.1) (nth c q.1).1.toNat).length (cat cI (nth (nxD b.length c q.1) (nth c q.1).1.toNat))) = (cat oN (nxD b.length c q.1) ++ zrP j3 D.any):=(by rw [hset2];have:=oN_set (xs:=nxD b.length c q.1) (i:=(nth c q.1).1.toNat) (junk:=zrP j3 D.any) (y:=(nth (nxD b.length c q.1) (nth c q.1).1.toNat)) (by omega);rw [Wf he,set_nth (by omega)] at this;exact this));(have hcl2:((cat oN (nxD b.length c q.1) ++ zrP j3 D.any).set (nth c q.1).1.toNat (D.sl rb 1 0 (nth (nxD b.length c q.1) (nth c q.1).1.toNat).length rcp)).length = (nxD b.length c q.1).length + j3:=(by rw [List.length_set];exact hcl));(obtain ⟨cells,hce⟩:∃ cells,(cat oN (nxD b.length c q.1) ++ zrP j3 D.any).set (nth c q.1).1.toNat (D.sl rb 1 0 (nth (nxD b.length c q.1) (nth c q.1).1.toNat).length rcp) = cells:=⟨_,rfl⟩);(refine Qx (fun H4=>H4 b3 = some cells ∧ H4 rb = some (cat cI (nth (nxD b.length c q.1) (nth c q.1).1.toNat) ++ zrP rj D.any)) ⟨by simp [upd,rn,zS rn,← hce],by simp [upd,rn,zS rn]⟩ fun H4 ⟨g4,hrb⟩=>?_);(rw [hce] at hgt2 hadd2 hcl2 hgi2 hback))
 | refine Xx (id:=6) Vq mixed [(b3,cells)] [] [5] (by kernel_rfl) (by kernel_rfl) (by simp [-zg,-zd,↓Qb,↓Qa,go_sem,Xg,g4,hrb,rn,zS rn,hgt2,hcl2,p0,p1,p2,p3,hnl,hfl,(show (nth c q.1).1.toNat < b.length + j3 by omega),(show (nth c q.1).1.toNat + 1 ≤ b.length + j3 by omega),Xt]) (by simp [-zg,-zd,↓Qb,↓Qa,go_sem,Xg,g4,hrb,rn,zS rn,hgt2,hcl2,p0,p1,p2,p3,hnl,hfl,(show (nth c q.1).1.toNat < b.length + j3 by omega),(show (nth c q.1).1.toNat + 1 ≤ b.length + j3 by omega),Xt]) ?_;simp [-zg,-zd,↓Qb,↓Qa,go_sem,Xg,g4,hrb,rn,zS rn,hgt2,hcl2,p0,p1,p2,p3,hnl,hfl,(show (nth c q.1).1.toNat < b.length + j3 by omega),(show (nth c q.1).1.toNat + 1 ≤ b.length + j3 by omega),Xt]
 | refine Xx (id:=6) Vq mixed [(b3,cells)] [] [5] (by kernel_rfl) (by kernel_rfl) (by simp [-zg,-zd,↓Qb,↓Qa,go_sem,Xg,g2,hgt,hcl,p0,p1,p2,p3,hnl,hfl,(show (nth c q.1).1.toNat < b.length + j3 by omega),(show (nth c q.1).1.toNat + 1 ≤ b.length + j3 by omega),(show Is cI 0 [] = True from eq_true ⟨([]:List Int),rfl,rfl⟩),(show de cI [] = ([]:List Int) from Qm (f:=cI) []),B_no (show ¬ (nth c q.1).2.2.2 ∈ ([]:List Int) by simp)]) (by simp [-zg,-zd,↓Qb,↓Qa,go_sem,Xg,g2,hgt,hcl,p0,p1,p2,p3,hnl,hfl,(show (nth c q.1).1.toNat < b.length + j3 by omega),(show (nth c q.1).1.toNat + 1 ≤ b.length + j3 by omega),(show Is cI 0 [] = True from eq_true ⟨([]:List Int),rfl,rfl⟩),(show de cI [] = ([]:List Int) from Qm (f:=cI) []),B_no (show ¬ (nth c q.1).2.2.2 ∈ ([]:List Int) by simp)]) ?_;simp [-zg,-zd,↓Qb,↓Qa,go_sem,Xg,g2,hgt,hcl,p0,p1,p2,p3,hnl,hfl,(show (nth c q.1).1.toNat < b.length + j3 by omega),(show (nth c q.1).1.toNat + 1 ≤ b.length + j3 by omega),(show Is cI 0 [] = True from eq_true ⟨([]:List Int),rfl,rfl⟩),(show de cI [] = ([]:List Int) from Qm (f:=cI) []),B_no (show ¬ (nth c q.1).2.2.2 ∈ ([]:List Int) by simp)]
 | ((try (have hadd3:=hadd2 (by assumption))));refine Xx (id:=7) Vq mixed [(b3,cells)] [] [3,5] (by kernel_rfl) (by kernel_rfl) (by simp [-zg,-zd,↓Qb,↓Qa,go_sem,Xg,g4,hrb,rn,zS rn,hgt2,hcl2,p0,p1,p2,p3,hnl,hfl,Xv,hadd3,(show rcp ≤ (nth (nxD b.length c q.1) (nth c q.1).1.toNat).length + rj by omega),(show (nth c q.1).1.toNat < b.length + j3 by omega),(show (nth c q.1).1.toNat + 1 ≤ b.length + j3 by omega),(show (nth (nxD b.length c q.1) (nth c q.1).1.toNat).length + 1 ≤ 9223372036854775807 by omega),(show (nth (nxD b.length c q.1) (nth c q.1).1.toNat).length ≤ 9223372036854775806 by omega),(show 2 * ((nth (nxD b.length c q.1) (nth c q.1).1.toNat).length + 1) * 8 ≤ 281474976710656 by omega),Xt]) (by simp [-zg,-zd,↓Qb,↓Qa,go_sem,Xg,g4,hrb,rn,zS rn,hgt2,hcl2,p0,p1,p2,p3,hnl,hfl,Xv,hadd3,(show rcp ≤ (nth (nxD b.length c q.1) (nth c q.1).1.toNat).length + rj by omega),(show (nth c q.1).1.toNat < b.length + j3 by omega),(show (nth c q.1).1.toNat + 1 ≤ b.length + j3 by omega),(show (nth (nxD b.length c q.1) (nth c q.1).1.toNat).length + 1 ≤ 9223372036854775807 by omega),(show (nth (nxD b.length c q.1) (nth c q.1).1.toNat).length ≤ 9223372036854775806 by omega),(show 2 * ((nth (nxD b.length c q.1) (nth c q.1).1.toNat).length + 1) * 8 ≤ 281474976710656 by omega),Xt]) ?_;simp [-zg,-zd,↓Qb,↓Qa,go_sem,Xg,g4,hrb,rn,zS rn,hgt2,hcl2,p0,p1,p2,p3,hnl,hfl,Xv,hadd3,(show rcp ≤ (nth (nxD b.length c q.1) (nth c q.1).1.toNat).length + rj by omega),(show (nth c q.1).1.toNat < b.length + j3 by omega),(show (nth c q.1).1.toNat + 1 ≤ b.length + j3 by omega),(show (nth (nxD b.length c q.1) (nth c q.1).1.toNat).length + 1 ≤ 9223372036854775807 by omega),(show (nth (nxD b.length c q.1) (nth c q.1).1.toNat).length ≤ 9223372036854775806 by omega),(show 2 * ((nth (nxD b.length c q.1) (nth c q.1).1.toNat).length + 1) * 8 ≤ 281474976710656 by omega),Xt];try ((refine Qx (fun H1=>H1 b3 = some (cat oN (nxD b.length c (q.1 + 1)) ++ zrP j3 D.any)) (by first | (simp [upd,Xg,rn,zS rn,hadd3];done) | (simp [upd,Xg,hadd1];done)) fun H9 t3=>?_);(have fl:True ∧ True:=⟨trivial,trivial⟩))
 | refine Xx (id:=7) Vq mixed [(b3,cells)] [] [3,5] (by kernel_rfl) (by kernel_rfl) (by simp [-zg,-zd,↓Qb,↓Qa,go_sem,Xg,g2,hgt,hcl,p0,p1,p2,p3,hnl,hfl,hadd1,(show (nth c q.1).1.toNat < b.length + j3 by omega),(show (nth c q.1).1.toNat + 1 ≤ b.length + j3 by omega),(show makeD [D.int .i64 0] 1 = [D.int .i64 0] from rfl)]) (by simp [-zg,-zd,↓Qb,↓Qa,go_sem,Xg,g2,hgt,hcl,p0,p1,p2,p3,hnl,hfl,hadd1,(show (nth c q.1).1.toNat < b.length + j3 by omega),(show (nth c q.1).1.toNat + 1 ≤ b.length + j3 by omega),(show makeD [D.int .i64 0] 1 = [D.int .i64 0] from rfl)]) ?_;simp [-zg,-zd,↓Qb,↓Qa,go_sem,Xg,g2,hgt,hcl,p0,p1,p2,p3,hnl,hfl,hadd1,(show (nth c q.1).1.toNat < b.length + j3 by omega),(show (nth c q.1).1.toNat + 1 ≤ b.length + j3 by omega),(show makeD [D.int .i64 0] 1 = [D.int .i64 0] from rfl)];try ((refine Qx (fun H1=>H1 b3 = some (cat oN (nxD b.length c (q.1 + 1)) ++ zrP j3 D.any)) (by first | (simp [upd,Xg,rn,zS rn,hadd3];done) | (simp [upd,Xg,hadd1];done)) fun H9 t3=>?_);(have fl:True ∧ True:=⟨trivial,trivial⟩))
 | (first | (rename True ∧ True=>k_;skip) | ((have hmem:(nth c q.1).2.2.2 ∈ (nth (nxD b.length c q.1) (nth c q.1).1.toNat):=(by assumption));(have hsame:nxD b.length c (q.1 + 1) = nxD b.length c q.1:=(by rw [zama c14,addD,if_pos hmem]));(refine Vu b3 (nth c q.1).1.toNat (b':=rb) (sz:=1) (m:=(nth (nxD b.length c q.1) (nth c q.1).1.toNat).length) (cp:=rcp) (all:=cells) (cs:=cat cI (nth (nxD b.length c q.1) (nth c q.1).1.toNat) ++ zrP rj D.any) g4 hgi2 (zS rn) hrb (by omega) (by simp [Qz]) (by simp [Qz];omega) ?_);(refine Qx (fun H1=>H1 b3 = some (cat oN (nxD b.length c (q.1 + 1)) ++ zrP j3 D.any)) (by dsimp only;rw [Qw,Nat.mul_one,Xt,hback,hsame]) fun H9 t3=>?_)));refine Qc (id:=4) Vq [] (by kernel_rfl) ?_;simp [-zg,-zd,↓Qb,↓Qa,go_sem,wrapS (k:=q.1) (by omega)]
 | ((obtain ⟨kx,Hx⟩:=q);(dsimp only at *);(obtain rfl:kx = c.length:=by omega);(have hnl:=Yj b.length c c.length (Nat.le_refl _));(refine Je 3 (b:=b3) (all:=cat oN (nxD b.length c c.length) ++ zrP j3 D.any) rfl g2 (by omega) (by rw [Vi];simp;omega) (by rw [Vi];simp;omega) ?_));refine Qc (id:=8) Vq [] (by kernel_rfl) ?_;simp [-zg,-zd,↓Qb,↓Qa,go_sem,hnl,Jt (f:=oN) (nxD b.length c c.length) (zrP j3 D.any) (n:=b.length) hnl.symm]
 | refine Qd (c:=.tmp 14) ?_;simp [-zg,-zd,↓Qb,↓Qa,go_sem];try first | (refine ⟨?_,?_⟩ <;> refine zA ?_) | (refine ⟨fun c14=>?_,fun c14=>?_⟩ <;> (try simp [B_iff,B_not] at c14))
 | refine Qd (c:=.tmp 30) ?_;simp [-zg,-zd,↓Qb,↓Qa,go_sem];try first | (refine ⟨?_,?_⟩ <;> refine zA ?_) | (refine ⟨fun c30=>?_,fun c30=>?_⟩ <;> (try simp [B_iff,B_not] at c30))
 | (refine Qe (id:=0) (Qy (ι:=Nat × Hp) (fun q:Nat × Hp=>⟨(upd (upd (upd (fun _=>.any) 1 (.pd [li cI a,li cB b,li cT c])) 3 (.sl b3 1 0 b.length c3)) 4 (.int .i64 q.1)),q.2⟩) (fun q=>q.1 ≤ c.length ∧ q.2 b3 = some (cat oN (nxD b.length c q.1) ++ zrP j3 D.any)) (fun q=>c.length - q.1) ((0,H1)) ?_ ?_ ?_);exact ⟨Nat.zero_le _,w3⟩;((repeat' (first | exact Qg (by assumption) | exact Qi | refine Qf ?_ ?_ | refine Qh ?_)) <;> simp [-zg,-zd,↓Qb,↓Qa,go_sem]);rintro q ⟨g1,g2⟩)
 | (refine ⟨(q.1 + 1,H9),⟨by dsimp only;omega,t3⟩,by first | omega | (simp;done) | (simp;omega),?_⟩;((repeat' (first | exact Qg (by assumption) | exact Qi | refine Qf ?_ ?_ | refine Qh ?_)) <;> simp [-zg,-zd,↓Qb,↓Qa,go_sem]))
 | (refine Qe ?_)
 | (refine Qs ?_;simp [-zg,-zd,↓Qb,↓Qa,go_sem])
 | (refine Qr ?_;simp [-zg,-zd,↓Qb,↓Qa,go_sem])
 | (refine Qu ?_;simp [-zg,-zd,↓Qb,↓Qa,go_sem,Try.results126])
 | (intro hx;refine zA ?_)
 | (refine ⟨?_,?_⟩ <;> refine zA ?_)
 | (intro hx;constructor <;> intro hs)
 | (constructor <;> intro hs)
 | (refine ⟨?_,fun hs=>?_⟩;refine zA ?_)
 | (refine ⟨fun hs=>?_,?_⟩;rotate_left;refine zA ?_;rotate_left)))
@[go_sem] def zaik:Con:=.pure fun
  | [.st [.list n_a c_a,.list n_b c_b,.list n_c c_c]]=>((Is cI n_a c_a) ∧ (Is cB n_b c_b) ∧ (Is cT n_c c_c) ∧ (InRng (de cB c_b).length (de cT c_c)) ∧ ((de cB c_b).length ≤ 1048576) ∧ ((de cT c_c).length ≤ 1048576),fr 1 oN (nxD (de cB c_b).length (de cT c_c) (de cT c_c).length))
  | _=>(False,.any)
theorem nextD_pureC_ok:ConOk Try.prog 126 zaik:=by
  refine ⟨Qp Try.func126 (by decide) rfl,fun args h=>?_⟩
  revert h
  dsimp only
  split
  · intro h
    obtain ⟨⟨a,rfl,rfl⟩,⟨b,rfl,rfl⟩,⟨c,rfl,rfl⟩,hr,hb,hc⟩:=h
    try simp only [Qm] at *
    exact ⟨nextD_pure a b c hr hb hc,by simp [go_sem]⟩
  · intro h
    exact h.elim
@[go_sem] def Γn4:FuncId → Con:=ext Γn3 126 zaik
theorem Zg:∀ g,ConOk Try.prog g (Γn4 g):=Qo Vq nextD_pureC_ok


theorem zadu (n:Nat) (ss:List Int):∀ k,k ≤ ss.length → Xr n ss k = smP (roots n (ss.take k))
  | 0,_=>by rw [zacg];simp [roots,smP]
  | k + 1,h=>by rw [← zach (by omega),zadu n ss k (by omega),zahh (by omega),smP_set _ _ (v:=-1) (by omega)]
theorem marksK_fresh {nx:List (List Int)} {ss:List Int} (hS:Starts nx.length ss) {k:Nat} (h:k < ss.length):nth (Xr nx.length ss k) (nth ss k).toNat = false:=by
  have hs:∀ x,x ∈ ss → Nd nx x:=hS.1
  have:=zakt hs k (by omega) (nth ss k) (hs _ (Xe h))
  cases hb:nth (Xr nx.length ss k) (nth ss k).toNat with
  | false=>rfl
  | true =>
    exfalso
    have hm:=this.1 hb
    rw [Vb] at hm
    obtain ⟨i,h1,h2⟩:=hm
    rw [List.length_take] at h1
    rw [Jz (by omega),Ql (by omega),Ql h] at h2
    have:=(List.nodup_iff_pairwise_ne.1 hS.2)
    rw [List.pairwise_iff_getElem] at this
    exact this i k (by omega) h (by omega) h2
structure QM5 (b5:Nat) (j5:List D) (x:SQ):Prop where
  m5:x.H b5 = some (cat cB (smP x.s.1) ++ j5)
  mq:x.H x.q = some (cat cI x.s.2 ++ zrP x.j .any)
  n5:¬ x.q = b5
  r1:x.s.2.length ≤ x.cp
  r2:x.cp ≤ x.s.2.length + x.j
set_option maxHeartbeats 2000000 in

theorem l7Reach_pure (nx:List (List Int)) (ss:List Int) (hx:Xc nx) (hl:NextS nx) (hn:nx.length ≤ 1048576) (hS:Starts nx.length ss) (hsl:ss.length ≤ nx.length):Pure Try.prog 127 [li cL nx,li cI ss] (fr 1 cI (bfsE nx ss).2):=by
  refine Pure.of_walk Try.func127 rfl (by simp [Try.f127]) (by simp [-zd,go_sem]) fun B hK=>?_
  (repeat' (first
 | refine Qt ?_
 | refine Qc (id:=0) Zg [] (by kernel_rfl) ?_;simp [-zg,-zd,↓Qb,↓Qa,go_sem]
 | refine Qc (id:=1) Zg [] (by kernel_rfl) ?_;simp [-zg,-zd,↓Qb,↓Qa,go_sem,Yk,(by omega:(nx.length:Int) ≤ 281474976710656),(by omega:(nx.length:Int) ≤ 9223372036854775807)]
 | refine Qc (id:=2) Zg [] (by kernel_rfl) ?_;simp [-zg,-zd,↓Qb,↓Qa,go_sem]
 | refine Qc (id:=3) Zg [] (by kernel_rfl) ?_;simp [-zg,-zd,↓Qb,↓Qa,go_sem];try ((refine Xk 5 rfl fun b5 c5 j5 q5 hc5 hj5=>?_);(clear q5);(refine Qx (fun H1=>H1 b5 = some (cat cB (Xr nx.length ss 0) ++ zrP j5 D.any)) (by simp [upd,zacg]) fun H1 w5=>?_))
 | refine Qc (id:=4) Zg [] (by kernel_rfl) ?_;simp [-zg,-zd,↓Qb,↓Qa,go_sem]
 | ((obtain ⟨p0,p1⟩:=hS.1 (nth ss q.1) (Xe c18));(have hml:=zacr nx.length ss q.1);(have hst:=zach (n:=nx.length) c18);(have hfr:=marksK_fresh hS c18);(have hts:=zalg c18));refine Qc (id:=6) Zg [] (by kernel_rfl) ?_;simp [-zg,-zd,↓Qb,↓Qa,go_sem,c18,Qj c18,zsP c18,g2,hml,p0,p1,hfr,(show (nth ss q.1).toNat < nx.length by omega),(show (nth ss q.1).toNat < nx.length + j5 by omega),(show (nth ss q.1).toNat + 1 ≤ nx.length + j5 by omega)]
 | refine Qc (id:=7) Zg [] (by kernel_rfl) ?_;simp [-zg,-zd,↓Qb,↓Qa,go_sem,c18,Qj c18,zsP c18,g2,hml,p0,p1,(show (nth ss q.1).toNat < nx.length by omega),(show (nth ss q.1).toNat < nx.length + j5 by omega),(show (nth ss q.1).toNat + 1 ≤ nx.length + j5 by omega)];try ((refine Qx (fun H1=>H1 b5 = some (cat cB (Xr nx.length ss (q.1 + 1)) ++ zrP j5 D.any)) (by simp [upd,hst]) fun H9 t5=>?_))
 | refine Qc (id:=8) Zg [] (by kernel_rfl) ?_;simp [-zg,-zd,↓Qb,↓Qa,go_sem,c18,Qj c18,zsP c18,hts,(show q.1 ≤ 9223372036854775806 by omega),(show 2 * (q.1 + 1) * 8 ≤ 281474976710656 by omega),(show q.1 + 1 ≤ 9223372036854775807 by omega)]
 | refine Qc (id:=5) Zg [] (by kernel_rfl) ?_;simp [-zg,-zd,↓Qb,↓Qa,go_sem,wrapS (k:=q.1) (by omega)]
 | ((obtain ⟨kx,H2⟩:=q);(dsimp only at *);(obtain rfl:kx = ss.length:=by omega));refine Qc (id:=9) Zg [] (by kernel_rfl) ?_;simp [-zg,-zd,↓Qb,↓Qa,go_sem];try ((refine Xk 6 rfl fun q cq jq hq hcq hdq=>?_);(dsimp only at hq);(have n5:¬ q = b5:=(by rintro rfl;rw [g2] at hq;cases hq));(clear hq);(have hmr:=zadu nx.length ss ss.length (Nat.le_refl _));(rw [List.take_length] at hmr);(refine Qx (fun H1=>QM5 b5 (zrP j5 D.any) ⟨0,bfs0 nx.length ss,q,cq,jq,H1⟩) ⟨by simp [upd,n5,zS n5,bfs0,g2,hmr],by simp [upd,bfs0],n5,by simpa [bfs0] using hcq,by simpa [bfs0] using hdq⟩ fun H3 hH1=>?_))
 | refine Qc (id:=10) Zg [] (by kernel_rfl) ?_;simp [-zg,-zd,↓Qb,↓Qa,go_sem]
 | refine Qc (id:=12) Zg [] (by kernel_rfl) ?_;simp [-zg,-zd,↓Qb,↓Qa,go_sem];try ((have hu:=hB.rng x.k c45);(have hxu:=hx (nth x.s.2 x.k).toNat (by omega));(have hul:(nth x.s.2 x.k).toNat < nx.length:=(by omega));(have hls:=hl _ hul))
 | (have m5:=e3.m5;have mq:=e3.mq;have n5:=e3.n5;have r1:=e3.r1;have r2:=e3.r2);refine Qc (id:=13) Zg [] (by kernel_rfl) ?_;simp [-zg,-zd,↓Qb,↓Qa,go_sem,e6,Qj e6,zsP e6,mq,e5,hu.1,hu.2,hul,Qj hul,zsP hul,(show x.k < y.s.2.length + y.j by omega),(show x.k + 1 ≤ y.s.2.length + y.j by omega)]
 | ((generalize hv:nth (nth nx (nth x.s.2 x.k).toNat) y.k = v at *);have hvr:=hxu y.k c57;(rw [hv] at hvr);have hvn:v.toNat < nx.length:=(by omega));refine Qc (id:=15) Zg [] (by kernel_rfl) ?_;simp [-zg,-zd,↓Qb,↓Qa,go_sem,e6,Qj e6,zsP e6,mq,e5,hu.1,hu.2,hul,Qj hul,zsP hul,c57,Qj c57,zsP c57,hv,(show x.k < y.s.2.length + y.j by omega),(show x.k + 1 ≤ y.s.2.length + y.j by omega)]
 | refine Qc (id:=16) Zg [] (by kernel_rfl) ?_;simp [-zg,-zd,↓Qb,↓Qa,go_sem,m5,hvr.1,hvr.2,hvn,e7,nth_smP (P:=y.s.1) (k:=v.toNat) (by omega),(show v.toNat < nx.length + j5 by omega),(show v.toNat + 1 ≤ nx.length + j5 by omega)]
 | refine Qc (id:=17) Zg [] (by kernel_rfl) ?_;simp [-zg,-zd,↓Qb,↓Qa,go_sem,m5,hvr.1,hvr.2,hvn,e7,(show v.toNat < nx.length + j5 by omega),(show v.toNat + 1 ≤ nx.length + j5 by omega)]
 | refine Qc (id:=18) Zg [] (by kernel_rfl) ?_;simp [-zg,-zd,↓Qb,↓Qa,go_sem,mq,n5,zS n5,Xv,(show y.s.2.length ≤ y.s.2.length + y.j by omega),r2,(show y.s.2.length + 1 ≤ 9223372036854775807 by omega),(show 2 * (y.s.2.length + 1) * 8 ≤ 281474976710656 by omega),Xt];try ((refine Xk 6 rfl fun q' cp' jj' hq' hc' hd'=>?_);(dsimp only at hq');(have k5:¬ q' = b5:=(by rintro rfl;simp [upd,n5,zS n5] at hq'));(refine Qx (fun H2=>QM5 b5 (zrP j5 D.any) ⟨y.k + 1,((y.s.1.set v.toNat (nth x.s.2 x.k),y.s.2 ++ [v]):PQ),q',cp',jj',H2⟩) ⟨by simp [upd,k5,zS k5,n5,zS n5,smP_set y.s.1 v.toNat (show ¬ nth x.s.2 x.k = -2 by omega)],by simp [upd,k5,zS k5,n5,zS n5],k5,by simpa using hc',by simpa using hd'⟩ fun H2 hH2=>?_))
 | refine Qc (id:=14) Zg [] (by kernel_rfl) ?_;simp [-zg,-zd,↓Qb,↓Qa,go_sem,wrapS (k:=y.k) (by omega)]
 | refine Qc (id:=11) Zg [] (by kernel_rfl) ?_;simp [-zg,-zd,↓Qb,↓Qa,go_sem,wrapS (k:=x.k) (by omega)]
 | ((obtain ⟨kx,sx,qx,cx,jx,Hx⟩:=x);(try dsimp only at *);(have hE:sx = bfsE nx ss:=(by rw [g2];exact zagy (by rw [← g2];omega) (by omega)));(subst hE);have mq:=g3.mq;have r1:=g3.r1;have r2:=g3.r2;(try dsimp only at *);(refine Je 6 (b:=qx) (all:=cat cI (bfsE nx ss).2 ++ zrP jx D.any) rfl mq (by omega) (by simp [Qz]) (by simp [Qz];omega) ?_));refine Qc (id:=19) Zg [] (by kernel_rfl) ?_;simp [-zg,-zd,↓Qb,↓Qa,go_sem,Xt]
 | refine Qd (c:=.tmp 18) ?_;simp [-zg,-zd,↓Qb,↓Qa,go_sem];try first | (refine ⟨?_,?_⟩ <;> refine zA ?_) | (refine ⟨fun c18=>?_,fun c18=>?_⟩ <;> (try simp [B_iff,B_not] at c18))
 | refine Qd (c:=.tmp 28) ?_;simp [-zg,-zd,↓Qb,↓Qa,go_sem];try first | (refine ⟨?_,?_⟩ <;> refine zA ?_) | (refine ⟨fun c28=>?_,fun c28=>?_⟩ <;> (try simp [B_iff,B_not] at c28))
 | refine Qd (c:=.tmp 45) ?_;simp [-zg,-zd,↓Qb,↓Qa,go_sem];try first | (refine ⟨?_,?_⟩ <;> refine zA ?_) | (refine ⟨fun c45=>?_,fun c45=>?_⟩ <;> (try simp [B_iff,B_not] at c45))
 | refine Qd (c:=.tmp 57) ?_;simp [-zg,-zd,↓Qb,↓Qa,go_sem];try first | (refine ⟨?_,?_⟩ <;> refine zA ?_) | (refine ⟨fun c57=>?_,fun c57=>?_⟩ <;> (try simp [B_iff,B_not] at c57))
 | refine Qd (c:=.tmp 74) ?_;simp [-zg,-zd,↓Qb,↓Qa,go_sem];try first | (refine ⟨?_,?_⟩ <;> refine zA ?_) | (refine ⟨fun c74=>?_,fun c74=>?_⟩ <;> (try simp [B_iff,B_not] at c74))
 | (refine Qe (id:=0) (Qy (ι:=Nat × Hp) (fun q:Nat × Hp=>⟨(upd (upd (upd (upd (upd (fun _=>.any) 0 (li cL nx)) 1 (li cI ss)) 5 (.sl b5 1 0 nx.length c5)) 6 (.fr 1 q.1 (cat cI (ss.take q.1)))) 7 (.int .i64 q.1)),q.2⟩) (fun q=>q.1 ≤ ss.length ∧ q.2 b5 = some (cat cB (Xr nx.length ss q.1) ++ zrP j5 D.any)) (fun q=>ss.length - q.1) ((0,H1)) ?_ ?_ ?_);exact ⟨Nat.zero_le _,w5⟩;((repeat' (first | exact Qg (by assumption) | exact Qi | refine Qf ?_ ?_ | refine Qh ?_)) <;> simp [-zg,-zd,↓Qb,↓Qa,go_sem,List.take_zero,Xs]);rintro q ⟨g1,g2⟩)
 | (refine ⟨(q.1 + 1,H9),⟨by dsimp only;omega,t5⟩,by first | omega | (simp;done) | (simp;omega),?_⟩;((repeat' (first | exact Qg (by assumption) | exact Qi | refine Qf ?_ ?_ | refine Qh ?_)) <;> simp [-zg,-zd,↓Qb,↓Qa,go_sem,]))
 | (refine Qe (id:=2) (Qy (ι:=SQ) (fun x:SQ=>⟨(upd (upd (upd (upd (upd (fun _=>.any) 0 (li cL nx)) 1 (li cI ss)) 5 (.sl b5 1 0 nx.length c5)) 6 (.sl x.q 1 0 x.s.2.length x.cp)) 8 (.int .i64 x.k)),x.H⟩) (fun x=>x.k ≤ x.s.2.length ∧ x.s = bfs nx x.k (bfs0 nx.length ss) ∧ QM5 b5 (zrP j5 D.any) x) (fun x=>nx.length - x.k) (⟨0,bfs0 nx.length ss,q,cq,jq,H3⟩) ?_ ?_ ?_);exact ⟨Nat.zero_le _,rfl,hH1⟩;((repeat' (first | exact Qg (by assumption) | exact Qi | refine Qf ?_ ?_ | refine Qh ?_)) <;> simp [-zg,-zd,↓Qb,↓Qa,go_sem,bfs0,List.take_length]);rintro x ⟨g1,g2,g3⟩;have hB:=(Up hx (Bf.start hS) x.k).1;(rw [← g2] at hB);have hle:=hB.le)
 | (refine ⟨⟨x.k + 1,y.s,y.q,y.cp,y.j,y.H⟩,⟨by dsimp only;omega,by dsimp only;(have qe:y.k = (nth nx (nth x.s.2 x.k).toNat).length:=by omega);rw [qe,List.take_length] at e2;rw [e2,Yd (by rw [← g2];exact c45),← g2],⟨e3.m5,e3.mq,e3.n5,e3.r1,e3.r2⟩⟩,by first | omega | (simp;done) | (simp;omega),?_⟩;((repeat' (first | exact Qg (by assumption) | exact Qi | refine Qf ?_ ?_ | refine Qh ?_)) <;> simp [-zg,-zd,↓Qb,↓Qa,go_sem,]))
 | (refine Qe (id:=4) (Qy (ι:=SQ) (fun y:SQ=>⟨(upd (upd (upd (upd (upd (upd (fun _=>.any) 0 (li cL nx)) 1 (li cI ss)) 5 (.sl b5 1 0 nx.length c5)) 6 (.sl y.q 1 0 y.s.2.length y.cp)) 8 (.int .i64 x.k)) 9 (.int .i64 y.k)),y.H⟩) (fun y=>y.k ≤ (nth nx (nth x.s.2 x.k).toNat).length ∧ y.s = meets (nth x.s.2 x.k) ((nth nx (nth x.s.2 x.k).toNat).take y.k) x.s ∧ QM5 b5 (zrP j5 D.any) y) (fun y=>(nth nx (nth x.s.2 x.k).toNat).length - y.k) (⟨0,x.s,x.q,x.cp,x.j,x.H⟩) ?_ ?_ ?_);exact ⟨Nat.zero_le _,by simp [meets],⟨g3.m5,g3.mq,g3.n5,g3.r1,g3.r2⟩⟩;((repeat' (first | exact Qg (by assumption) | exact Qi | refine Qf ?_ ?_ | refine Qh ?_)) <;> simp [-zg,-zd,↓Qb,↓Qa,go_sem]);rintro y ⟨e1,e2,e3⟩;(obtain ⟨hC,hL⟩:=Yc hB c45 hxu y.k e1);(rw [← e2] at hC hL);have hl2:=hL.le;have e5:=hL.nth c45;have e6:x.k < y.s.2.length:=(by omega);have hle2:=hC.le;have e7:=hC.len)
 | (refine ⟨⟨y.k + 1,((y.s.1.set v.toNat (nth x.s.2 x.k),y.s.2 ++ [v]):PQ),q',cp',jj',H2⟩,⟨by dsimp only;omega,by dsimp only;rw [Uv _ c57,← e2,hv,meet1,if_pos (by assumption)],hH2⟩,by first | omega | (simp;done) | (simp;omega),?_⟩;((repeat' (first | exact Qg (by assumption) | exact Qi | refine Qf ?_ ?_ | refine Qh ?_)) <;> simp [-zg,-zd,↓Qb,↓Qa,go_sem]))
 | (refine Qe ?_)
 | (refine Qs ?_;simp [-zg,-zd,↓Qb,↓Qa,go_sem])
 | (refine Qr ?_;simp [-zg,-zd,↓Qb,↓Qa,go_sem])
 | (refine Qu ?_;simp [-zg,-zd,↓Qb,↓Qa,go_sem,Try.results127])
 | (intro hx;refine zA ?_)
 | (refine ⟨?_,?_⟩ <;> refine zA ?_)
 | (intro hx;constructor <;> intro hs)
 | (constructor <;> intro hs)
 | (refine ⟨?_,fun hs=>?_⟩;refine zA ?_)
 | (refine ⟨fun hs=>?_,?_⟩;rotate_left;refine zA ?_;rotate_left)
 | (refine ⟨⟨y.k + 1,y.s,y.q,y.cp,y.j,y.H⟩,⟨by dsimp only;omega,by dsimp only;rw [Uv _ c57,← e2,hv,meet1,if_neg (by assumption)],⟨e3.m5,e3.mq,e3.n5,e3.r1,e3.r2⟩⟩,by dsimp only;omega,?_⟩;((repeat' (first | exact Qg (by assumption) | exact Qi | refine Qf ?_ ?_ | refine Qh ?_)) <;> simp [-zg,-zd,go_sem]))))
@[go_sem] def zaer:Con:=.pure fun
  | [.list n_nx c_nx,.list n_ss c_ss]=>((Is cL n_nx c_nx) ∧ (Is cI n_ss c_ss) ∧ (Xc (de cL c_nx)) ∧ (NextS (de cL c_nx)) ∧ ((de cL c_nx).length ≤ 1048576) ∧ (Starts (de cL c_nx).length (de cI c_ss)) ∧ ((de cI c_ss).length ≤ (de cL c_nx).length),fr 1 cI (bfsE (de cL c_nx) (de cI c_ss)).2)
  | _=>(False,.any)
theorem zamm:ConOk Try.prog 127 zaer:=by
  refine ⟨Qp Try.func127 (by decide) rfl,fun args h=>?_⟩
  revert h
  dsimp only
  split
  · intro h
    obtain ⟨⟨nx,rfl,rfl⟩,⟨ss,rfl,rfl⟩,hx,hl,hn,hS,hsl⟩:=h
    try simp only [Qm] at *
    exact ⟨l7Reach_pure nx ss hx hl hn hS hsl,by simp [go_sem]⟩
  · intro h
    exact h.elim
@[go_sem] def Γn5:FuncId → Con:=ext Γn4 127 zaer
theorem Zp:∀ g,ConOk Try.prog g (Γn5 g):=Qo Zg zamm


structure LQ where
  i:Nat
  m:List Bool
  q:List Int
  b:Nat
  cp:Nat
  j:Nat
  H:Hp
structure LQm (b6 j6:Nat) (x:LQ):Prop where
  m6:x.H b6 = some (cat cB x.m ++ zrP j6 .any)
  mb:x.H x.b = some (cat cI x.q ++ zrP x.j .any)
  nb:¬ x.b = b6
  r1:x.q.length ≤ x.cp
  r2:x.cp ≤ x.q.length + x.j
set_option maxHeartbeats 2000000 in

theorem l7Loop_pure (nx:List (List Int)) (a:Int) (hx:Xc nx) (hl:NextS nx) (hn:nx.length ≤ 1048576) (h0:0 ≤ a) (h1:a < nx.length):Pure Try.prog 128 [li cL nx,.int .i64 a] (.bool (B (Cyc nx a))):=by
  refine Pure.of_walk Try.func128 rfl (by simp [Try.f128]) (by simp [-zd,go_sem]) fun B hK=>?_
  have hal:a.toNat < nx.length:=(by omega);have hrl:=hl a.toNat hal;have hnd:Nd nx a:=⟨h0,h1⟩
  all_goals (repeat' (first
 | refine Qt ?_
 | refine Qc (id:=0) Zp [] (by kernel_rfl) ?_;simp [-zg,-zd,↓Qb,↓Qa,go_sem]
 | refine Qc (id:=1) Zp [] (by kernel_rfl) ?_;simp [-zg,-zd,↓Qb,↓Qa,go_sem]
 | refine Qc (id:=2) Zp [] (by kernel_rfl) ?_;simp [-zg,-zd,↓Qb,↓Qa,go_sem,h0,h1,hal,Qj hal,zsP hal]
 | refine Qc (id:=4) Zp [] (by kernel_rfl) ?_;simp [-zg,-zd,↓Qb,↓Qa,go_sem,h0,h1,hal,Qj hal,zsP hal,c16,Qj c16,zsP c16]
 | refine Qc (id:=5) Zp [] (by kernel_rfl) ?_;simp [-zg,-zd,↓Qb,↓Qa,go_sem]
 | refine Qc (id:=3) Zp [] (by kernel_rfl) ?_;simp [-zg,-zd,↓Qb,↓Qa,go_sem,wrapS (k:=k) (by omega)]
 | refine Qc (id:=6) Zp [] (by kernel_rfl) ?_;simp [-zg,-zd,↓Qb,↓Qa,go_sem,Yk,(by omega:(nx.length:Int) ≤ 281474976710656),(by omega:(nx.length:Int) ≤ 9223372036854775807)]
 | refine Qc (id:=7) Zp [] (by kernel_rfl) ?_;simp [-zg,-zd,↓Qb,↓Qa,go_sem,h0,h1,hal,Qj hal,zsP hal,(show (nth nx a.toNat).length ≤ 9223372036854775807 by omega),(show 2 * (nth nx a.toNat).length * 8 ≤ 281474976710656 by omega)]
 | refine Qc (id:=8) Zp [] (by kernel_rfl) ?_;simp [-zg,-zd,↓Qb,↓Qa,go_sem];try ((refine Xk 6 rfl fun b6 c6 j6 q6 hc6 hj6=>?_);(refine Xk 7 rfl fun q cq jq hq hcq hdq=>?_);(dsimp only at hq);(have nq:¬ q = b6:=(by rintro rfl;simp [upd] at hq));(clear q6 hq);(refine Qx (fun H1=>LQm b6 j6 ⟨0,zrP nx.length false,nth nx a.toNat,q,cq,jq,H1⟩) ⟨by simp [upd,nq,zS nq],by simp [upd,nq,zS nq],nq,hcq,by simpa using hdq⟩ fun H1 hH=>?_))
 | refine Qc (id:=9) Zp [] (by kernel_rfl) ?_;simp [-zg,-zd,↓Qb,↓Qa,go_sem]
 | ((have m6:=g3.m6);(have mb:=g3.mb);(have nb:=g3.nb);(have r1:=g3.r1);(have r2:=g3.r2);(have hbd:=g2.bd);(have hun:=un_le x.m);(have hml:=g2.ln));refine Qc (id:=11) Zp [] (by kernel_rfl) ?_;simp [-zg,-zd,↓Qb,↓Qa,go_sem,mb,c40,Qj c40,zsP c40,(show x.i < x.q.length + x.j by omega),(show x.i + 1 ≤ x.q.length + x.j by omega)];try ((have hvn:=(g2.rq _ (Xe c40)).1);(have hfound:=fun e=>g2.found c40 e);(have hskip:=fun e hm=>g2.skip c40 e hm);(have hstep:=fun e hm=>g2.step hx hl c40 e hm);(have hdec:=fun k hk hm l hl2=>lms_step (nx:=nx) (R:=1048576) (i:=x.i) (m:=x.m) (q:=x.q) (l:=l) c40 (k:=k) hk hm hl2);(obtain ⟨v,hv⟩:∃ v,nth x.q x.i = v:=⟨_,rfl⟩);(rw [hv] at hvn hfound hskip hstep ⊢);(obtain ⟨v0,v1⟩:=id hvn);(have hvl:v.toNat < nx.length:=(by omega));(have hrv:=hl v.toNat hvl))
 | refine Qc (id:=12) Zp [] (by kernel_rfl) ?_;simp [-zg,-zd,↓Qb,↓Qa,go_sem]
 | refine Qc (id:=13) Zp [] (by kernel_rfl) ?_;simp [-zg,-zd,↓Qb,↓Qa,go_sem]
 | refine Qc (id:=14) Zp [] (by kernel_rfl) ?_;simp [-zg,-zd,↓Qb,↓Qa,go_sem,m6,hml,v0,v1,hvl,(show v.toNat < nx.length + j6 by omega),(show v.toNat + 1 ≤ nx.length + j6 by omega)]
 | refine Qc (id:=15) Zp [] (by kernel_rfl) ?_;simp [-zg,-zd,↓Qb,↓Qa,go_sem,m6,hml,v0,v1,hvl,(show v.toNat < nx.length + j6 by omega),(show v.toNat + 1 ≤ nx.length + j6 by omega)]
 | refine Qc (id:=16) Zp [] (by kernel_rfl) ?_;simp [-zg,-zd,↓Qb,↓Qa,go_sem,mb,nb,zS nb,v0,v1,hvl,Qj hvl,zsP hvl,(Jk (f:=cI) x.q (nth nx v.toNat)).symm,(show x.q.length ≤ x.q.length + x.j by omega),r2,(show x.q.length + (nth nx v.toNat).length ≤ 9223372036854775807 by omega),(show x.q.length ≤ 9223372036854775807 by omega),(show (nth nx v.toNat).length ≤ 9223372036854775807 by omega),(show 2 * (x.q.length + (nth nx v.toNat).length) * 8 ≤ 281474976710656 by omega),Xt];try ((refine Xk 7 rfl fun q' cp' jj' hq' hc' hd'=>?_);(dsimp only at hq');(have k6:¬ q' = b6:=(by rintro rfl;simp [upd,nb,zS nb] at hq'));(refine Qx (fun H2=>LQm b6 j6 ⟨x.i + 1,x.m.set v.toNat true,x.q ++ nth nx v.toNat,q',cp',jj',H2⟩) ⟨by simp [upd,k6,zS k6,nb,zS nb],by simp [upd,k6,zS k6,nb,zS nb],k6,by simpa using hc',by simpa using hd'⟩ fun H2 hH2=>?_);(have hfal:nth x.m v.toNat = false:=(by assumption));(have hst:=hstep (by assumption) hfal);(have hlt:=hdec v.toNat (by rw [hml];exact hvl) hfal _ hrv))
 | refine Qc (id:=10) Zp [] (by kernel_rfl) ?_;simp [-zg,-zd,↓Qb,↓Qa,go_sem,wrapS (k:=x.i) (by omega)]
 | refine Qc (id:=17) Zp [] (by kernel_rfl) ?_;simp [-zg,-zd,↓Qb,↓Qa,go_sem]
 | refine Qd (c:=.tmp 16) ?_;simp [-zg,-zd,↓Qb,↓Qa,go_sem];try first | (refine ⟨?_,?_⟩ <;> refine zA ?_) | (refine ⟨fun c16=>?_,fun c16=>?_⟩ <;> (try simp [B_iff,B_not] at c16))
 | refine Qd (c:=.tmp 27) ?_;simp [-zg,-zd,↓Qb,↓Qa,go_sem];try first | (refine ⟨?_,?_⟩ <;> refine zA ?_) | (refine ⟨fun c27=>?_,fun c27=>?_⟩ <;> (try simp [B_iff,B_not] at c27))
 | refine Qd (c:=.tmp 40) ?_;simp [-zg,-zd,↓Qb,↓Qa,go_sem];try first | (refine ⟨?_,?_⟩ <;> refine zA ?_) | (refine ⟨fun c40=>?_,fun c40=>?_⟩ <;> (try simp [B_iff,B_not] at c40))
 | refine Qd (c:=.tmp 49) ?_;simp [-zg,-zd,↓Qb,↓Qa,go_sem];try first | (refine ⟨?_,?_⟩ <;> refine zA ?_) | (refine ⟨fun c49=>?_,fun c49=>?_⟩ <;> (try simp [B_iff,B_not] at c49))
 | refine Qd (c:=.tmp 54) ?_;simp [-zg,-zd,↓Qb,↓Qa,go_sem];try first | (refine ⟨?_,?_⟩ <;> refine zA ?_) | (refine ⟨fun c54=>?_,fun c54=>?_⟩ <;> (try simp [B_iff,B_not] at c54))
 | (refine Qe (id:=0) (Qy (ι:=Nat) (fun k:Nat=>⟨(upd (upd (upd (fun _=>.any) 0 (li cL nx)) 1 (.int .i64 a)) 5 (.int .i64 k)),fun _=>none⟩) (fun k=>k ≤ (nth nx a.toNat).length ∧ AllTill (fun i=>¬ nth (nth nx a.toNat) i = a) k) (fun k=>(nth nx a.toNat).length - k) (0) ?_ ?_ ?_);exact ⟨Nat.zero_le _,.zero _⟩;((repeat' (first | exact Qg (by assumption) | exact Qi | refine Qf ?_ ?_ | refine Qh ?_)) <;> simp [-zg,-zd,↓Qb,↓Qa,go_sem]);rintro k ⟨hk,ht⟩)
 | (refine ⟨k + 1,⟨by omega,ht.succ c27⟩,by first | omega | (simp;done) | (simp;omega),?_⟩;((repeat' (first | exact Qg (by assumption) | exact Qi | refine Qf ?_ ?_ | refine Qh ?_)) <;> simp [-zg,-zd,↓Qb,↓Qa,go_sem]))
 | (refine Qe (id:=2) (Qy (ι:=LQ) (fun x:LQ=>⟨(upd (upd (upd (upd (upd (fun _=>.any) 0 (li cL nx)) 1 (.int .i64 a)) 6 (.sl b6 1 0 nx.length c6)) 7 (.sl x.b 1 0 x.q.length x.cp)) 8 (.int .i64 x.i)),x.H⟩) (fun x=>x.i ≤ x.q.length ∧ LI nx a 1048576 x.i x.m x.q ∧ LQm b6 j6 x) (fun x=>lms 1048576 x.i x.m x.q) (⟨0,zrP nx.length false,nth nx a.toNat,q,cq,jq,H1⟩) ?_ ?_ ?_);exact ⟨Nat.zero_le _,LI.start hx hnd hl,hH⟩;((repeat' (first | exact Qg (by assumption) | exact Qi | refine Qf ?_ ?_ | refine Qh ?_)) <;> simp [-zg,-zd,↓Qb,↓Qa,go_sem]);rintro x ⟨g1,g2,g3⟩)
 | (refine ⟨⟨x.i + 1,x.m.set v.toNat true,x.q ++ nth nx v.toNat,q',cp',jj',H2⟩,⟨by simp;omega,hst,hH2⟩,by first | omega | (simp;done) | (simp;omega),?_⟩;((repeat' (first | exact Qg (by assumption) | exact Qi | refine Qf ?_ ?_ | refine Qh ?_)) <;> simp [-zg,-zd,↓Qb,↓Qa,go_sem]))
 | (refine Qe ?_)
 | (refine Qs ?_;simp [-zg,-zd,↓Qb,↓Qa,go_sem])
 | (refine Qr ?_;simp [-zg,-zd,↓Qb,↓Qa,go_sem])
 | (refine Qu ?_;simp [-zg,-zd,↓Qb,↓Qa,go_sem,Try.results128])
 | (intro hx;refine zA ?_)
 | (refine ⟨?_,?_⟩ <;> refine zA ?_)
 | (intro hx;constructor <;> intro hs)
 | (constructor <;> intro hs)
 | (refine ⟨?_,fun hs=>?_⟩;refine zA ?_)
 | (refine ⟨fun hs=>?_,?_⟩;rotate_left;refine zA ?_;rotate_left)
 | (refine ⟨⟨x.i + 1,x.m,x.q,x.b,x.cp,x.j,x.H⟩,⟨by dsimp only;omega,hskip (by assumption) (mkd_nth (by simp_all)),⟨g3.m6,g3.mb,g3.nb,g3.r1,g3.r2⟩⟩,lms_skip c40,?_⟩;((repeat' (first | exact Qg (by assumption) | exact Qi | refine Qf ?_ ?_ | refine Qh ?_)) <;> simp [-zg,-zd,go_sem]))))
  all_goals (first
 | (refine B_yes ?_;exact ⟨a,by rw [Vb];exact ⟨k,c16,by assumption⟩,.refl a⟩)
 | (exact B_yes (hfound (by assumption)))
 | (exact B_no (g2.done hx hnd (by omega)))
 | (rw [Vb];exact ⟨k,c16,by assumption⟩)
 | (exact ⟨a,by rw [Vb];exact ⟨k,c16,by assumption⟩,.refl a⟩)
 | (exact hfound (by assumption))
 | (exact g2.done hx hnd (by omega))
 | skip)
@[go_sem] def zagi:Con:=.pure fun
  | [.list n_nx c_nx,.int .i64 a]=>((Is cL n_nx c_nx) ∧ (Xc (de cL c_nx)) ∧ (NextS (de cL c_nx)) ∧ ((de cL c_nx).length ≤ 1048576) ∧ (0 ≤ a) ∧ (a < (de cL c_nx).length),.bool (B (Cyc (de cL c_nx) a)))
  | _=>(False,.any)
theorem zaok:ConOk Try.prog 128 zagi:=by
  refine ⟨Qp Try.func128 (by decide) rfl,fun args h=>?_⟩
  revert h
  dsimp only
  split
  · intro h
    obtain ⟨⟨nx,rfl,rfl⟩,hx,hl,hn,h0,h1⟩:=h
    try simp only [Qm] at *
    exact ⟨l7Loop_pure nx _ hx hl hn h0 h1,by simp [go_sem]⟩
  · intro h
    exact h.elim
@[go_sem] def Γn6:FuncId → Con:=ext Γn5 128 zagi
theorem Jq:∀ g,ConOk Try.prog g (Γn6 g):=Qo Zp zaok

end
end Go.Proofs.Ytkjimmkemnmajaa.Vm

