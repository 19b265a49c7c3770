/-
  spec.ParseAutomaton. No conditions.
-/
import Derived.Test.YtiilmjojffjhlaaGreatDoorKPN3
namespace Go.Proofs.YtiilmjojffjhlaaGreatDoor.Vm
open Go
open Nat renaming sub_pos_of_lt → zsP
open List renaming getD_eq_getElem?_getD → zg,drop_one → zd,replicate → zrP
open Ne renaming symm → zS
set_option linter.unusedVariables false
set_option linter.unusedSimpArgs false
set_option maxRecDepth 200000

theorem line_len (c:UInt8) (s:List UInt8) (i:Nat) (hl:s.length ≤ 1048576):(nth (pcs c s []) i).length ≤ 1048576:=by
  by_cases h:i < (pcs c s []).length
  · rw [nth_lt h]
    have:=zadp c s [] _ (List.getElem_mem h)
    simp at this;omega
  · have:nth (pcs c s []) i = []:=by unfold nth;rw [List.getD_eq_getElem?_getD,List.getElem?_eq_none (by omega)];rfl
    rw [this];simp
theorem badE_no {s:List UInt8} {k:Nat} (h:badE s k = false):((numsL (nth (pcs 10 s []) (k + 3))).length:Int) = 4:=by
  simp only [badE,Bool.not_eq_false',decide_eq_true_eq] at h
  omega
def mSt (s:List UInt8) (k:Nat):List Bool:=markS (zrP (nth (numsL (nth (pcs 10 s []) 0)) 0).toNat false) (numsL (nth (pcs 10 s []) 2)) k
theorem zaft (s:List UInt8):(mkS2 s).length = (nth (numsL (nth (pcs 10 s []) 0)) 0).toNat:=by rw [mkS2,markS_len,List.length_replicate]
theorem mSt_len (s:List UInt8) (k:Nat):(mSt s k).length = (mkS2 s).length:=by rw [mSt,markS_len,List.length_replicate,zaft]
theorem mSt_zero (s:List UInt8):mSt s 0 = zrP (mkS2 s).length false:=by rw [zaft];rfl
theorem mSt_yes {s:List UInt8} {k:Nat} (h:0 ≤ nth (numsL (nth (pcs 10 s []) 2)) k ∧ nth (numsL (nth (pcs 10 s []) 2)) k < (mkS2 s).length):mSt s (k + 1) = (mSt s k).set (nth (numsL (nth (pcs 10 s []) 2)) k).toNat true:=by
  rw [zaft] at h
  unfold mSt
  rw [markS,if_pos (by rw [List.length_replicate];exact h)];rfl
theorem mSt_no {s:List UInt8} {k:Nat} (h:¬ (0 ≤ nth (numsL (nth (pcs 10 s []) 2)) k ∧ nth (numsL (nth (pcs 10 s []) 2)) k < (mkS2 s).length)):mSt s (k + 1) = mSt s k:=by
  rw [zaft] at h
  unfold mSt
  rw [markS,if_neg (by rw [List.length_replicate];exact h)]
theorem snoc_T (xs:List Tr4) (l:List UInt8):cat cT xs ++ [.int .i64 (nth (numsL l) 0),.int .i64 (nth (numsL l) 1),.int .i64 (nth (numsL l) 2),.int .i64 (nth (numsL l) 3)] = cat cT (xs ++ [edgeS l]):=by
  rw [Jg,Ve];rfl

set_option maxHeartbeats 4000000 in

theorem specPA_pure (s:List UInt8) (hl:s.length ≤ 1048576):Pure Tryz.prog 6 [.str s] (dA (ansS s)):=by
  refine Pure.of_walk Tryz.func6 rfl (by simp [Tryz.f6]) (by simp [-zd,go_sem]) fun B hK=>?_
  have hpl:=Jw 10 s [];have hpc:=fun i=>line_len 10 s i hl;have hml:=zaft s;have hn2:=numsL_len (nth (pcs 10 s []) 2);rcases specA_cases s with ⟨h1,h2,h3,h4,h5,h6,hD⟩ | ⟨h1,h2,h3,h4,h5,h6,hD⟩ | ⟨h1,h2,h3,h4,h5,h6,hD⟩ | ⟨h1,h2,h3,h4,h5,h6,hD⟩ | ⟨h1,h2,h3,h4,h5,h6,hD⟩ | ⟨h1,h2,h3,h4,h5,h6,hD⟩ | ⟨h1,h2,h3,h4,h5,h6,hD⟩ <;> rw [hD] <;> simp only [dA]
  all_goals (repeat' (first
 | refine Qr ?_
 | refine Qc (id:=0) Xd [] (by kernel_rfl) ?_;simp [-zg,-zd,↓Qb,↓Qa,go_sem]
 | refine Qc (id:=1) Xd [] (by kernel_rfl) ?_;simp [-zg,-zd,↓Qb,↓Qa,go_sem,hl,(show UInt8.ofNat (Int.toNat 10) = 10 from rfl)];try (refine Xm hK 4 ?_;simp [go_sem])
 | refine Qc (id:=2) Xd [16] (by kernel_rfl) ?_;simp [-zg,-zd,↓Qb,↓Qa,go_sem,h1,h2];try (refine ⟨fun s2a=>?_,fun s2a=>?_⟩ <;> (try simp [B_iff,B_not] at s2a) <;> try (refine ⟨fun s2b=>?_,fun s2b=>?_⟩ <;> (try simp [B_iff,B_not] at s2b)))
 | refine Qc (id:=3) Xd [] (by kernel_rfl) ?_;simp [-zg,-zd,↓Qb,↓Qa,go_sem]
 | (have i0:0 < (pcs 10 s []).length:=(by omega));refine Qc (id:=4) Xd [] (by kernel_rfl) ?_;simp [-zg,-zd,↓Qb,↓Qa,go_sem,i0,Qh i0,zsP i0,hpc 0];try (refine Xm hK 5 ?_;simp [go_sem])
 | (have i5:0 < (numsL (nth (pcs 10 s []) 0)).length:=(by omega));refine Qc (id:=5) Xd [29,35] (by kernel_rfl) ?_;simp [-zg,-zd,↓Qb,↓Qa,go_sem,i5,Qh i5,zsP i5,h3,h4,h5];try (refine ⟨fun s5a=>?_,fun s5a=>?_⟩ <;> (try simp [B_iff,B_not] at s5a) <;> try (refine ⟨fun s5b=>?_,fun s5b=>?_⟩ <;> (try simp [B_iff,B_not] at s5b) <;> try (refine ⟨fun s5c=>?_,fun s5c=>?_⟩ <;> (try simp [B_iff,B_not] at s5c))))
 | refine Qc (id:=5) Xd [29,35] (by kernel_rfl) ?_;simp [-zg,-zd,↓Qb,↓Qa,go_sem,h3];try (refine ⟨fun s5a=>?_,fun s5a=>?_⟩ <;> (try simp [B_iff,B_not] at s5a) <;> try (refine ⟨fun s5b=>?_,fun s5b=>?_⟩ <;> (try simp [B_iff,B_not] at s5b) <;> try (refine ⟨fun s5c=>?_,fun s5c=>?_⟩ <;> (try simp [B_iff,B_not] at s5c))))
 | refine Qc (id:=6) Xd [] (by kernel_rfl) ?_;simp [-zg,-zd,↓Qb,↓Qa,go_sem]
 | (have i1:1 < (pcs 10 s []).length:=(by omega);have i2:2 < (pcs 10 s []).length:=(by omega);have hN:nth (numsL (nth (pcs 10 s []) 0)) 0 = ((mkS2 s).length:Int):=(by omega);have hN4:(mkS2 s).length ≤ 64:=(by omega));refine Zf (id:=7) Xd mixed [] [] (by kernel_rfl) (by kernel_rfl) (by simp [-zg,-zd,↓Qb,↓Qa,go_sem,i1,Qh i1,zsP i1,i5,Qh i5,zsP i5,(show (1:Int) < ((pcs 10 s []).length:Int) by omega),hpc 1,hN,make_cB,(show ((mkS2 s).length:Int) ≤ 281474976710656 by omega),(show ((mkS2 s).length:Int) ≤ 9223372036854775807 by omega)]) ?_;simp [-zg,-zd,↓Qb,↓Qa,go_sem,i1,Qh i1,zsP i1,i5,Qh i5,zsP i5,(show (1:Int) < ((pcs 10 s []).length:Int) by omega),hpc 1,hN,make_cB,(show ((mkS2 s).length:Int) ≤ 281474976710656 by omega),(show ((mkS2 s).length:Int) ≤ 9223372036854775807 by omega)];try ((refine AW_boxNilC 6 rfl ?_);(refine zacl 6 rfl fun b hb=>?_);(refine AW_mid b rfl fun y cp j hy hby hcp hj=>?_);(clear hb hy))
 | refine Qc (id:=8) Xd [] (by kernel_rfl) ?_;simp [-zg,-zd,↓Qb,↓Qa,go_sem,i2,Qh i2,zsP i2,(show (2:Int) < ((pcs 10 s []).length:Int) by omega),hpc 2];try (refine Xm hK 7 ?_;simp [go_sem])
 | refine Qc (id:=9) Xd [] (by kernel_rfl) ?_;simp [-zg,-zd,↓Qb,↓Qa,go_sem]
 | refine Qc (id:=10) Xd [] (by kernel_rfl) ?_;simp [-zg,-zd,↓Qb,↓Qa,go_sem]
 | refine Zf (id:=12) Xd mixed [66] [] (by kernel_rfl) (by kernel_rfl) (by simp [-zg,-zd,↓Qb,↓Qa,go_sem,c58,Qh c58,zsP c58,i5,Qh i5,zsP i5,hN]) ?_;simp [-zg,-zd,↓Qb,↓Qa,go_sem,c58,Qh c58,zsP c58,i5,Qh i5,zsP i5,hN];try (refine ⟨fun s12a=>?_,fun s12a=>?_⟩ <;> (try simp [B_iff,B_not] at s12a) <;> try (refine ⟨fun s12b=>?_,fun s12b=>?_⟩ <;> (try simp [B_iff,B_not] at s12b)))
 | ((obtain ⟨q0,q1⟩:0 ≤ nth (numsL (nth (pcs 10 s []) 2)) k ∧ nth (numsL (nth (pcs 10 s []) 2)) k < ((mkS2 s).length:Int):=(by omega));(have hms:=mSt_yes (s:=s) (k:=k) ⟨q0,q1⟩);(have hml2:=mSt_len s k);(have hti:(nth (numsL (nth (pcs 10 s []) 2)) k).toNat < (mkS2 s).length:=(by omega)));refine zadm (id:=13) Xd mixed [(b,[fr 1 cI (numsL (nth (pcs 10 s []) 1)),.sl y 1 0 (mkS2 s).length cp,.fr 4 0 []])] [] [] (by kernel_rfl) (by kernel_rfl) (by simp [-zg,-zd,↓Qb,↓Qa,go_sem,c58,Qh c58,zsP c58,hby,zS hby,q0,q1,hti,hml2,(show (nth (numsL (nth (pcs 10 s []) 2)) k).toNat < (mkS2 s).length + j by omega),(show (nth (numsL (nth (pcs 10 s []) 2)) k).toNat + 1 ≤ (mkS2 s).length + j by omega),hms.symm]) (by simp [-zg,-zd,↓Qb,↓Qa,go_sem,c58,Qh c58,zsP c58,hby,zS hby,q0,q1,hti,hml2,(show (nth (numsL (nth (pcs 10 s []) 2)) k).toNat < (mkS2 s).length + j by omega),(show (nth (numsL (nth (pcs 10 s []) 2)) k).toNat + 1 ≤ (mkS2 s).length + j by omega),hms.symm]) ?_;simp [-zg,-zd,↓Qb,↓Qa,go_sem,c58,Qh c58,zsP c58,hby,zS hby,q0,q1,hti,hml2,(show (nth (numsL (nth (pcs 10 s []) 2)) k).toNat < (mkS2 s).length + j by omega),(show (nth (numsL (nth (pcs 10 s []) 2)) k).toNat + 1 ≤ (mkS2 s).length + j by omega),hms.symm]
 | (first | (have hms2:=hms.symm) | (have hms:=mSt_no (s:=s) (k:=k) (by omega)));refine Qc (id:=11) Xd [] (by kernel_rfl) ?_;simp [-zg,-zd,↓Qb,↓Qa,go_sem,wrapS (k:=k) (by omega)]
 | ((obtain rfl:k = (numsL (nth (pcs 10 s []) 2)).length:=by omega);(rw [show mSt s (numsL (nth (pcs 10 s []) 2)).length = mkS2 s from rfl]);(refine AW_unmid b (f:=fun _=>none) (d:=fr 1 cI (numsL (nth (pcs 10 s []) 1))) (e:=.fr 4 0 []) (y:=y) (m:=(mkS2 s).length) (cp:=cp) (Y:=cat cB (mkS2 s) ++ zrP j .any) hby rfl (by simp [Qz]) (by simp [Qz];omega) ?_);(rw [Xh (f:=cB) (mkS2 s) (zrP j D.any) rfl]);(refine Xq (fun H1=>H1 b = some [fr 1 cI (numsL (nth (pcs 10 s []) 1)),fr 1 cB (mkS2 s),fr 4 cT (eT s 0)]) (by simp [upd,hby,zS hby,fr,eT_zero,cat_nil]) fun H1 w1=>?_));refine Qc (id:=14) Xd [] (by kernel_rfl) ?_;simp [-zg,-zd,↓Qb,↓Qa,go_sem]
 | refine Qc (id:=15) Xd [] (by kernel_rfl) ?_;simp [-zg,-zd,↓Qb,↓Qa,go_sem,wrap_in (x:=(q.1:Int) + 3 + 1) (by omega) (by omega)]
 | ((have i17:q.1 + 3 < (pcs 10 s []).length:=(by omega)));refine Qc (id:=17) Xd [] (by kernel_rfl) ?_;simp [-zg,-zd,↓Qb,↓Qa,go_sem,i17,Qh i17,zsP i17,hpc (q.1 + 3),(show (0:Int) ≤ (q.1:Int) + 3 by omega),(show (q.1:Int) + 3 < ((pcs 10 s []).length:Int) by omega),(show ((q.1:Int) + 3).toNat = q.1 + 3 by omega)];try (refine Xm hK 10 ?_;simp [go_sem])
 | refine Qc (id:=18) Xd [] (by kernel_rfl) ?_;simp [-zg,-zd,↓Qb,↓Qa,go_sem]
 | ((have h9:q.1 < (pcs 10 s []).length - 4:=(by omega)));refine Qc (id:=19) Xd [] (by kernel_rfl) ?_;simp [-zg,-zd,↓Qb,↓Qa,go_sem]
 | ((have w40:0 < (numsL (nth (pcs 10 s []) (q.1 + 3))).length:=(by omega));(have hw4:(numsL (nth (pcs 10 s []) (q.1 + 3))).length = 4:=(by omega));(have hel:=eT_len (s:=s) (k:=q.1) (by omega));(have hes:=eT_succ (s:=s) (k:=q.1) (by omega));(have hnt:NoneTill (badE s) (q.1 + 1):=g2.succ (by simp [badE,hw4]));(refine Zv b 2 (all:=[fr 1 cI (numsL (nth (pcs 10 s []) 1)),fr 1 cB (mkS2 s),fr 4 cT (eT s q.1)]) g3 rfl fun zb cz jz hzb hcz hdz=>?_);(have nbz:¬ b = zb:=(by rintro rfl;dsimp only at hzb;rw [g3] at hzb;cases hzb));(clear hzb));refine zadm (id:=20) Xd mixed [(b,[fr 1 cI (numsL (nth (pcs 10 s []) 1)),fr 1 cB (mkS2 s),.sl zb 4 0 (eT s q.1).length cz])] [] [10] (by kernel_rfl) (by kernel_rfl) (by simp [-zg,-zd,↓Qb,↓Qa,go_sem,w40,Qh w40,zsP w40,hw4,mk44P,ss44P,nbz,zS nbz,hdz,snoc_T,hes.symm,(show 1 < (numsL (nth (pcs 10 s []) (q.1 + 3))).length by omega),(show 2 < (numsL (nth (pcs 10 s []) (q.1 + 3))).length by omega),(show 3 < (numsL (nth (pcs 10 s []) (q.1 + 3))).length by omega),(show (eT s q.1).length ≤ 9223372036854775806 by omega),(show 2 * ((eT s q.1).length + 1) * 32 ≤ 281474976710656 by omega)]) (by simp [-zg,-zd,↓Qb,↓Qa,go_sem,w40,Qh w40,zsP w40,hw4,mk44P,ss44P,nbz,zS nbz,hdz,snoc_T,hes.symm,(show 1 < (numsL (nth (pcs 10 s []) (q.1 + 3))).length by omega),(show 2 < (numsL (nth (pcs 10 s []) (q.1 + 3))).length by omega),(show 3 < (numsL (nth (pcs 10 s []) (q.1 + 3))).length by omega),(show (eT s q.1).length ≤ 9223372036854775806 by omega),(show 2 * ((eT s q.1).length + 1) * 32 ≤ 281474976710656 by omega)]) ?_;simp [-zg,-zd,↓Qb,↓Qa,go_sem,w40,Qh w40,zsP w40,hw4,mk44P,ss44P,nbz,zS nbz,hdz,snoc_T,hes.symm,(show 1 < (numsL (nth (pcs 10 s []) (q.1 + 3))).length by omega),(show 2 < (numsL (nth (pcs 10 s []) (q.1 + 3))).length by omega),(show 3 < (numsL (nth (pcs 10 s []) (q.1 + 3))).length by omega),(show (eT s q.1).length ≤ 9223372036854775806 by omega),(show 2 * ((eT s q.1).length + 1) * 32 ≤ 281474976710656 by omega)];try ((refine Xq (fun H1=>H1 b = some [fr 1 cI (numsL (nth (pcs 10 s []) 1)),fr 1 cB (mkS2 s),fr 4 cT (eT s (q.1 + 1))]) (by simp [upd,nbz,zS nbz,fr,hes]) fun H9 t5=>?_))
 | refine Qc (id:=16) Xd [] (by kernel_rfl) ?_;simp [-zg,-zd,↓Qb,↓Qa,go_sem,wrap_in (x:=(q.1:Int) + 3 + 1) (by omega) (by omega)]
 | ((have hq:q.1 = (pcs 10 s []).length - 4:=(by omega));(have hE:eT s q.1 = (Xg s).map edgeS:=eT_all (by omega));(rw [hq] at g2);(rw [hE] at g3);(have hSm:=edgesS_small s);(have hel:((Xg s).map edgeS).length ≤ 2052:=(by rw [List.length_map,zabv];omega));(refine Zv b 1 (all:=[fr 1 cI (numsL (nth (pcs 10 s []) 1)),fr 1 cB (mkS2 s),fr 4 cT ((Xg s).map edgeS)]) g3 rfl fun yb cy jy hyb hcy hdy=>?_);(have nby:¬ b = yb:=(by rintro rfl;dsimp only at hyb;rw [g3] at hyb;cases hyb));(refine AW_outer b (f:=fun _=>none) (d:=.sl yb 1 0 (mkS2 s).length cy) (m:=(numsL (nth (pcs 10 s []) 1)).length) (cs:=cat cI (numsL (nth (pcs 10 s []) 1))) (k:=((Xg s).map edgeS).length) (es:=cat cT ((Xg s).map edgeS)) (by dsimp only;rw [Qd nby,Qe];rfl) fun xb zb cx cz jx jz hxb hzb nbx nbz nxz hcx hdx hcz hdz=>?_);(have nyx:¬ yb = xb:=(by rintro rfl;dsimp only at hxb;rw [Qe] at hxb;cases hxb));(have nyz:¬ yb = zb:=(by rintro rfl;dsimp only at hzb;rw [Qe] at hzb;cases hzb));(clear hyb hxb hzb);(refine Xq (fun H1=>H1 b = some [.sl xb 1 0 (numsL (nth (pcs 10 s []) 1)).length cx,.sl yb 1 0 (mkS2 s).length cy,.sl zb 4 0 ((Xg s).map edgeS).length cz] ∧ H1 xb = some (cat cI (numsL (nth (pcs 10 s []) 1)) ++ zrP jx .any) ∧ H1 yb = some (cat cB (mkS2 s) ++ zrP jy .any) ∧ H1 zb = some (cat cT ((Xg s).map edgeS) ++ zrP jz .any)) ⟨by simp [upd,nby,zS nby,nbx,zS nbx,nbz,zS nbz,nxz,zS nxz,nyx,zS nyx,nyz,zS nyz],by simp [upd,nby,zS nby,nbx,zS nbx,nbz,zS nbz,nxz,zS nxz,nyx,zS nyx,nyz,zS nyz],by simp [upd,nby,zS nby,nbx,zS nbx,nbz,zS nbz,nxz,zS nxz,nyx,zS nyx,nyz,zS nyz,fr],by simp [upd,nby,zS nby,nbx,zS nbx,nbz,zS nbz,nxz,zS nxz,nyx,zS nyx,nyz,zS nyz]⟩ fun H2 ⟨w0,wx,wy,wz⟩=>?_);(generalize hEA:(Xg s).map edgeS = eA at *));refine Qc (id:=21) Xd [] (by kernel_rfl) ?_;simp [-zg,-zd,↓Qb,↓Qa,go_sem,w0,wx,wy,wz,nby,zS nby,nbx,zS nbx,nbz,zS nbz,nxz,zS nxz,nyx,zS nyx,nyz,zS nyz,hSm,Zm eA (zrP jz D.any) rfl,Xh (f:=cI) (numsL (nth (pcs 10 s []) 1)) (zrP jx D.any) rfl,Xh (f:=cB) (mkS2 s) (zrP jy D.any) rfl]
 | refine Qc (id:=22) Xd [] (by kernel_rfl) ?_;simp [-zg,-zd,↓Qb,↓Qa,go_sem]
 | refine Qc (id:=23) Xd [] (by kernel_rfl) ?_;simp [-zg,-zd,↓Qb,↓Qa,go_sem,w0,wx,wy,wz,nby,zS nby,nbx,zS nbx,nbz,zS nbz,nxz,zS nxz,nyx,zS nyx,nyz,zS nyz];try ((refine AW_own3 2 (x:=xb) (y:=yb) (z:=zb) (m1:=(numsL (nth (pcs 10 s []) 1)).length) (m2:=(mkS2 s).length) (m3:=eA.length) (cp:=cx) (cq:=cy) (cr:=cz) (X:=cat cI (numsL (nth (pcs 10 s []) 1)) ++ zrP jx D.any) (Y:=cat cB (mkS2 s) ++ zrP jy D.any) (Z:=cat cT eA ++ zrP jz D.any) rfl wx wy wz (zS nyx) nxz nyz (by simp [Qz]) (by simp [Qz];omega) (by simp [Qz]) (by simp [Qz];omega) (by simp [Qz]) (by simp [Qz];omega) fun r hr=>?_);(rw [Zm eA (zrP jz D.any) rfl,Xh (f:=cI) (numsL (nth (pcs 10 s []) 1)) (zrP jx D.any) rfl,Xh (f:=cB) (mkS2 s) (zrP jy D.any) rfl]))
 | refine Qf (c:=.tmp 20) ?_;simp [-zg,-zd,↓Qb,↓Qa,go_sem];try first | (refine ⟨?_,?_⟩ <;> refine zA ?_) | (refine ⟨fun c20=>?_,fun c20=>?_⟩ <;> (try simp [B_iff,B_not] at c20))
 | refine Qf (c:=.tmp 40) ?_;simp [-zg,-zd,↓Qb,↓Qa,go_sem];try first | (refine ⟨?_,?_⟩ <;> refine zA ?_) | (refine ⟨fun c40=>?_,fun c40=>?_⟩ <;> (try simp [B_iff,B_not] at c40))
 | refine Qf (c:=.tmp 58) ?_;simp [-zg,-zd,↓Qb,↓Qa,go_sem];try first | (refine ⟨?_,?_⟩ <;> refine zA ?_) | (refine ⟨fun c58=>?_,fun c58=>?_⟩ <;> (try simp [B_iff,B_not] at c58))
 | refine Qf (c:=.tmp 75) ?_;simp [-zg,-zd,↓Qb,↓Qa,go_sem];try first | (refine ⟨?_,?_⟩ <;> refine zA ?_) | (refine ⟨fun c75=>?_,fun c75=>?_⟩ <;> (try simp [B_iff,B_not] at c75))
 | refine Qf (c:=.tmp 87) ?_;simp [-zg,-zd,↓Qb,↓Qa,go_sem];try first | (refine ⟨?_,?_⟩ <;> refine zA ?_) | (refine ⟨fun c87=>?_,fun c87=>?_⟩ <;> (try simp [B_iff,B_not] at c87))
 | refine Qf (c:=.tmp 97) ?_;simp [-zg,-zd,↓Qb,↓Qa,go_sem];try first | (refine ⟨?_,?_⟩ <;> refine zA ?_) | (refine ⟨fun c97=>?_,fun c97=>?_⟩ <;> (try simp [B_iff,B_not] at c97))
 | refine Qf (c:=.tmp 120) ?_;simp [-zg,-zd,↓Qb,↓Qa,go_sem];try first | (refine ⟨?_,?_⟩ <;> refine zA ?_) | (refine ⟨fun c120=>?_,fun c120=>?_⟩ <;> (try simp [B_iff,B_not] at c120))
 | (refine Qg (id:=0) (Xc (ι:=Nat) (fun k:Nat=>⟨(upd (upd (upd (upd (upd (upd (upd (fun _=>.any) 0 (.str s)) 2 (.box [.nil,.nil,.nil])) 4 (li cStr (pcs 10 s []))) 5 (li cI (numsL (nth (pcs 10 s []) 0)))) 6 (.ptr b 0)) 7 (li cI (numsL (nth (pcs 10 s []) 2)))) 8 (.int .i64 k)),upd (upd (fun _=>none) b (some [fr 1 cI (numsL (nth (pcs 10 s []) 1)),.sl y 1 0 (mkS2 s).length cp,.fr 4 0 []])) y (some (cat cB (mSt s k) ++ zrP j .any))⟩) (fun k=>k ≤ (numsL (nth (pcs 10 s []) 2)).length) (fun k=>(numsL (nth (pcs 10 s []) 2)).length - k) (0) ?_ ?_ ?_);exact Nat.zero_le _;((repeat' (first | exact Qj (by assumption) | exact Ql | refine Qm ?_ ?_ | refine Qk ?_)) <;> simp [-zg,-zd,↓Qb,↓Qa,go_sem,mSt_zero]);rintro k hk)
 | (refine ⟨k + 1,(by omega),by first | omega | (simp;done) | (simp;omega),?_⟩;((repeat' (first | exact Qj (by assumption) | exact Ql | refine Qm ?_ ?_ | refine Qk ?_)) <;> simp [-zg,-zd,↓Qb,↓Qa,go_sem,hms]))
 | (refine Qg (id:=2) (Xc (ι:=Nat × Hp) (fun q:Nat × Hp=>⟨(upd (upd (upd (upd (upd (fun _=>.any) 0 (.str s)) 2 (.box [.nil,.nil,.nil])) 4 (li cStr (pcs 10 s []))) 6 (.ptr b 0)) 9 (.int .i64 ((q.1:Int) + 3))),q.2⟩) (fun q=>q.1 ≤ (pcs 10 s []).length - 4 ∧ NoneTill (badE s) q.1 ∧ q.2 b = some [fr 1 cI (numsL (nth (pcs 10 s []) 1)),fr 1 cB (mkS2 s),fr 4 cT (eT s q.1)]) (fun q=>(pcs 10 s []).length - 4 - q.1) ((0,H1)) ?_ ?_ ?_);exact ⟨Nat.zero_le _,.zero _,w1⟩;((repeat' (first | exact Qj (by assumption) | exact Ql | refine Qm ?_ ?_ | refine Qk ?_)) <;> simp [-zg,-zd,↓Qb,↓Qa,go_sem]);rintro q ⟨g1,g2,g3⟩)
 | (refine ⟨(q.1 + 1,H9),⟨by dsimp only;omega,hnt,t5⟩,by first | omega | (simp;done) | (simp;omega),?_⟩;((repeat' (first | exact Qj (by assumption) | exact Ql | refine Qm ?_ ?_ | refine Qk ?_)) <;> simp [-zg,-zd,↓Qb,↓Qa,go_sem,(show (q.1:Int) + 3 + 1 = (q.1:Int) + 1 + 3 by omega)]))
 | (refine Qg ?_)
 | (refine Qq ?_;simp [-zg,-zd,↓Qb,↓Qa,go_sem])
 | (refine Qp ?_;simp [-zg,-zd,↓Qb,↓Qa,go_sem])
 | (refine Qs ?_;simp [-zg,-zd,↓Qb,↓Qa,go_sem,Tryz.results6])
 | (intro hx;refine zA ?_)
 | (refine ⟨?_,?_⟩ <;> refine zA ?_)
 | (intro hx;constructor <;> intro hs)
 | (constructor <;> intro hs)
 | (refine ⟨?_,fun hs=>?_⟩;refine zA ?_)
 | (refine ⟨fun hs=>?_,?_⟩;rotate_left;refine zA ?_;rotate_left)))
  all_goals (first
 | (exfalso;exact absurd h6.2 (by assumption))
 | (rw [← hEA,List.length_map])
 | (exfalso;rcases h6 with h6 | h6;exact h6 g2;exact h6 (by assumption))
 | (exfalso;exact c97 (badE_no (h6.1 q.1 h9)))
 | skip)
end Go.Proofs.YtiilmjojffjhlaaGreatDoor.Vm

