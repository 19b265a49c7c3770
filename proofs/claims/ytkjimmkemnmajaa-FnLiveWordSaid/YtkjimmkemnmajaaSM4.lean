import Derived.Test.YtkjimmkemnmajaaK2
import Derived.Test.YtkjimmkemnmajaaSM2
/-
  impl.Automaton.accepts. No conditions.
-/
namespace Go.Proofs.Ytkjimmkemnmajaa.Vm
open Go
open Nat renaming sub_pos_of_lt → zsP
open List renaming getD_eq_getElem?_getD → zg,drop_one → zd,replicate → zrP
noncomputable section
set_option linter.unusedVariables false
set_option linter.unusedSimpArgs false
set_option maxRecDepth 200000

theorem AutOk.starts {a:List Int} {n:Nat} {c:List Tr4} (h:AutOk a n c) {N:Nat} (hN:n ≤ N):Starts N a:=by
  have h1:=h.2.2.1
  have hge:=zahf (a:=a) (k:=a.length) (fun i hi=>(h1 i hi).1)
  have hlt:∀ i j,i < j → j < a.length → nth a i < nth a j:=by
    intro i j hij
    induction j with
    | zero=>omega
    | succ j ih =>
      intro hj
      have h2:=(h1 (j + 1) hj).1
      simp only [ahead] at h2
      by_cases e:i = j
      · subst e;exact h2
      · have:=ih (by omega) (by omega);omega
  refine ⟨fun x hx=>?_,?_⟩
  · obtain ⟨i,hi,rfl⟩:=Js hx
    have:=hge i hi
    have:=(h1 i hi).2
    omega
  · rw [List.nodup_iff_pairwise_ne,List.pairwise_iff_getElem]
    intro i j hi hj hij e
    have:=hlt i j hij hj
    rw [Ql hi,Ql hj] at this
    omega
def gdA (n:Nat) (acc:List Bool) (ss:List Int) (nx:List (List Int)) (i:Nat):Prop:=RchS nx ss (i:Int) ∧ Cyc nx (i:Int) ∧ nth acc (i % n) = true
theorem acp_none {n:Nat} {acc:List Bool} {ss:List Int} {nx:List (List Int)} (h:∀ i,i < nx.length → ¬ gdA n acc ss nx i):¬ Acp n acc ss nx:=fun ⟨x,x1,x2⟩=>h x x1 x2
set_option maxHeartbeats 8000000 in

theorem accepts_pure (a:List Int) (b:List Bool) (c:List Tr4) (s:List Int) (l:List Int) (hA:AutOk a b.length c) (hL:LasOk s l):Pure Try.prog 138 [.st [li cI a,li cB b,li cT c],.st [li cI s,li cI l]] (.bool (B (Acp b.length b a (aAll b.length c s l)))):=by
  refine Pure.of_walk Try.func138 rfl (by simp [Try.f138]) (by simp [-zd,go_sem]) fun B hK=>?_
  obtain ⟨n1,n2,n3,n4⟩:=hA.sizes;have hr:=hA.rng;obtain ⟨l1,l2,l3,l4,l5⟩:=id hL;obtain ⟨hx,hs,hlen,hle⟩:=aAll_ok hr hL n2 n4;have hsr:=fun i (hi:i < a.length)=>hA.2.2.1 i hi
  all_goals (repeat' (first
 | refine Qt ?_
 | refine Qc (id:=0) Zb [] (by kernel_rfl) ?_;simp [-zg,-zd,↓Qb,↓Qa,go_sem];try ((refine Xa hK 2 ?_);(refine Xa hK 3 ?_);simp [go_sem])
 | refine Xu (id:=1) Zb mixed [] [] (by kernel_rfl) (by kernel_rfl) (by simp [-zg,-zd,↓Qb,↓Qa,go_sem,hL]) ?_;simp [-zg,-zd,↓Qb,↓Qa,go_sem,hL];try ((refine Xa hK 5 ?_);(simp [go_sem]);(obtain ⟨w,hw⟩:∃ w,s ++ l = w:=⟨_,rfl⟩);(have hwl:w.length = s.length + l.length:=(by rw [← hw];simp));(try rw [hw]);(have e0:(s.length:Int) + (l.length:Int) = (w.length:Int):=(by omega));(have e1:s.length + l.length = w.length:=hwl.symm);(try rw [e1]);(rw [e1] at hlen hle);(obtain ⟨Qn,hQn⟩:∃ Qn,w.length * b.length = Qn:=⟨_,rfl⟩);(rw [hQn] at hlen hle);(have hmul:(w.length:Int) * (b.length:Int) = (Qn:Int):=(by rw [← hQn];exact (Int.natCast_mul ..).symm));(have hbQ:b.length ≤ Qn:=(by have:=We (n:=b.length) (show 0 < w.length by omega);omega)))
 | refine Qc (id:=2) Zb [] (by kernel_rfl) ?_;simp [-zg,-zd,↓Qb,↓Qa,go_sem,hmul,Qv (x:=(Qn:Int)) (by omega) (by omega),make_oN,(by omega:24 * (Qn:Int) ≤ 281474976710656),(by omega:(Qn:Int) ≤ 281474976710656),(by omega:(Qn:Int) ≤ 9223372036854775807),(by omega:(0:Int) ≤ (Qn:Int))];try ((refine Xk 7 rfl fun b7 c7 j7 q7 hc7 hj7=>?_);(clear q7);(refine Qx (fun H1=>H1 b7 = some (cat oN (aRow b.length c s l 0) ++ zrP j7 D.any)) (by simp [upd,aRow,e1,hQn]) fun H1 w7=>?_))
 | refine Qc (id:=3) Zb [] (by kernel_rfl) ?_;simp [-zg,-zd,↓Qb,↓Qa,go_sem]
 | refine Qc (id:=4) Zb [] (by kernel_rfl) ?_;simp [-zg,-zd,↓Qb,↓Qa,go_sem]
 | refine Qc (id:=5) Zb [] (by kernel_rfl) ?_;simp [-zg,-zd,↓Qb,↓Qa,go_sem,c28,Qj c28,zsP c28]
 | refine Qc (id:=6) Zb [] (by kernel_rfl) ?_;simp [-zg,-zd,↓Qb,↓Qa,go_sem];try ((have hqw:q.1 < w.length:=(by omega));(have hP':=We (n:=b.length) hqw);(have hzl:nxI s l q.1 < w.length:=(by rw [hwl];exact nxI_lt (by omega) (by omega)));(have hZ':=We (n:=b.length) hzl);(have hAR0:=aRow_ok hr (a:=s) (b:=l) (by omega) q.1 (by omega));(rw [← hwl] at hAR0);(have hcm:q.1 * c.length ≤ 160 * 2048:=Nat.mul_le_mul (by omega) n4);(have hqn:nxI s l ((q.1:Int)).toNat = nxI s l q.1:=(by rw [Int.toNat_natCast]));(have hPi:(q.1:Int) * (b.length:Int) = ((q.1 * b.length:Nat):Int):=(Int.natCast_mul ..).symm);(have hZi:((nxI s l q.1:Nat):Int) * (b.length:Int) = ((nxI s l q.1 * b.length:Nat):Int):=(Int.natCast_mul ..).symm);(rw [hQn] at hP' hZ' hAR0);(have hin:=fun k hk=>hAR0.aIn hr (x:=nth w q.1) hP' hZ' k hk);(have hsucc:aRow b.length c s l (q.1 + 1) = aIn b.length c (nth w q.1) (q.1 * b.length) (nxI s l q.1 * b.length) (aRow b.length c s l q.1) c.length:=(by rw [← hw];rfl));(obtain ⟨P,hP⟩:∃ P,q.1 * b.length = P:=⟨_,rfl⟩);(obtain ⟨Z,hZ⟩:∃ Z,nxI s l q.1 * b.length = Z:=⟨_,rfl⟩);(rw [hP] at hP' hPi hsucc);(rw [hZ] at hZ' hZi hsucc);(simp only [hP,hZ] at hin);(obtain ⟨z,hz⟩:∃ z,nxI s l q.1 = z:=⟨_,rfl⟩);(rw [hz] at hZi hzl hqn);(obtain ⟨x,hxw⟩:∃ x,nth w q.1 = x:=⟨_,rfl⟩);(try rw [hxw]);(rw [hxw] at hsucc);(simp only [hxw] at hin))
 | refine Qc (id:=7) Zb [] (by kernel_rfl) ?_;simp [-zg,-zd,↓Qb,↓Qa,go_sem]
 | refine Qc (id:=8) Zb [] (by kernel_rfl) ?_;simp [-zg,-zd,↓Qb,↓Qa,go_sem,c36,Qj c36,zsP c36];try ((refine Xa hK 11 ?_);(simp [go_sem]))
 | refine Qc (id:=9) Zb [] (by kernel_rfl) ?_;simp [-zg,-zd,↓Qb,↓Qa,go_sem];try ((cases htk:tk x (nth c y.1));rotate_left;(obtain ⟨f,hf⟩:∃ f,(P:Int) + (nth c y.1).1 = f:=⟨_,rfl⟩);(obtain ⟨t,ht⟩:∃ t,(Z:Int) + (nth c y.1).2.2.2 = t:=⟨_,rfl⟩);(obtain ⟨⟨p0,p1⟩,p2,p3⟩:=hr y.1 c36);(have f0:0 ≤ f:=(by omega));(have f1:f < (Qn:Int):=(by omega));(have t0:0 ≤ t:=(by omega));(have t1:t < (Qn:Int):=(by omega));(have hft:f.toNat < Qn:=(by omega));(have hAR:=hin y.1 (by omega));(have hnl:=hAR.len);(have hrow:=hAR.row f.toNat hft);(have hnext:(aIn b.length c x P Z (aRow b.length c s l q.1) (y.1 + 1)) = addE (aIn b.length c x P Z (aRow b.length c s l q.1) y.1) f t:=(by rw [zanw c36,aStep,if_pos htk,hf,ht]));(have hadd:=oN_addG (xs:=(aIn b.length c x P Z (aRow b.length c s l q.1) y.1)) (f:=f) (t:=t) (by omega) (zrP j7 D.any));(rw [← hnext] at hadd);(have hgt:=oN_get (xs:=(aIn b.length c x P Z (aRow b.length c s l q.1) y.1)) (i:=f.toNat) (by omega) (zrP j7 D.any));(have hcl:=Vi (xs:=(aIn b.length c x P Z (aRow b.length c s l q.1) y.1)) (junk:=zrP j7 D.any));(rw [List.length_replicate,hnl] at hcl);(by_cases he:(nth (aIn b.length c x P Z (aRow b.length c s l q.1) y.1) f.toNat) = []);(rw [he,zalz] at hgt);(rw [he] at hadd);(obtain ⟨cells,hce⟩:∃ cells,(cat oN (aIn b.length c x P Z (aRow b.length c s l q.1) y.1) ++ zrP j7 D.any) = cells:=⟨_,rfl⟩);(rw [hce] at hgt hcl e2 hadd);(have hadd1:cells.set f.toNat (.fr 1 1 [.int .i64 t]) = cat oN (aIn b.length c x P Z (aRow b.length c s l q.1) (y.1 + 1)) ++ zrP j7 D.any:=hadd);rotate_left;(have hcell:=oN_cell (by omega) he (zrP j7 D.any));(refine Zu b7 f.toNat e2 hcell fun rb rcp rj q8 hrc hrj=>?_);(dsimp only at q8);(have rn:¬ rb = b7:=(by rintro rfl;rw [e2] at q8;cases q8));(clear q8);(have hset2:∀ z,((cat oN (aIn b.length c x P Z (aRow b.length c s l q.1) y.1) ++ zrP j7 D.any).set f.toNat (D.sl rb 1 0 (nth (aIn b.length c x P Z (aRow b.length c s l q.1) y.1) f.toNat).length rcp)).set f.toNat z = (cat oN (aIn b.length c x P Z (aRow b.length c s l q.1) y.1) ++ zrP j7 D.any).set f.toNat z:=fun z=>List.set_set ..);(have hgi2:((cat oN (aIn b.length c x P Z (aRow b.length c s l q.1) y.1) ++ zrP j7 D.any).set f.toNat (D.sl rb 1 0 (nth (aIn b.length c x P Z (aRow b.length c s l q.1) y.1) f.toNat).length rcp))[f.toNat]? = some (D.sl rb 1 0 (nth (aIn b.length c x P Z (aRow b.length c s l q.1) y.1) f.toNat).length rcp):=List.getElem?_set_self (by rw [Vi];omega));(have hgt2:((cat oN (aIn b.length c x P Z (aRow b.length c s l q.1) y.1) ++ zrP j7 D.any).set f.toNat (D.sl rb 1 0 (nth (aIn b.length c x P Z (aRow b.length c s l q.1) y.1) f.toNat).length rcp)).getD f.toNat D.any = (D.sl rb 1 0 (nth (aIn b.length c x P Z (aRow b.length c s l q.1) y.1) f.toNat).length rcp):=(by rw [List.getD_eq_getElem?_getD,hgi2];rfl));(have hadd2:=hadd);(rw [← hset2] at hadd2);(have hcl2:((cat oN (aIn b.length c x P Z (aRow b.length c s l q.1) y.1) ++ zrP j7 D.any).set f.toNat (D.sl rb 1 0 (nth (aIn b.length c x P Z (aRow b.length c s l q.1) y.1) f.toNat).length rcp)).length = Qn + j7:=(by rw [List.length_set];exact hcl));(obtain ⟨cells,hce⟩:∃ cells,(cat oN (aIn b.length c x P Z (aRow b.length c s l q.1) y.1) ++ zrP j7 D.any).set f.toNat (D.sl rb 1 0 (nth (aIn b.length c x P Z (aRow b.length c s l q.1) y.1) f.toNat).length rcp) = cells:=⟨_,rfl⟩);(refine Qx (fun H4=>H4 b7 = some cells ∧ H4 rb = some (cat cI (nth (aIn b.length c x P Z (aRow b.length c s l q.1) y.1) f.toNat) ++ zrP rj D.any)) ⟨by simp [upd,rn,Ne.symm rn,← hce],by simp [upd,rn,Ne.symm rn]⟩ fun H4 ⟨g4,hrb⟩=>?_);(rw [hce] at hgt2 hadd2 hcl2 hgi2))
 | refine Xx (id:=10) Zb mixed [(b7,cells)] [] [7,8,6,11] (by kernel_rfl) (by kernel_rfl) (by simp [-zg,-zd,↓Qb,↓Qa,go_sem,Xg,g4,hrb,rn,Ne.symm rn,hgt2,hcl2,Xv,hadd2,hPi,hZi,hf,ht,hL,hz,Qv (x:=(P:Int)) (by omega) (by omega),Qv (x:=f) (by omega) (by omega),Qv (x:=(Z:Int)) (by omega) (by omega),Qv (x:=t) (by omega) (by omega),(show (0:Int) ≤ (q.1:Int) by omega),(show (q.1:Int) < (s.length:Int) + (l.length:Int) by omega),hqn,(show f.toNat < Qn + j7 by omega),(show f.toNat + 1 ≤ Qn + j7 by omega),f0,f1,hft,(show rcp ≤ (nth (aIn b.length c x P Z (aRow b.length c s l q.1) y.1) f.toNat).length + rj by omega),(show (nth (aIn b.length c x P Z (aRow b.length c s l q.1) y.1) f.toNat).length + 1 ≤ 9223372036854775807 by omega),(show (nth (aIn b.length c x P Z (aRow b.length c s l q.1) y.1) f.toNat).length ≤ 9223372036854775806 by omega),(show 2 * ((nth (aIn b.length c x P Z (aRow b.length c s l q.1) y.1) f.toNat).length + 1) * 8 ≤ 281474976710656 by omega),Xt]) (by simp [-zg,-zd,↓Qb,↓Qa,go_sem,Xg,g4,hrb,rn,Ne.symm rn,hgt2,hcl2,Xv,hadd2,hPi,hZi,hf,ht,hL,hz,Qv (x:=(P:Int)) (by omega) (by omega),Qv (x:=f) (by omega) (by omega),Qv (x:=(Z:Int)) (by omega) (by omega),Qv (x:=t) (by omega) (by omega),(show (0:Int) ≤ (q.1:Int) by omega),(show (q.1:Int) < (s.length:Int) + (l.length:Int) by omega),hqn,(show f.toNat < Qn + j7 by omega),(show f.toNat + 1 ≤ Qn + j7 by omega),f0,f1,hft,(show rcp ≤ (nth (aIn b.length c x P Z (aRow b.length c s l q.1) y.1) f.toNat).length + rj by omega),(show (nth (aIn b.length c x P Z (aRow b.length c s l q.1) y.1) f.toNat).length + 1 ≤ 9223372036854775807 by omega),(show (nth (aIn b.length c x P Z (aRow b.length c s l q.1) y.1) f.toNat).length ≤ 9223372036854775806 by omega),(show 2 * ((nth (aIn b.length c x P Z (aRow b.length c s l q.1) y.1) f.toNat).length + 1) * 8 ≤ 281474976710656 by omega),Xt]) ?_;simp [-zg,-zd,↓Qb,↓Qa,go_sem,Xg,g4,hrb,rn,Ne.symm rn,hgt2,hcl2,Xv,hadd2,hPi,hZi,hf,ht,hL,hz,Qv (x:=(P:Int)) (by omega) (by omega),Qv (x:=f) (by omega) (by omega),Qv (x:=(Z:Int)) (by omega) (by omega),Qv (x:=t) (by omega) (by omega),(show (0:Int) ≤ (q.1:Int) by omega),(show (q.1:Int) < (s.length:Int) + (l.length:Int) by omega),hqn,(show f.toNat < Qn + j7 by omega),(show f.toNat + 1 ≤ Qn + j7 by omega),f0,f1,hft,(show rcp ≤ (nth (aIn b.length c x P Z (aRow b.length c s l q.1) y.1) f.toNat).length + rj by omega),(show (nth (aIn b.length c x P Z (aRow b.length c s l q.1) y.1) f.toNat).length + 1 ≤ 9223372036854775807 by omega),(show (nth (aIn b.length c x P Z (aRow b.length c s l q.1) y.1) f.toNat).length ≤ 9223372036854775806 by omega),(show 2 * ((nth (aIn b.length c x P Z (aRow b.length c s l q.1) y.1) f.toNat).length + 1) * 8 ≤ 281474976710656 by omega),Xt];try ((refine Qx (fun H1=>H1 b7 = some (cat oN (aIn b.length c x P Z (aRow b.length c s l q.1) (y.1 + 1)) ++ zrP j7 D.any)) (by first | (simp [upd,Xg,rn,Ne.symm rn,hadd2];done) | (simp [upd,Xg,hadd1];done)) fun H9 t3=>?_);(have fl:True ∧ True:=⟨trivial,trivial⟩))
 | refine Xx (id:=10) Zb mixed [(b7,cells)] [] [7,8,6,11] (by kernel_rfl) (by kernel_rfl) (by simp [-zg,-zd,↓Qb,↓Qa,go_sem,Xg,e2,hgt,hcl,hadd1,hPi,hZi,hf,ht,hL,hz,Qv (x:=(P:Int)) (by omega) (by omega),Qv (x:=f) (by omega) (by omega),Qv (x:=(Z:Int)) (by omega) (by omega),Qv (x:=t) (by omega) (by omega),(show (0:Int) ≤ (q.1:Int) by omega),(show (q.1:Int) < (s.length:Int) + (l.length:Int) by omega),hqn,(show f.toNat < Qn + j7 by omega),(show f.toNat + 1 ≤ Qn + j7 by omega),f0,f1,hft,(show makeD [D.int .i64 0] 1 = [D.int .i64 0] from rfl)]) (by simp [-zg,-zd,↓Qb,↓Qa,go_sem,Xg,e2,hgt,hcl,hadd1,hPi,hZi,hf,ht,hL,hz,Qv (x:=(P:Int)) (by omega) (by omega),Qv (x:=f) (by omega) (by omega),Qv (x:=(Z:Int)) (by omega) (by omega),Qv (x:=t) (by omega) (by omega),(show (0:Int) ≤ (q.1:Int) by omega),(show (q.1:Int) < (s.length:Int) + (l.length:Int) by omega),hqn,(show f.toNat < Qn + j7 by omega),(show f.toNat + 1 ≤ Qn + j7 by omega),f0,f1,hft,(show makeD [D.int .i64 0] 1 = [D.int .i64 0] from rfl)]) ?_;simp [-zg,-zd,↓Qb,↓Qa,go_sem,Xg,e2,hgt,hcl,hadd1,hPi,hZi,hf,ht,hL,hz,Qv (x:=(P:Int)) (by omega) (by omega),Qv (x:=f) (by omega) (by omega),Qv (x:=(Z:Int)) (by omega) (by omega),Qv (x:=t) (by omega) (by omega),(show (0:Int) ≤ (q.1:Int) by omega),(show (q.1:Int) < (s.length:Int) + (l.length:Int) by omega),hqn,(show f.toNat < Qn + j7 by omega),(show f.toNat + 1 ≤ Qn + j7 by omega),f0,f1,hft,(show makeD [D.int .i64 0] 1 = [D.int .i64 0] from rfl)];try ((refine Qx (fun H1=>H1 b7 = some (cat oN (aIn b.length c x P Z (aRow b.length c s l q.1) (y.1 + 1)) ++ zrP j7 D.any)) (by first | (simp [upd,Xg,rn,Ne.symm rn,hadd2];done) | (simp [upd,Xg,hadd1];done)) fun H9 t3=>?_);(have fl:True ∧ True:=⟨trivial,trivial⟩))
 | (first | (rename True ∧ True=>k_;skip) | ((have hsame:(aIn b.length c x P Z (aRow b.length c s l q.1) (y.1 + 1)) = (aIn b.length c x P Z (aRow b.length c s l q.1) y.1):=(by rw [zanw (by omega),aStep,if_neg (by rw [htk];simp)]));(refine Qx (fun H1=>H1 b7 = some (cat oN (aIn b.length c x P Z (aRow b.length c s l q.1) (y.1 + 1)) ++ zrP j7 D.any)) (by dsimp only;rw [hsame];exact e2) fun H9 t3=>?_)));refine Qc (id:=11) Zb [] (by kernel_rfl) ?_;simp [-zg,-zd,↓Qb,↓Qa,go_sem,wrapS (k:=y.1) (by omega)]
 | refine Qc (id:=12) Zb [] (by kernel_rfl) ?_;simp [-zg,-zd,↓Qb,↓Qa,go_sem,wrapS (k:=q.1) (by omega)]
 | ((obtain ⟨kx,Hx⟩:=q);(dsimp only at *);(obtain rfl:kx = w.length:=by omega);(have hal:aRow b.length c s l w.length = aAll b.length c s l:=(by rw [hwl];rfl));(rw [hal] at g2);(obtain ⟨nx,hnx⟩:∃ nx,aAll b.length c s l = nx:=⟨_,rfl⟩);(rw [hnx] at g2 hx hs hlen ⊢);(refine Je 7 (b:=b7) (all:=cat oN nx ++ zrP j7 D.any) rfl g2 (by omega) (by rw [Vi];simp;omega) (by rw [Vi];simp;omega) ?_);(rw [Nat.mul_one,Jt (f:=oN) nx (zrP j7 D.any) (n:=Qn) hlen.symm]);(refine Xa hK 7 ?_);(have hst:=hA.starts hbQ);(have hcyl:=zanj nx);(have hrcl:=zage nx a);(have hSN:∀ z,z ∈ a → Nd nx z:=(fun z hz=>⟨(hst.1 z hz).1,by rw [hlen];exact (hst.1 z hz).2⟩)));refine Qc (id:=13) Zb [] (by kernel_rfl) ?_;simp [-zg,-zd,↓Qb,↓Qa,go_sem,hx,hs,hlen,(show Qn ≤ 1048576 by omega),(show nx.length ≤ 1048576 by omega)];try ((refine Xa hK 12 ?_);(simp [go_sem]))
 | refine Qc (id:=14) Zb [] (by kernel_rfl) ?_;simp [-zg,-zd,↓Qb,↓Qa,go_sem,hx,hs,hlen,(show Qn ≤ 1048576 by omega),(show nx.length ≤ 1048576 by omega),(show (∀ x,x ∈ a → Nd nx x) = True from eq_true hSN),hSN,hrcl,(show a.length ≤ 1048576 by omega)];try ((refine Xa hK 76 ?_);(simp [go_sem,hrcl]))
 | refine Qc (id:=15) Zb [] (by kernel_rfl) ?_;simp [-zg,-zd,↓Qb,↓Qa,go_sem]
 | ((have hkn:k < nx.length:=(by omega));(have hmo:=Nat.mod_lt k (show 0 < b.length by omega));(have hr1:(nth (rchL nx a) k = true) = RchS nx a (k:Int):=(by rw [nth_rchL hkn,B_iff]));(have hr2:(nth (cycL nx) k = true) = Cyc nx (k:Int):=(by rw [nth_cycL hkn,B_iff]));(have hcn:¬ cycL nx = []:=(by intro e;rw [e] at hcyl;simp at hcyl;omega));(have hrn:¬ rchL nx a = []:=(by intro e;rw [e] at hrcl;simp at hrcl;omega));(have hbn:¬ b = []:=(by rintro rfl;simp at n1));(obtain ⟨km,hkm⟩:∃ km:Nat,k % b.length = km:=⟨_,rfl⟩);(have htm:(k:Int).tmod (b.length:Int) = (km:Int):=(by rw [tmod_nat,hkm]));(rw [hkm] at hmo));refine Qc (id:=16) Zb [] (by kernel_rfl) ?_;simp [-zg,-zd,↓Qb,↓Qa,go_sem,hrcl,hlen,c79,hrn,zsP c79]
 | refine Xu (id:=17) Zb mixed [84,90] [] (by kernel_rfl) (by kernel_rfl) (by simp [-zg,-zd,↓Qb,↓Qa,go_sem,hcyl,hrcl,hlen,c79,hcn,hbn,zsP c79,htm,hmo,zsP hmo,(show ¬ (b.length:Int) = 0 by omega)]) ?_;simp [-zg,-zd,↓Qb,↓Qa,go_sem,hcyl,hrcl,hlen,c79,hcn,hbn,zsP c79,htm,hmo,zsP hmo,(show ¬ (b.length:Int) = 0 by omega)];try (refine ⟨fun s17a=>?_,fun s17a=>?_⟩ <;> (try simp [B_iff,B_not] at s17a) <;> try (refine ⟨fun s17b=>?_,fun s17b=>?_⟩ <;> (try simp [B_iff,B_not] at s17b) <;> try (refine ⟨fun s17c=>?_,fun s17c=>?_⟩ <;> (try simp [B_iff,B_not] at s17c))))
 | refine Qc (id:=18) Zb [] (by kernel_rfl) ?_;simp [-zg,-zd,↓Qb,↓Qa,go_sem]
 | refine Qc (id:=19) Zb [] (by kernel_rfl) ?_;simp [-zg,-zd,↓Qb,↓Qa,go_sem,wrapS (k:=k) (by omega)]
 | refine Qc (id:=20) Zb [] (by kernel_rfl) ?_;simp [-zg,-zd,↓Qb,↓Qa,go_sem]
 | refine Qd (c:=.tmp 28) ?_;simp [-zg,-zd,↓Qb,↓Qa,go_sem];try first | (refine ⟨?_,?_⟩ <;> refine zA ?_) | (refine ⟨fun c28=>?_,fun c28=>?_⟩ <;> (try simp [B_iff,B_not] at c28))
 | refine Qd (c:=.tmp 36) ?_;simp [-zg,-zd,↓Qb,↓Qa,go_sem];try first | (refine ⟨?_,?_⟩ <;> refine zA ?_) | (refine ⟨fun c36=>?_,fun c36=>?_⟩ <;> (try simp [B_iff,B_not] at c36))
 | refine Qd (c:=.tmp 41) ?_;simp [-zg,-zd,↓Qb,↓Qa,go_sem];try first | (refine ⟨?_,?_⟩ <;> refine zA ?_) | (refine ⟨fun c41=>?_,fun c41=>?_⟩ <;> (try simp [B_iff,B_not] at c41))
 | refine Qd (c:=.tmp 79) ?_;simp [-zg,-zd,↓Qb,↓Qa,go_sem];try first | (refine ⟨?_,?_⟩ <;> refine zA ?_) | (refine ⟨fun c79=>?_,fun c79=>?_⟩ <;> (try simp [B_iff,B_not] at c79))
 | refine Qd (c:=.tmp 98) ?_;simp [-zg,-zd,↓Qb,↓Qa,go_sem];try first | (refine ⟨?_,?_⟩ <;> refine zA ?_) | (refine ⟨fun c98=>?_,fun c98=>?_⟩ <;> (try simp [B_iff,B_not] at c98))
 | (refine Qe (id:=0) (Qy (ι:=Nat × Hp) (fun q:Nat × Hp=>⟨(upd (upd (upd (upd (upd (upd (upd (upd (fun _=>.any) 2 (.pd [li cI a,li cB b,li cT c])) 3 (.pd [li cI s,li cI l])) 5 (li cI w)) 6 (.int .i64 b.length)) 7 (.sl b7 1 0 Qn c7)) 25 (li cI w)) 26 (.int .i64 w.length)) 27 (.int .i64 q.1)),q.2⟩) (fun q=>q.1 ≤ w.length ∧ q.2 b7 = some (cat oN (aRow b.length c s l q.1) ++ zrP j7 D.any)) (fun q=>w.length - q.1) ((0,H1)) ?_ ?_ ?_);exact ⟨Nat.zero_le _,w7⟩;((repeat' (first | exact Qg (by assumption) | exact Qi | exact ⟨fun _=>Or.inl rfl,fun _ _ h=>nomatch h⟩ | refine Qf ?_ ?_ | refine Qh ?_)) <;> simp [-zg,-zd,↓Qb,↓Qa,go_sem]);rintro q ⟨g1,g2⟩)
 | (refine ⟨(q.1 + 1,y.2),⟨by dsimp only;omega,by dsimp only;(have e9:y.1 = c.length:=by omega);rw [hsucc,← e9];exact e2⟩,by first | omega | (simp;done) | (simp;omega),?_⟩;((repeat' (first | exact Qg (by assumption) | exact Qi | exact ⟨fun _=>Or.inl rfl,fun _ _ h=>nomatch h⟩ | refine Qf ?_ ?_ | refine Qh ?_)) <;> simp [-zg,-zd,↓Qb,↓Qa,go_sem]))
 | (refine Qe (id:=2) (Qy (ι:=Nat × Hp) (fun y:Nat × Hp=>⟨(upd (upd (upd (upd (upd (upd (upd (upd (upd (upd (upd (upd (upd (fun _=>.any) 2 (.pd [li cI a,li cB b,li cT c])) 3 (.pd [li cI s,li cI l])) 5 (li cI w)) 6 (.int .i64 b.length)) 7 (.sl b7 1 0 Qn c7)) 8 (.int .i64 q.1)) 9 (.int .i64 x)) 25 (li cI w)) 26 (.int .i64 w.length)) 27 (.int .i64 q.1)) 33 (li cT c)) 34 (.int .i64 c.length)) 35 (.int .i64 y.1)),y.2⟩) (fun y=>y.1 ≤ c.length ∧ y.2 b7 = some (cat oN (aIn b.length c x P Z (aRow b.length c s l q.1) y.1) ++ zrP j7 D.any)) (fun y=>c.length - y.1) ((0,q.2)) ?_ ?_ ?_);exact ⟨Nat.zero_le _,by dsimp only;rw [aIn_zero];exact g2⟩;((repeat' (first | exact Qg (by assumption) | exact Qi | exact ⟨fun _=>Or.inl rfl,fun _ _ h=>nomatch h⟩ | refine Qf ?_ ?_ | refine Qh ?_)) <;> simp [-zg,-zd,↓Qb,↓Qa,go_sem]);rintro y ⟨e1,e2⟩)
 | (refine ⟨(y.1 + 1,H9),⟨by dsimp only;omega,t3⟩,by first | omega | (simp;done) | (simp;omega),?_⟩;((repeat' (first | exact Qg (by assumption) | exact Qi | exact ⟨fun _=>Or.inl rfl,fun _ _ h=>nomatch h⟩ | refine Qf ?_ ?_ | refine Qh ?_)) <;> simp [-zg,-zd,↓Qb,↓Qa,go_sem,]))
 | (refine Qe (id:=4) (Qy (ι:=Nat) (fun k:Nat=>⟨(upd (upd (upd (upd (upd (upd (fun _=>.any) 2 (.pd [li cI a,li cB b,li cT c])) 6 (.int .i64 b.length)) 12 (li cB (cycL nx))) 76 (li cB (rchL nx a))) 77 (.int .i64 Qn)) 78 (.int .i64 k)),fun _=>none⟩) (fun k=>k ≤ Qn ∧ AllTill (fun i=>¬ gdA b.length b a nx i) k) (fun k=>Qn - k) (0) ?_ ?_ ?_);exact ⟨Nat.zero_le _,.zero _⟩;((repeat' (first | exact Qg (by assumption) | exact Qi | exact ⟨fun _=>Or.inl rfl,fun _ _ h=>nomatch h⟩ | refine Qf ?_ ?_ | refine Qh ?_)) <;> simp [-zg,-zd,↓Qb,↓Qa,go_sem,li,hcyl,hrcl,hlen]);rintro k ⟨hk,hat⟩)
 | (refine ⟨k + 1,⟨by omega,hat.succ (fun hg=>by have h1:=hg.1;have h2:=hg.2.1;have h3:=hg.2.2;rw [← hr1] at h1;rw [← hr2] at h2;simp_all)⟩,by first | omega | (simp;done) | (simp;omega),?_⟩;((repeat' (first | exact Qg (by assumption) | exact Qi | exact ⟨fun _=>Or.inl rfl,fun _ _ h=>nomatch h⟩ | refine Qf ?_ ?_ | refine Qh ?_)) <;> simp [-zg,-zd,↓Qb,↓Qa,go_sem,li,hcyl,hrcl,hlen]))
 | (refine Qe ?_)
 | (refine Qs ?_;simp [-zg,-zd,↓Qb,↓Qa,go_sem])
 | (refine Qr ?_;simp [-zg,-zd,↓Qb,↓Qa,go_sem])
 | (refine Qu ?_;simp [-zg,-zd,↓Qb,↓Qa,go_sem,Try.results138])
 | (intro hx;refine zA ?_)
 | (refine ⟨?_,?_⟩ <;> refine zA ?_)
 | (intro hx;constructor <;> intro hs)
 | (constructor <;> intro hs)
 | (refine ⟨?_,fun hs=>?_⟩;refine zA ?_)
 | (refine ⟨fun hs=>?_,?_⟩;rotate_left;refine zA ?_;rotate_left)))
  all_goals (first
 | (exact B_yes ⟨k,hkn,hr1 ▸ s17a,hr2 ▸ s17b,by rw [hkm];exact c98⟩)
 | (exact ⟨k,hkn,hr1 ▸ s17a,hr2 ▸ s17b,by rw [hkm];exact c98⟩)
 | (refine B_yes ⟨k,hkn,?_,?_,?_⟩;(rw [← hr1];simp_all;done);(rw [← hr2];simp_all;done);(simp_all;done))
 | (exact B_no (acp_none fun i hi=>hat i (by omega)))
 | (refine ⟨k,hkn,?_,?_,?_⟩;(rw [← hr1];simp_all;done);(rw [← hr2];simp_all;done);(simp_all;done))
 | (exact acp_none fun i hi=>hat i (by omega))
 | skip)
@[go_sem] def zafc:Con:=.pure fun
  | [.st [.list n_a c_a,.list n_b c_b,.list n_c c_c],.st [.list n_s c_s,.list n_l c_l]]=>((Is cI n_a c_a) ∧ (Is cB n_b c_b) ∧ (Is cT n_c c_c) ∧ (Is cI n_s c_s) ∧ (Is cI n_l c_l) ∧ (AutOk (de cI c_a) (de cB c_b).length (de cT c_c)) ∧ (LasOk (de cI c_s) (de cI c_l)),.bool (B (Acp (de cB c_b).length (de cB c_b) (de cI c_a) (aAll (de cB c_b).length (de cT c_c) (de cI c_s) (de cI c_l)))))
  | _=>(False,.any)
theorem zanv:ConOk Try.prog 138 zafc:=by
  refine ⟨Qp Try.func138 (by decide) rfl,fun args h=>?_⟩
  revert h
  dsimp only
  split
  · intro h
    obtain ⟨⟨a,rfl,rfl⟩,⟨b,rfl,rfl⟩,⟨c,rfl,rfl⟩,⟨s,rfl,rfl⟩,⟨l,rfl,rfl⟩,hA,hL⟩:=h
    try simp only [Qm] at *
    exact ⟨accepts_pure a b c s l hA hL,by simp [go_sem]⟩
  · intro h
    exact h.elim
@[go_sem] def Γk18:FuncId → Con:=ext Γk17 138 zafc
theorem Γk18_ok:∀ g,ConOk Try.prog g (Γk18 g):=Qo Zb zanv


def AcAsk (a:List Int) (b:List Bool) (c:List Tr4) (s l:List Int):Prop:=AutOk a b.length c ∧ LasOk s l
def acR (a:List Int) (b:List Bool) (c:List Tr4) (s l:List Int):Bool:=B (AcAsk a b c s l) && B (Acp b.length b a (aAll b.length c s l))
theorem acR_no {a:List Int} {b:List Bool} {c:List Tr4} {s l:List Int} (h:¬ AcAsk a b c s l):acR a b c s l = false:=by rw [acR,B_no h];rfl
theorem acR_yes {a:List Int} {b:List Bool} {c:List Tr4} {s l:List Int} (h:AcAsk a b c s l):acR a b c s l = B (Acp b.length b a (aAll b.length c s l)):=by rw [acR,B_yes h];rfl
set_option maxHeartbeats 2000000 in

theorem implAc_pure (a:List Int) (b:List Bool) (c:List Tr4) (s:List Int) (l:List Int) (hS:Xy c):Pure Try.prog 50 [.st [li cI a,li cB b,li cT c],.st [li cI s,li cI l]] (.tup [.bool (acR a b c s l),.bool (B (AcAsk a b c s l))]):=by
  refine Pure.of_walk Try.func50 rfl (by simp [Try.f50]) (by simp [-zd,go_sem]) fun B hK=>?_
  cases hg:Vm.B (AutOk a b.length c) <;> cases hg2:Vm.B (LasOk s l)
  all_goals (repeat' (first
 | refine Qt ?_
 | refine Qc (id:=0) Γk18_ok [] (by kernel_rfl) ?_;simp [-zg,-zd,↓Qb,↓Qa,go_sem];try ((refine Xa hK 2 ?_);(refine Xa hK 3 ?_);simp [go_sem])
 | refine Qc (id:=1) Γk18_ok [9] (by kernel_rfl) ?_;simp [-zg,-zd,↓Qb,↓Qa,go_sem,hg,hg2,hS];try (refine ⟨fun s1a=>?_,fun s1a=>?_⟩ <;> (try simp [B_iff,B_not] at s1a) <;> try (refine ⟨fun s1b=>?_,fun s1b=>?_⟩ <;> (try simp [B_iff,B_not] at s1b)))
 | refine Qc (id:=2) Γk18_ok [] (by kernel_rfl) ?_;simp [-zg,-zd,↓Qb,↓Qa,go_sem]
 | ((have hA:AutOk a b.length c:=(by rw [B_iff] at hg;exact hg));(have hL:LasOk s l:=(by rw [B_iff] at hg2;exact hg2)));refine Qc (id:=3) Γk18_ok [] (by kernel_rfl) ?_;simp [-zg,-zd,↓Qb,↓Qa,go_sem,hA,hL]
 | refine Qd (c:=.tmp 13) ?_;simp [-zg,-zd,↓Qb,↓Qa,go_sem];try first | (refine ⟨?_,?_⟩ <;> refine zA ?_) | (refine ⟨fun c13=>?_,fun c13=>?_⟩ <;> (try simp [B_iff,B_not] at c13))
 | (refine Qe ?_)
 | (refine Qs ?_;simp [-zg,-zd,↓Qb,↓Qa,go_sem])
 | (refine Qr ?_;simp [-zg,-zd,↓Qb,↓Qa,go_sem])
 | (refine Qu ?_;simp [-zg,-zd,↓Qb,↓Qa,go_sem,Try.results50])
 | (intro hx;refine zA ?_)
 | (refine ⟨?_,?_⟩ <;> refine zA ?_)
 | (intro hx;constructor <;> intro hs)
 | (constructor <;> intro hs)
 | (refine ⟨?_,fun hs=>?_⟩;refine zA ?_)
 | (refine ⟨fun hs=>?_,?_⟩;rotate_left;refine zA ?_;rotate_left)))
  all_goals (first
 | (have hn:¬ AcAsk a b c s l:=(fun h=>by first | (have:=B_yes h.1;rw [hg] at this;cases this;done) | (have:=B_yes h.2;rw [hg2] at this;cases this;done));exact ⟨acR_no hn,hn⟩)
 | (have hn:¬ AcAsk a b c s l:=(fun h=>by first | (have:=B_yes h.1;rw [hg] at this;cases this;done) | (have:=B_yes h.2;rw [hg2] at this;cases this;done));simp [acR_no hn,B_no hn];done)
 | (exact ⟨(acR_yes ⟨hA,hL⟩).symm,⟨hA,hL⟩⟩)
 | skip)
@[go_sem] def zagr:Con:=.pure fun
  | [.st [.list n_a c_a,.list n_b c_b,.list n_c c_c],.st [.list n_s c_s,.list n_l c_l]]=>((Is cI n_a c_a) ∧ (Is cB n_b c_b) ∧ (Is cT n_c c_c) ∧ (Is cI n_s c_s) ∧ (Is cI n_l c_l) ∧ (Xy (de cT c_c)),.tup [.bool (acR (de cI c_a) (de cB c_b) (de cT c_c) (de cI c_s) (de cI c_l)),.bool (B (AcAsk (de cI c_a) (de cB c_b) (de cT c_c) (de cI c_s) (de cI c_l)))])
  | _=>(False,.any)
theorem zaor:ConOk Try.prog 50 zagr:=by
  refine ⟨Qp Try.func50 (by decide) rfl,fun args h=>?_⟩
  revert h
  dsimp only
  split
  · intro h
    obtain ⟨⟨a,rfl,rfl⟩,⟨b,rfl,rfl⟩,⟨c,rfl,rfl⟩,⟨s,rfl,rfl⟩,⟨l,rfl,rfl⟩,hS⟩:=h
    try simp only [Qm] at *
    exact ⟨implAc_pure a b c s l hS,by simp [go_sem]⟩
  · intro h
    exact h.elim

theorem acR_sem {a:List Int} {b:List Bool} {c:List Tr4} {s l:List Int} (hA:AutOk a b.length c) (hL:LasOk s l):acR a b c s l = B (SAcc b a c (ltr s l)):=by
  rw [acR_yes ⟨hA,hL⟩,Bool.eq_iff_iff,B_iff,B_iff]
  exact acp_sem hA.rng hA.1 (by have:=hL.2.2.2.1;omega) (hA.starts (Nat.le_refl _)).1
end
end Go.Proofs.Ytkjimmkemnmajaa.Vm

