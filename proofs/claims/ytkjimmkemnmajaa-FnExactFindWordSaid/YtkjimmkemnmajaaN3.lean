import Derived.Test.YtkjimmkemnmajaaA3
import Derived.Test.YtkjimmkemnmajaaJ9
/-
  impl.cyclic. No conditions.
-/
namespace Go.Proofs.Ytkjimmkemnmajaa.Vm
open Go
open Nat renaming sub_pos_of_lt → zsP
open List renaming getD_eq_getElem?_getD → zg,drop_one → zd,replicate → zrP
open Ne renaming symm → zS
noncomputable section
set_option linter.unusedVariables false
set_option linter.unusedSimpArgs false
set_option maxRecDepth 200000

def prtB (xs:List Bool) (k:Nat):List Bool:=xs.take k ++ zrP (xs.length - k) false
theorem prtB_len {xs:List Bool} {k:Nat} (h:k ≤ xs.length):(prtB xs k).length = xs.length:=by simp [prtB];omega
theorem prtB_zero (xs:List Bool):prtB xs 0 = zrP xs.length false:=by simp [prtB]
theorem prtB_all (xs:List Bool):prtB xs xs.length = xs:=by simp [prtB]
theorem prtB_set {xs:List Bool} {k:Nat} (h:k < xs.length) {v:Bool} (hv:nth xs k = v):(prtB xs k).set k v = prtB xs (k + 1):=by
  obtain ⟨m,e⟩:∃ m,xs.length - k = m + 1:=⟨xs.length - k - 1,by omega⟩
  have e2:xs.length - (k + 1) = m:=by omega
  rw [prtB,prtB,e,e2,List.replicate_succ,zajd (by simp;omega),List.take_succ_eq_append_getElem h,← Qm h,hv];simp
set_option maxHeartbeats 2000000 in

theorem cyclic_pure (nx:List (List Int)) (hx:Qz nx) (hs:NextS nx) (hn:nx.length ≤ 1048576):Pure Try.prog 161 [li cL nx] (fr 1 cB (cycL nx)):=by
  refine Pure.of_walk Try.func161 rfl (by simp [Try.f161]) (by simp [-zd,go_sem]) fun B hK=>?_
  obtain ⟨ps,hps⟩:∃ ps,Xu nx = ps:=⟨_,rfl⟩;have hpl:ps.length = nx.length:=(by rw [← hps];exact zahs hx);have hpr:=fun (i:Nat) (hi:i < nx.length)=>compsL_rng hx hi;simp only [hps] at hpr;have hcy:=fun (i:Nat) (hi:i < nx.length)=>cyc_iff hx hi;simp only [hps] at hcy;have hcl:=cycL_len nx
  all_goals (repeat' (first
 | refine Qq ?_
 | refine Qc (id:=0) Zn [] (by kernel_rfl) ?_;simp [-zg,-zd,↓Qb,↓Qa,go_sem]
 | refine Qc (id:=1) Zn [] (by kernel_rfl) ?_;simp [-zg,-zd,↓Qb,↓Qa,go_sem,hx,hs,hn,hps,hpl]
 | refine Qc (id:=2) Zn [] (by kernel_rfl) ?_;simp [-zg,-zd,↓Qb,↓Qa,go_sem,make_cI,(by omega:8 * (nx.length:Int) ≤ 281474976710656),(by omega:(nx.length:Int) ≤ 281474976710656),(by omega:(nx.length:Int) ≤ 9223372036854775807)];try ((refine Xa hK 3 ?_);(refine Xy 4 rfl fun b4 c4 j4 _ hc4 hj4=>?_);(simp [go_sem]))
 | refine Qc (id:=3) Zn [] (by kernel_rfl) ?_;simp [-zg,-zd,↓Qb,↓Qa,go_sem,hpl]
 | refine Qc (id:=4) Zn [] (by kernel_rfl) ?_;simp [-zg,-zd,↓Qb,↓Qa,go_sem]
 | ((have hkp:k < ps.length:=(by omega));(obtain ⟨p0,p1⟩:=hpr k (by omega));(have hset:=cnts_succ (ps:=ps) (n:=nx.length) (k:=k) (by omega) p0 p1);(have hcb:=cnts_le (ps:=ps) (n:=nx.length) (k:=k) (p:=(nth ps k).toNat) (by omega)));refine Qc (id:=5) Zn [] (by kernel_rfl) ?_;simp [-zg,-zd,↓Qb,↓Qa,go_sem,hkp,Qk hkp,zsP hkp,hpl,c17,zsP c17]
 | refine Qc (id:=6) Zn [] (by kernel_rfl) ?_;simp [-zg,-zd,↓Qb,↓Qa,go_sem,zafd,p0,p1,hset,Xj (x:=nth (cnts ps nx.length k) (nth ps k).toNat + 1) (by omega) (by omega),(show (nth ps k).toNat < nx.length by omega),(show (nth ps k).toNat < nx.length + j4 by omega),(show (nth ps k).toNat + 1 ≤ nx.length + j4 by omega)]
 | refine Qc (id:=7) Zn [] (by kernel_rfl) ?_;simp [-zg,-zd,↓Qb,↓Qa,go_sem,wrapS (k:=k) (by omega)]
 | ((obtain rfl:k = nx.length:=by omega));refine Qc (id:=8) Zn [] (by kernel_rfl) ?_;simp [-zg,-zd,↓Qb,↓Qa,go_sem,make_cB,(by omega:(nx.length:Int) ≤ 281474976710656),(by omega:(nx.length:Int) ≤ 9223372036854775807)];try ((refine Xy 7 rfl fun b7 c7 j7 q7 hc7 hj7=>?_);(dsimp only at q7);(have n74:¬ b7 = b4:=(by rintro rfl;simp [upd] at q7));(clear q7);(refine Xb (fun H1=>H1 b4 = some (cat cI (cnts ps nx.length nx.length) ++ zrP j4 .any) ∧ H1 b7 = some (cat cB (prtB (cycL nx) 0) ++ zrP j7 .any)) ⟨by simp [upd,n74,zS n74],by simp [upd,prtB_zero,hcl]⟩ fun H1 ⟨w4,w7⟩=>?_))
 | refine Qc (id:=9) Zn [] (by kernel_rfl) ?_;simp [-zg,-zd,↓Qb,↓Qa,go_sem]
 | refine Qc (id:=10) Zn [] (by kernel_rfl) ?_;simp [-zg,-zd,↓Qb,↓Qa,go_sem]
 | refine Qc (id:=11) Zn [] (by kernel_rfl) ?_;simp [-zg,-zd,↓Qb,↓Qa,go_sem]
 | ((have hkp:q.1 < ps.length:=(by omega));(have hkn:q.1 < nx.length:=(by omega));(obtain ⟨p0,p1⟩:=hpr q.1 hkn);(have hpt:=prtB_len (xs:=cycL nx) (k:=q.1) (by omega));(have hcq:=hcy q.1 hkn);(have hnc:=nth_cycL hkn));refine Qc (id:=12) Zn [45] (by kernel_rfl) ?_;simp [-zg,-zd,↓Qb,↓Qa,go_sem,g2,g3,hkn,Qk hkn,zsP hkn,hkp,Qk hkp,zsP hkp,hpl,hpt,hcl,zafd,p0,p1,n74,zS n74,(show (nth ps q.1).toNat < nx.length by omega),(show (nth ps q.1).toNat < nx.length + j4 by omega),(show (nth ps q.1).toNat + 1 ≤ nx.length + j4 by omega),(show q.1 < nx.length + j7 by omega),(show q.1 + 1 ≤ nx.length + j7 by omega)];try (refine ⟨fun s12a=>?_,fun s12a=>?_⟩ <;> (try simp [B_iff,B_not] at s12a) <;> try (refine ⟨fun s12b=>?_,fun s12b=>?_⟩ <;> (try simp [B_iff,B_not] at s12b)))
 | ((first | (have hv:nth (cycL nx) q.1 = true:=(by rw [hnc];exact B_yes (hcq.1 (.inl s12a)));have hst:=prtB_set (by omega) hv) | (have hv:nth (cycL nx) q.1 = Vm.B ((q.1:Int) ∈ nth nx q.1):=(by rw [hnc,Bool.eq_iff_iff,B_iff,B_iff,← hcq];exact ⟨fun h=>h.resolve_left (by omega),.inr⟩);have hst:=prtB_set (by omega) hv));(refine Xb (fun H1=>H1 b4 = some (cat cI (cnts ps nx.length nx.length) ++ zrP j4 .any) ∧ H1 b7 = some (cat cB (prtB (cycL nx) (q.1 + 1)) ++ zrP j7 .any)) ⟨by simp [upd,n74,zS n74,g2],by simp [upd,hst]⟩ fun H9 ⟨t4,t7⟩=>?_));refine Qc (id:=13) Zn [] (by kernel_rfl) ?_;simp [-zg,-zd,↓Qb,↓Qa,go_sem,wrapS (k:=q.1) (by omega)]
 | ((obtain ⟨kx,Hx⟩:=q);(dsimp only at *);(obtain rfl:kx = nx.length:=by omega);(have hpa:prtB (cycL nx) nx.length = cycL nx:=(by have:=prtB_all (cycL nx);rwa [hcl] at this));(rw [hpa] at g3);(refine Jl 7 (b:=b7) (all:=cat cB (cycL nx) ++ zrP j7 .any) rfl g3 (by omega) (by simp [Qu,hcl]) (by simp [Qu,hcl];omega) ?_));refine Qc (id:=14) Zn [] (by kernel_rfl) ?_;simp [-zg,-zd,↓Qb,↓Qa,go_sem,hcl,Xn (f:=cB) (cycL nx) (zrP j7 .any) (n:=nx.length) hcl.symm]
 | refine Qd (c:=.tmp 17) ?_;simp [-zg,-zd,↓Qb,↓Qa,go_sem];try first | (refine ⟨?_,?_⟩ <;> refine zA ?_) | (refine ⟨fun c17=>?_,fun c17=>?_⟩ <;> (try simp [B_iff,B_not] at c17))
 | refine Qd (c:=.tmp 33) ?_;simp [-zg,-zd,↓Qb,↓Qa,go_sem];try first | (refine ⟨?_,?_⟩ <;> refine zA ?_) | (refine ⟨fun c33=>?_,fun c33=>?_⟩ <;> (try simp [B_iff,B_not] at c33))
 | (refine Qf (id:=0) (Qv (ι:=Nat) (fun k:Nat=>⟨(upd (upd (upd (upd (upd (upd (fun _=>.any) 0 (li cL nx)) 3 (li cI ps)) 4 (.sl b4 1 0 nx.length c4)) 14 (li cI ps)) 15 (.int .i64 nx.length)) 16 (.int .i64 k)),upd (fun _=>none) b4 (some (cat cI (cnts ps nx.length k) ++ zrP j4 .any))⟩) (fun k=>k ≤ nx.length) (fun k=>nx.length - k) (0) ?_ ?_ ?_);exact Nat.zero_le _;((repeat' (first | exact Qg (by assumption) | exact Qi | refine Qj ?_ ?_ | refine Qh ?_)) <;> simp [-zg,-zd,↓Qb,↓Qa,go_sem,cnts_zero,hpl,li]);rintro k hk)
 | (refine ⟨k + 1,by omega,by first | omega | (simp;done) | (simp;omega),?_⟩;((repeat' (first | exact Qg (by assumption) | exact Qi | refine Qj ?_ ?_ | refine Qh ?_)) <;> simp [-zg,-zd,↓Qb,↓Qa,go_sem,hpl,li]))
 | (refine Qf (id:=2) (Qv (ι:=Nat × Hp) (fun q:Nat × Hp=>⟨(upd (upd (upd (upd (upd (upd (upd (fun _=>.any) 0 (li cL nx)) 3 (li cI ps)) 4 (.sl b4 1 0 nx.length c4)) 7 (.sl b7 1 0 nx.length c7)) 30 (li cL nx)) 31 (.int .i64 nx.length)) 32 (.int .i64 q.1)),q.2⟩) (fun q=>q.1 ≤ nx.length ∧ q.2 b4 = some (cat cI (cnts ps nx.length nx.length) ++ zrP j4 .any) ∧ q.2 b7 = some (cat cB (prtB (cycL nx) q.1) ++ zrP j7 .any)) (fun q=>nx.length - q.1) ((0,H1)) ?_ ?_ ?_);exact ⟨Nat.zero_le _,w4,w7⟩;((repeat' (first | exact Qg (by assumption) | exact Qi | refine Qj ?_ ?_ | refine Qh ?_)) <;> simp [-zg,-zd,↓Qb,↓Qa,go_sem,hpl,li]);rintro q ⟨g1,g2,g3⟩)
 | (refine ⟨(q.1 + 1,H9),⟨by dsimp only;omega,t4,t7⟩,by first | omega | (simp;done) | (simp;omega),?_⟩;((repeat' (first | exact Qg (by assumption) | exact Qi | refine Qj ?_ ?_ | refine Qh ?_)) <;> simp [-zg,-zd,↓Qb,↓Qa,go_sem,hpl,li]))
 | (refine Qf ?_)
 | (refine Qo ?_;simp [-zg,-zd,↓Qb,↓Qa,go_sem])
 | (refine Qn ?_;simp [-zg,-zd,↓Qb,↓Qa,go_sem])
 | (refine Qr ?_;simp [-zg,-zd,↓Qb,↓Qa,go_sem,Try.results161])
 | (intro hx;refine zA ?_)
 | (refine ⟨?_,?_⟩ <;> refine zA ?_)
 | (intro hx;constructor <;> intro hs)
 | (constructor <;> intro hs)
 | (refine ⟨?_,fun hs=>?_⟩;refine zA ?_)
 | (refine ⟨fun hs=>?_,?_⟩;rotate_left;refine zA ?_;rotate_left)))
@[go_sem] def zadu:Con:=.pure fun
  | [.list n_nx c_nx]=>((Is cL n_nx c_nx) ∧ (Qz (de cL c_nx)) ∧ (NextS (de cL c_nx)) ∧ ((de cL c_nx).length ≤ 1048576),fr 1 cB (cycL (de cL c_nx)))
  | _=>(False,.any)
theorem zait:ConOk Try.prog 161 zadu:=by
  refine ⟨Qs Try.func161 (by decide) rfl,fun args h=>?_⟩
  revert h
  dsimp only
  split
  · intro h
    obtain ⟨⟨nx,rfl,rfl⟩,hx,hs,hn⟩:=h
    try simp only [Qw] at *
    exact ⟨cyclic_pure nx hx hs hn,by simp [go_sem]⟩
  · intro h
    exact h.elim
@[go_sem] def Γn1:FuncId → Con:=ext Γa23 161 zadu
theorem Γn1_ok:∀ g,ConOk Try.prog g (Γn1 g):=Qp Zn zait


structure DQ where
  m:List Bool
  td:List Int
  b:Nat
  cp:Nat
  jl:List D
  H:Hp
structure DQm (b5 j5:Nat) (x:DQ):Prop where
  m5:x.H b5 = some (cat cB x.m ++ zrP j5 .any)
  mb:x.H x.b = some (cat cI x.td ++ x.jl)
  nb:¬ x.b = b5
  r1:x.td.length ≤ x.cp
  r2:x.cp ≤ x.td.length + x.jl.length
@[go_sem] def Γn2:FuncId → Con:=Γn1
theorem Jz:∀ g,ConOk Try.prog g (Γn2 g):=Γn1_ok

theorem Jc (l:List D) (i:Nat) (d:D):stSeg l i [d] = l.set i d:=rfl
theorem make_oN (n:Nat):makeD [.nil] n = cat oN (zrP n []):=by
  rw [oN_rep,zaee]
theorem oN_clen {xs:List (List Int)} {junk:List D}:(cat oN xs ++ junk).length = xs.length + junk.length:=by rw [List.length_append,Qu];omega
theorem oN_add {n:Nat} {es:List Tr4} (hr:InRng n es) {k:Nat} (h:k < es.length) (junk:List D):(cat oN (nxE n es k) ++ junk).set (nth es k).1.toNat (.fr 1 ((nth (nxE n es k) (nth es k).1.toNat).length + 1) (cat cI (nth (nxE n es k) (nth es k).1.toNat ++ [(nth es k).2.2.2]))) = cat oN (nxE n es (k + 1)) ++ junk:=by
  have hk:=(hr k h).1
  have hl:=Xr n es k (by omega)
  have:=oN_set (xs:=nxE n es k) (i:=(nth es k).1.toNat) (junk:=junk) (y:=nth (nxE n es k) (nth es k).1.toNat ++ [(nth es k).2.2.2]) (by omega)
  rw [zadi h,addE,← this,zaem (by simp)]
  simp
theorem oN_cell {xs:List (List Int)} {i:Nat} (h:i < xs.length) (hn:¬ nth xs i = []) (junk:List D):(cat oN xs ++ junk)[i]? = some (.fr 1 (nth xs i).length (cat cI (nth xs i))):=by
  have h1:i < (cat oN xs ++ junk).length:=by rw [oN_clen];omega
  have:=oN_get h junk
  rw [List.getD_eq_getElem?_getD,List.getElem?_eq_getElem h1,Option.getD_some] at this
  rw [List.getElem?_eq_getElem h1,this,zaem hn]
set_option maxHeartbeats 4000000 in

theorem next_pure (a:List Int) (b:List Bool) (c:List Tr4) (hr:InRng b.length c) (hb:b.length ≤ 1048576) (hc:c.length ≤ 1048576):Pure Try.prog 76 [.st [li cI a,li cB b,li cT c]] (fr 1 oN (nxE b.length c c.length)):=by
  refine Pure.of_walk Try.func76 rfl (by simp [Try.f76]) (by simp [-zd,go_sem]) fun B hK=>?_
  (repeat' (first
 | refine Qq ?_
 | refine Qc (id:=0) Jz [] (by kernel_rfl) ?_;simp [-zg,-zd,↓Qb,↓Qa,go_sem];try (refine Xa hK 1 ?_;simp [go_sem])
 | refine Qc (id:=1) Jz [] (by kernel_rfl) ?_;simp [-zg,-zd,↓Qb,↓Qa,go_sem,make_oN,(by omega:24 * (b.length:Int) ≤ 281474976710656),(by omega:(b.length:Int) ≤ 281474976710656),(by omega:(b.length:Int) ≤ 9223372036854775807)];try ((refine Xy 3 rfl fun b3 c3 j3 q3 hc3 hj3=>?_);(clear q3);(refine Xb (fun H1=>H1 b3 = some (cat oN (nxE b.length c 0) ++ zrP j3 D.any)) (by simp [upd,zagx]) fun H1 w3=>?_))
 | refine Qc (id:=2) Jz [] (by kernel_rfl) ?_;simp [-zg,-zd,↓Qb,↓Qa,go_sem]
 | refine Qc (id:=3) Jz [] (by kernel_rfl) ?_;simp [-zg,-zd,↓Qb,↓Qa,go_sem]
 | refine Qc (id:=4) Jz [] (by kernel_rfl) ?_;simp [-zg,-zd,↓Qb,↓Qa,go_sem,c14,Qk c14,zsP c14];try ((refine Xa hK 5 ?_);(simp [go_sem]);(obtain ⟨⟨p0,p1⟩,p2,p3⟩:=hr q.1 c14);(have hnl:=Xr b.length c q.1 (by omega));(have hrow:=nxE_row hr q.1 (by omega) (nth c q.1).1.toNat);(have hfl:(nth c q.1).1.toNat < b.length:=(by omega));(have hadd:=oN_add hr c14 (zrP j3 D.any));(have hgt:=oN_get (xs:=nxE b.length c q.1) (i:=(nth c q.1).1.toNat) (by omega) (zrP j3 D.any));(have hcl:=oN_clen (xs:=nxE b.length c q.1) (junk:=zrP j3 D.any));(rw [List.length_replicate] at hcl);(by_cases he:nth (nxE b.length c q.1) (nth c q.1).1.toNat = []);(rw [he,oNd_nil] at hgt);(rw [he] at hadd);(obtain ⟨cells,hce⟩:∃ cells,cat oN (nxE b.length c q.1) ++ zrP j3 D.any = cells:=⟨_,rfl⟩);(rw [hce] at hgt hcl g2 hadd);(have hadd1:cells.set (nth c q.1).1.toNat (.fr 1 1 [.int .i64 (nth c q.1).2.2.2]) = cat oN (nxE b.length c (q.1 + 1)) ++ zrP j3 D.any:=hadd);rotate_left;(have hcell:=oN_cell (by omega) he (zrP j3 D.any));(refine Zr b3 (nth c q.1).1.toNat g2 hcell fun rb rcp rj q8 hrc hrj=>?_);(dsimp only at q8);(have rn:¬ rb = b3:=(by rintro rfl;rw [g2] at q8;cases q8));(clear q8);(have hset2:∀ z,((cat oN (nxE b.length c q.1) ++ zrP j3 D.any).set (nth c q.1).1.toNat (.sl rb 1 0 (nth (nxE b.length c q.1) (nth c q.1).1.toNat).length rcp)).set (nth c q.1).1.toNat z = (cat oN (nxE b.length c q.1) ++ zrP j3 D.any).set (nth c q.1).1.toNat z:=fun z=>List.set_set ..);(have hgt2:((cat oN (nxE b.length c q.1) ++ zrP j3 D.any).set (nth c q.1).1.toNat (.sl rb 1 0 (nth (nxE b.length c q.1) (nth c q.1).1.toNat).length rcp)).getD (nth c q.1).1.toNat D.any = .sl rb 1 0 (nth (nxE b.length c q.1) (nth c q.1).1.toNat).length rcp:=(by rw [List.getD_eq_getElem?_getD,List.getElem?_set_self (by rw [oN_clen];omega)];rfl));(have hadd2:=hadd);(rw [← hset2] at hadd2);(have hcl2:((cat oN (nxE b.length c q.1) ++ zrP j3 D.any).set (nth c q.1).1.toNat (.sl rb 1 0 (nth (nxE b.length c q.1) (nth c q.1).1.toNat).length rcp)).length = (nxE b.length c q.1).length + j3:=(by rw [List.length_set];exact hcl));(obtain ⟨cells,hce⟩:∃ cells,(cat oN (nxE b.length c q.1) ++ zrP j3 D.any).set (nth c q.1).1.toNat (.sl rb 1 0 (nth (nxE b.length c q.1) (nth c q.1).1.toNat).length rcp) = cells:=⟨_,rfl⟩);(refine Xb (fun H4=>H4 b3 = some cells ∧ H4 rb = some (cat cI (nth (nxE b.length c q.1) (nth c q.1).1.toNat) ++ zrP rj D.any)) ⟨by simp [upd,rn,zS rn,← hce],by simp [upd,rn,zS rn]⟩ fun H4 ⟨g4,hrb⟩=>?_);(rw [hce] at hgt2 hadd2 hcl2))
 | refine zaac (id:=5) Jz mixed [(b3,cells)] [] [3,5] (by kernel_rfl) (by kernel_rfl) (by simp [-zg,-zd,↓Qb,↓Qa,go_sem,Jc,g4,hrb,rn,zS rn,hgt2,hcl2,p0,p1,p2,p3,hnl,hfl,Zv,hadd2,(show rcp ≤ (nth (nxE b.length c q.1) (nth c q.1).1.toNat).length + rj by omega),(show (nth c q.1).1.toNat < b.length + j3 by omega),(show (nth c q.1).1.toNat + 1 ≤ b.length + j3 by omega),(show (nth (nxE b.length c q.1) (nth c q.1).1.toNat).length + 1 ≤ 9223372036854775807 by omega),(show (nth (nxE b.length c q.1) (nth c q.1).1.toNat).length ≤ 9223372036854775806 by omega),(show 2 * ((nth (nxE b.length c q.1) (nth c q.1).1.toNat).length + 1) * 8 ≤ 281474976710656 by omega),Xi]) (by simp [-zg,-zd,↓Qb,↓Qa,go_sem,Jc,g4,hrb,rn,zS rn,hgt2,hcl2,p0,p1,p2,p3,hnl,hfl,Zv,hadd2,(show rcp ≤ (nth (nxE b.length c q.1) (nth c q.1).1.toNat).length + rj by omega),(show (nth c q.1).1.toNat < b.length + j3 by omega),(show (nth c q.1).1.toNat + 1 ≤ b.length + j3 by omega),(show (nth (nxE b.length c q.1) (nth c q.1).1.toNat).length + 1 ≤ 9223372036854775807 by omega),(show (nth (nxE b.length c q.1) (nth c q.1).1.toNat).length ≤ 9223372036854775806 by omega),(show 2 * ((nth (nxE b.length c q.1) (nth c q.1).1.toNat).length + 1) * 8 ≤ 281474976710656 by omega),Xi]) ?_;simp [-zg,-zd,↓Qb,↓Qa,go_sem,Jc,g4,hrb,rn,zS rn,hgt2,hcl2,p0,p1,p2,p3,hnl,hfl,Zv,hadd2,(show rcp ≤ (nth (nxE b.length c q.1) (nth c q.1).1.toNat).length + rj by omega),(show (nth c q.1).1.toNat < b.length + j3 by omega),(show (nth c q.1).1.toNat + 1 ≤ b.length + j3 by omega),(show (nth (nxE b.length c q.1) (nth c q.1).1.toNat).length + 1 ≤ 9223372036854775807 by omega),(show (nth (nxE b.length c q.1) (nth c q.1).1.toNat).length ≤ 9223372036854775806 by omega),(show 2 * ((nth (nxE b.length c q.1) (nth c q.1).1.toNat).length + 1) * 8 ≤ 281474976710656 by omega),Xi];try ((refine Xb (fun H1=>H1 b3 = some (cat oN (nxE b.length c (q.1 + 1)) ++ zrP j3 D.any)) (by first | (simp [upd,Jc,rn,zS rn,hadd2];done) | (simp [upd,Jc,hadd1];done)) fun H9 t3=>?_))
 | refine zaac (id:=5) Jz mixed [(b3,cells)] [] [3,5] (by kernel_rfl) (by kernel_rfl) (by simp [-zg,-zd,↓Qb,↓Qa,go_sem,Jc,g2,hgt,hcl,p0,p1,p2,p3,hnl,hfl,hadd1,(show (nth c q.1).1.toNat < b.length + j3 by omega),(show (nth c q.1).1.toNat + 1 ≤ b.length + j3 by omega),(show makeD [D.int .i64 0] 1 = [D.int .i64 0] from rfl)]) (by simp [-zg,-zd,↓Qb,↓Qa,go_sem,Jc,g2,hgt,hcl,p0,p1,p2,p3,hnl,hfl,hadd1,(show (nth c q.1).1.toNat < b.length + j3 by omega),(show (nth c q.1).1.toNat + 1 ≤ b.length + j3 by omega),(show makeD [D.int .i64 0] 1 = [D.int .i64 0] from rfl)]) ?_;simp [-zg,-zd,↓Qb,↓Qa,go_sem,Jc,g2,hgt,hcl,p0,p1,p2,p3,hnl,hfl,hadd1,(show (nth c q.1).1.toNat < b.length + j3 by omega),(show (nth c q.1).1.toNat + 1 ≤ b.length + j3 by omega),(show makeD [D.int .i64 0] 1 = [D.int .i64 0] from rfl)];try ((refine Xb (fun H1=>H1 b3 = some (cat oN (nxE b.length c (q.1 + 1)) ++ zrP j3 D.any)) (by first | (simp [upd,Jc,rn,zS rn,hadd2];done) | (simp [upd,Jc,hadd1];done)) fun H9 t3=>?_))
 | refine Qc (id:=6) Jz [] (by kernel_rfl) ?_;simp [-zg,-zd,↓Qb,↓Qa,go_sem,wrapS (k:=q.1) (by omega)]
 | ((obtain ⟨kx,Hx⟩:=q);(dsimp only at *);(obtain rfl:kx = c.length:=by omega);(have hnl:=Xr b.length c c.length (Nat.le_refl _));(refine Jl 3 (b:=b3) (all:=cat oN (nxE b.length c c.length) ++ zrP j3 D.any) rfl g2 (by omega) (by rw [oN_clen];simp;omega) (by rw [oN_clen];simp;omega) ?_));refine Qc (id:=7) Jz [] (by kernel_rfl) ?_;simp [-zg,-zd,↓Qb,↓Qa,go_sem,hnl,Xn (f:=oN) (nxE b.length c c.length) (zrP j3 D.any) (n:=b.length) hnl.symm]
 | refine Qd (c:=.tmp 14) ?_;simp [-zg,-zd,↓Qb,↓Qa,go_sem];try first | (refine ⟨?_,?_⟩ <;> refine zA ?_) | (refine ⟨fun c14=>?_,fun c14=>?_⟩ <;> (try simp [B_iff,B_not] at c14))
 | (refine Qf (id:=0) (Qv (ι:=Nat × Hp) (fun q:Nat × Hp=>⟨(upd (upd (upd (upd (upd (fun _=>.any) 1 (.pd [li cI a,li cB b,li cT c])) 3 (.sl b3 1 0 b.length c3)) 11 (li cT c)) 12 (.int .i64 c.length)) 13 (.int .i64 q.1)),q.2⟩) (fun q=>q.1 ≤ c.length ∧ q.2 b3 = some (cat oN (nxE b.length c q.1) ++ zrP j3 D.any)) (fun q=>c.length - q.1) ((0,H1)) ?_ ?_ ?_);exact ⟨Nat.zero_le _,w3⟩;((repeat' (first | exact Qg (by assumption) | exact Qi | refine Qj ?_ ?_ | refine Qh ?_)) <;> simp [-zg,-zd,↓Qb,↓Qa,go_sem]);rintro q ⟨g1,g2⟩)
 | (refine ⟨(q.1 + 1,H9),⟨by dsimp only;omega,t3⟩,by first | omega | (simp;done) | (simp;omega),?_⟩;((repeat' (first | exact Qg (by assumption) | exact Qi | refine Qj ?_ ?_ | refine Qh ?_)) <;> simp [-zg,-zd,↓Qb,↓Qa,go_sem]))
 | (refine Qf ?_)
 | (refine Qo ?_;simp [-zg,-zd,↓Qb,↓Qa,go_sem])
 | (refine Qn ?_;simp [-zg,-zd,↓Qb,↓Qa,go_sem])
 | (refine Qr ?_;simp [-zg,-zd,↓Qb,↓Qa,go_sem,Try.results76])
 | (intro hx;refine zA ?_)
 | (refine ⟨?_,?_⟩ <;> refine zA ?_)
 | (intro hx;constructor <;> intro hs)
 | (constructor <;> intro hs)
 | (refine ⟨?_,fun hs=>?_⟩;refine zA ?_)
 | (refine ⟨fun hs=>?_,?_⟩;rotate_left;refine zA ?_;rotate_left)))
@[go_sem] def zaha:Con:=.pure fun
  | [.st [.list n_a c_a,.list n_b c_b,.list n_c c_c]]=>((Is cI n_a c_a) ∧ (Is cB n_b c_b) ∧ (Is cT n_c c_c) ∧ (InRng (de cB c_b).length (de cT c_c)) ∧ ((de cB c_b).length ≤ 1048576) ∧ ((de cT c_c).length ≤ 1048576),fr 1 oN (nxE (de cB c_b).length (de cT c_c) (de cT c_c).length))
  | _=>(False,.any)
theorem next_pureC_ok:ConOk Try.prog 76 zaha:=by
  refine ⟨Qs Try.func76 (by decide) rfl,fun args h=>?_⟩
  revert h
  dsimp only
  split
  · intro h
    obtain ⟨⟨a,rfl,rfl⟩,⟨b,rfl,rfl⟩,⟨c,rfl,rfl⟩,hr,hb,hc⟩:=h
    try simp only [Qw] at *
    exact ⟨next_pure a b c hr hb hc,by simp [go_sem]⟩
  · intro h
    exact h.elim
@[go_sem] def Γn3:FuncId → Con:=ext Γn2 76 zaha
theorem Γn3_ok:∀ g,ConOk Try.prog g (Γn3 g):=Qp Jz next_pureC_ok

end
end Go.Proofs.Ytkjimmkemnmajaa.Vm

