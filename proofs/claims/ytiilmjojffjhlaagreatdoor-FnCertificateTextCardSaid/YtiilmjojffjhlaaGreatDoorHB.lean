import Derived.Test.YtiilmjojffjhlaaGreatDoorN9
import Derived.Test.YtiilmjojffjhlaaGreatDoorF7
/-
  spec.l8Product. No conditions.
-/
namespace Go.Proofs.YtiilmjojffjhlaaGreatDoor.Vm
open Go
open Nat renaming sub_pos_of_lt → zsP
open List renaming getD_eq_getElem?_getD → zg,drop_one → zd,replicate → zrP
open Ne renaming symm → zS
noncomputable section
set_option linter.unusedVariables false
set_option linter.unusedSimpArgs false
set_option maxRecDepth 200000

attribute [go_sem] VS stepS isLoad isApp snH AGL
def tkH (x:Int) (e:Tr4):Bool:=decide (bitsD .and .i64 x e.2.1 = e.2.2.1)

theorem onH_pure (p:Int) (q:Int) (r:Int) (s:Int) (x:Int)  : Pure Tryz.prog 140 [.st [.int .i64 p,.int .i64 q,.int .i64 r,.int .i64 s],.int .i64 x] (.bool (tkH x (p,q,r,s))):=by
  refine Pure.of_walk Tryz.func140 rfl (by simp [Tryz.f140]) (by simp [-zd,go_sem]) fun B hK=>?_
  (repeat' (first
 | refine Qt ?_
 | refine Qc (id:=0) Γn13_ok [] (by kernel_rfl) ?_;simp [-zg,-zd,↓Qb,↓Qa,go_sem,tkH];try (refine Xh hK 2 ?_;simp [go_sem])
 | refine Qc (id:=1) Γn13_ok [] (by kernel_rfl) ?_;simp [-zg,-zd,↓Qb,↓Qa,go_sem,tkH]
 | (refine Qe ?_)
 | (refine Qs ?_;simp [-zg,-zd,↓Qb,↓Qa,go_sem])
 | (refine Qr ?_;simp [-zg,-zd,↓Qb,↓Qa,go_sem])
 | (refine Qq ?_;simp [-zg,-zd,↓Qb,↓Qa,go_sem,Tryz.results140,tkH])
 | (intro hx;refine zA ?_)
 | (refine ⟨?_,?_⟩ <;> refine zA ?_)
 | (intro hx;constructor <;> intro hs)
 | (constructor <;> intro hs)
 | (refine ⟨?_,fun hs=>?_⟩;refine zA ?_)
 | (refine ⟨fun hs=>?_,?_⟩;rotate_left;refine zA ?_;rotate_left)))
@[go_sem] def onH_pureC:Con:=.pure fun
  | [.st [.int .i64 p,.int .i64 q,.int .i64 r,.int .i64 s],.int .i64 x]=>(True,.bool (tkH x (p,q,r,s)))
  | _=>(False,.any)
theorem onH_pureC_ok:ConOk Tryz.prog 140 onH_pureC:=by
  refine ⟨Qo Tryz.func140 (by decide) rfl,fun args h=>?_⟩
  revert h
  dsimp only
  split
  · intro h
    skip
    skip
    exact ⟨onH_pure _ _ _ _ _,by simp [go_sem]⟩
  · intro h
    exact h.elim
@[go_sem] def Γh1:FuncId → Con:=ext Γn13 140 onH_pureC
theorem Zx:∀ g,ConOk Tryz.prog g (Γh1 g):=Qn Γn13_ok onH_pureC_ok

theorem place_leH {i m n:Nat} (h:i < m):i * n + n ≤ m * n:=by rw [← Nat.succ_mul];exact Nat.mul_le_mul_right n h
theorem oN_addH {xs:List (List Int)} {f t:Int} (hf:f.toNat < xs.length) (junk:List D):(cat oN xs ++ junk).set f.toNat (.fr 1 ((nth xs f.toNat).length + 1) (cat cI (nth xs f.toNat ++ [t]))) = cat oN (addE xs f t) ++ junk:=by
  have:=oN_set (xs:=xs) (i:=f.toNat) (junk:=junk) (y:=nth xs f.toNat ++ [t]) hf
  rw [addE,← this,zamm (by simp)]
  simp
structure PRw (N P n m:Nat) (X:List (List Int)):Prop where
  len:X.length = N
  rng:∀ i,i < N → ∀ y,y ∈ nth X i → 0 ≤ y ∧ y < N
  row:∀ i,i < N → (nth X i).length ≤ (if i < P then 122880 else if i < P + n then m else 0)
theorem PRw.start (N n:Nat):PRw N 0 n 0 (zrP N []):=by
  have h:∀ i,i < N → nth (zrP N ([]:List Int)) i = []:=fun i hi=>by rw [Xc (by simpa using hi)];simp
  exact ⟨by simp,fun i hi y hy=>(by rw [h i hi] at hy;cases hy),fun i hi=>(by rw [h i hi];simp)⟩
theorem PRw.small {N P n m:Nat} {X:List (List Int)} (h:PRw N P n m X) (i:Nat) (hi:i < N) (hm:m ≤ 122880):(nth X i).length ≤ 122880:=by
  have:=h.row i hi
  split at this
  · exact this
  · split at this <;> omega
theorem PRw.add {N P n m:Nat} {X:List (List Int)} (h:PRw N P n m X) {f t:Int} (h1:P ≤ f.toNat) (h2:f.toNat < P + n) (hf:f.toNat < N) (t0:0 ≤ t) (t1:t < N):PRw N P n (m + 1) (addE X f t):=by
  have hf2:f.toNat < X.length:=by rw [h.len];exact hf
  refine ⟨by rw [addE_len,h.len],fun i hi y hy=>?_,fun i hi=>?_⟩
  · rw [mem_addE hf2] at hy
    rcases hy with q | ⟨_,rfl⟩
    · exact h.rng i hi y q
    · exact ⟨t0,t1⟩
  · rw [nth_addE hf2]
    have:=h.row i hi
    split
    · rename_i e
      subst e
      rw [if_neg (by omega),if_pos h2] at this
      rw [if_neg (by omega),if_pos h2]
      simp;omega
    · split
      · rename_i e;rw [if_pos e] at this;exact this
      · rename_i e
        rw [if_neg e] at this
        split
        · rename_i e2;rw [if_pos e2] at this;omega
        · rename_i e2;rw [if_neg e2] at this;exact this
theorem PRw.mono {N P n m m':Nat} {X:List (List Int)} (h:PRw N P n m X) (hm:m ≤ m'):PRw N P n m' X:=⟨h.len,h.rng,fun i hi=>by
  have:=h.row i hi
  split
  · rename_i e;rw [if_pos e] at this;exact this
  · rename_i e
    rw [if_neg e] at this
    split
    · rename_i e2;rw [if_pos e2] at this;omega
    · rename_i e2;rw [if_neg e2] at this;exact this⟩
theorem PRw.next {N P n m:Nat} {X:List (List Int)} (h:PRw N P n m X) (hm:m ≤ 122880):PRw N (P + n) n 0 X:=⟨h.len,h.rng,fun i hi=>by
  have:=h.row i hi
  split
  · exact h.small i hi hm
  · rename_i e
    rw [if_neg (by omega),if_neg e] at this
    split <;> omega⟩
theorem PRw.ok {N P n:Nat} {X:List (List Int)} (h:PRw N P n 0 X):Zr X ∧ NextS X ∧ X.length = N:=by
  refine ⟨fun j hj k hk=>?_,fun j hj=>?_,h.len⟩
  · rw [h.len] at hj ⊢
    exact h.rng j hj _ (Xz hk)
  · rw [h.len] at hj
    have:=h.small j hj (by omega)
    omega
theorem autN64 {a:List Int} {n:Nat} {ec:List Tr4} (h:AutOk a n ec):n ≤ 64 ∧ ec.length ≤ 2048:=by
  obtain ⟨n1,n2,n3,n4⟩:=h.sizes
  exact ⟨n2,n4⟩

@[go_sem] def zacl:List (List Int) → D:=fun x=>fr 1 oN x
def zabt (ga:List Ints2) (gb:List (List Int)) (ls:List Int) (a:List Int) (bb:List Bool) (ec:List Tr4):List (List Int) → Prop:=fun x=>Zr x ∧ NextS x ∧ x.length = bb.length * ga.length
def Jm (ga:List Ints2) (gb:List (List Int)) (ls:List Int) (a:List Int) (bb:List Bool) (ec:List Tr4) (c:Any):List (List Int):=sel (zabt ga gb ls a bb ec) (zrP (bb.length * ga.length) []) c
theorem zakb (ga:List Ints2) (gb:List (List Int)) (ls:List Int) (a:List Int) (bb:List Bool) (ec:List Tr4) (hG:GraphOk ga gb) (hl:ls.length = ga.length) (hA:AutOk a bb.length ec) (c:Any):zabt ga gb ls a bb ec (Jm ga gb ls a bb ec c):=Xl (p:=zabt ga gb ls a bb ec) (x0:=zrP (bb.length * ga.length) []) ((PRw.start (bb.length * ga.length) bb.length).ok) c
theorem l8Product_ret (ga:List Ints2) (gb:List (List Int)) (ls:List Int) (a:List Int) (bb:List Bool) (ec:List Tr4) {e_:Exit} {S_:St} (x:List (List Int)) (he_:e_ = .ret ∨ e_ = .normal)
    (h1:(Qd Tryz.prog S_ Tryz.f101.results.toList).1 ∧ resD (Qd Tryz.prog S_ Tryz.f101.results.toList).2.1 = zacl x) (hg:zabt ga gb ls a bb ec x) :
    retR Tryz.prog Tryz.f101 (fun c=>(zacl (Jm ga gb ls a bb ec c),fun _=>none)) e_ S_:=Xi (enc:=zacl) x he_ h1 hg
set_option maxHeartbeats 8000000 in
theorem l8Product_pure (ga:List Ints2) (gb:List (List Int)) (ls:List Int) (a:List Int) (bb:List Bool) (ec:List Tr4) (hG:GraphOk ga gb) (hl:ls.length = ga.length) (hA:AutOk a bb.length ec):PureR Tryz.prog 101 [.st [li cP ga,li cL gb],li cI ls,.st [li cI a,li cB bb,li cT ec]] (fun c=>zacl (Jm ga gb ls a bb ec c)):=by
  refine PureR.of_walk Tryz.func101 rfl (by simp [Tryz.f101]) (fun c=>by simp [-zd,go_sem]) fun B hK=>?_
  obtain ⟨n64,e2048⟩:=autN64 hA;have hr:=hA.rng;have hg60:=hG.2.1;have hgl:=hG.2.2.1;obtain ⟨N,hN⟩:∃ N,bb.length * ga.length = N:=⟨_,rfl⟩;have hN4:N ≤ 3840:=(by rw [← hN];exact Nat.mul_le_mul n64 hg60);have hmul:(bb.length:Int) * (ga.length:Int) = (N:Int):=(by rw [← hN];exact (Int.natCast_mul ..).symm)
  all_goals (repeat' (first
 | refine Qt ?_
 | refine Qc (id:=0) Zx [] (by kernel_rfl) ?_;simp [-zg,-zd,↓Qb,↓Qa,go_sem];try ((refine Qy 3 ?_);simp [go_sem];(refine Qy 5 ?_);simp [go_sem])
 | refine Qc (id:=2) Zx [] (by kernel_rfl) ?_;simp [-zg,-zd,↓Qb,↓Qa,go_sem,hmul,Xa (x:=(N:Int)) (by omega) (by omega),make_oN,(by omega:24 * (N:Int) ≤ 281474976710656),(by omega:(N:Int) ≤ 281474976710656),(by omega:(N:Int) ≤ 9223372036854775807),(by omega:(0:Int) ≤ (N:Int))];try ((refine Zb 8 rfl fun b8 c8 j8 q8 hc8 hj8=>?_);(clear q8);(refine Qp (fun H1=>H1 b8 = some (cat oN (zrP N []) ++ zrP j8 D.any)) (by simp [upd]) fun H1 w8=>?_))
 | ((have i1:q.1 < gb.length:=(by omega));(have i2:q.1 < ls.length:=(by omega));(have hD:=(hG.2.2.2.2 q.1 i1).2);(have hdl:=hD.len);(have hPi:(q.1:Int) * (bb.length:Int) = ((q.1 * bb.length:Nat):Int):=(Int.natCast_mul ..).symm);(have hP':=place_leH (n:=bb.length) c26);(rw [Nat.mul_comm ga.length bb.length,hN] at hP');(obtain ⟨P,hP⟩:∃ P,q.1 * bb.length = P:=⟨_,rfl⟩);(rw [hP] at g2 hPi hP'));refine Qc (id:=6) Zx [] (by kernel_rfl) ?_;simp [-zg,-zd,↓Qb,↓Qa,go_sem]
 | refine Qc (id:=7) Zx [] (by kernel_rfl) ?_;simp [-zg,-zd,↓Qb,↓Qa,go_sem,i1,Qk i1,zsP i1,c26,Qk c26,zsP c26]
 | ((have hu:=hD y.1 c36);(have hmm:=Nat.mul_le_mul (show y.1 + 1 ≤ 60 by omega) e2048);(rw [Nat.succ_mul] at hmm));refine Qc (id:=9) Zx [] (by kernel_rfl) ?_;simp [-zg,-zd,↓Qb,↓Qa,go_sem]
 | refine Xn (id:=12) Zx mixed [] [] (by kernel_rfl) (by kernel_rfl) ?_ ?_ <;> simp [-zg,-zd,↓Qb,↓Qa,go_sem,c43,Qk c43,zsP c43,c26,Qk c26,zsP c26,i2,Qk i2,zsP i2]
 | ((obtain ⟨⟨p0,p1⟩,p2,p3⟩:=hr z.1 c43);(have hm60:y.1 * ec.length + z.1 ≤ 122880:=(by omega)));refine Qc (id:=13) Zx [] (by kernel_rfl) ?_;simp [-zg,-zd,↓Qb,↓Qa,go_sem,c43,Qk c43,zsP c43,hPi,Xa (x:=(P:Int)) (by omega) (by omega),Xa (x:=(P:Int) + (nth ec z.1).1) (by omega) (by omega)];try ((obtain ⟨un,hun⟩:∃ un:Nat,nth (nth gb q.1) y.1 = (un:Int):=⟨(nth (nth gb q.1) y.1).toNat,by have:=hu.1;omega⟩);(have hul:un < ga.length:=(by omega));(have hZ':=place_leH (n:=bb.length) hul);(rw [Nat.mul_comm ga.length bb.length,hN] at hZ');(have hZi:(un:Int) * (bb.length:Int) = ((un * bb.length:Nat):Int):=(Int.natCast_mul ..).symm);(obtain ⟨Z,hZ⟩:∃ Z,un * bb.length = Z:=⟨_,rfl⟩);(rw [hZ] at hZ' hZi);(obtain ⟨f,hf⟩:∃ f,(P:Int) + (nth ec z.1).1 = f:=⟨_,rfl⟩);(obtain ⟨t,ht⟩:∃ t,(Z:Int) + (nth ec z.1).2.2.2 = t:=⟨_,rfl⟩);(rw [hf]);(have f0:0 ≤ f:=(by omega));(have f1:f < (N:Int):=(by omega));(have t0:0 ≤ t:=(by omega));(have t1:t < (N:Int):=(by omega));(have hft:f.toNat < N:=(by omega));(have hnl:=d2.len);(have hrow:=d2.small f.toNat hft hm60);(have hx2:PRw N P bb.length (y.1 * ec.length + (z.1 + 1)) (addE z.2.1 f t):=d2.add (by omega) (by omega) hft t0 t1);(have hadd:=oN_addH (xs:=z.2.1) (f:=f) (t:=t) (by omega) (zrP j8 D.any));(have hgt:=oN_get (xs:=z.2.1) (i:=f.toNat) (by omega) (zrP j8 D.any));(have hcl:=oN_clen (xs:=z.2.1) (junk:=zrP j8 D.any));(rw [List.length_replicate,hnl] at hcl);(obtain ⟨X2,hX2⟩:∃ X2,addE z.2.1 f t = X2:=⟨_,rfl⟩);(rw [hX2] at hx2 hadd);(by_cases he:nth z.2.1 f.toNat = []);(rw [he,oNd_nil] at hgt);(rw [he] at hadd);(obtain ⟨cells,hce⟩:∃ cells,(cat oN z.2.1 ++ zrP j8 D.any) = cells:=⟨_,rfl⟩);(rw [hce] at hgt hcl d3 hadd);(have hadd1:cells.set f.toNat (.fr 1 1 [.int .i64 t]) = cat oN X2 ++ zrP j8 D.any:=hadd);rotate_left;(have hcell:=oN_cell (by omega) he (zrP j8 D.any));(refine Xw b8 f.toNat d3 hcell fun rb rcp rj q8 hrc hrj=>?_);(dsimp only at q8);(have rn:¬ rb = b8:=(by rintro rfl;rw [d3] at q8;cases q8));(clear q8);(have hset2:∀ v,((cat oN z.2.1 ++ zrP j8 D.any).set f.toNat (D.sl rb 1 0 (nth z.2.1 f.toNat).length rcp)).set f.toNat v = (cat oN z.2.1 ++ zrP j8 D.any).set f.toNat v:=fun v=>List.set_set ..);(have hgi2:((cat oN z.2.1 ++ zrP j8 D.any).set f.toNat (D.sl rb 1 0 (nth z.2.1 f.toNat).length rcp))[f.toNat]? = some (D.sl rb 1 0 (nth z.2.1 f.toNat).length rcp):=List.getElem?_set_self (by rw [oN_clen];omega));(have hgt2:((cat oN z.2.1 ++ zrP j8 D.any).set f.toNat (D.sl rb 1 0 (nth z.2.1 f.toNat).length rcp)).getD f.toNat D.any = (D.sl rb 1 0 (nth z.2.1 f.toNat).length rcp):=(by rw [List.getD_eq_getElem?_getD,hgi2];rfl));(have hadd2:=hadd);(rw [← hset2] at hadd2);(have hcl2:((cat oN z.2.1 ++ zrP j8 D.any).set f.toNat (D.sl rb 1 0 (nth z.2.1 f.toNat).length rcp)).length = N + j8:=(by rw [List.length_set];exact hcl));(obtain ⟨cells,hce⟩:∃ cells,((cat oN z.2.1 ++ zrP j8 D.any).set f.toNat (D.sl rb 1 0 (nth z.2.1 f.toNat).length rcp)) = cells:=⟨_,rfl⟩);(refine Qp (fun H4=>H4 b8 = some cells ∧ H4 rb = some (cat cI (nth z.2.1 f.toNat) ++ zrP rj D.any)) ⟨by simp [upd,rn,zS rn,← hce],by simp [upd,rn,zS rn]⟩ fun H4 ⟨g4,hrb⟩=>?_);(rw [hce] at hgt2 hadd2 hcl2 hgi2))
 | refine Xr (id:=14) Zx mixed [(b8,cells)] [] [8,12] (by kernel_rfl) (by kernel_rfl) ?_ ?_ ?_ <;> simp [-zg,-zd,↓Qb,↓Qa,go_sem,i1,Qk i1,zsP i1,c36,Qk c36,zsP c36,c43,Qk c43,zsP c43,c26,Qk c26,zsP c26,hun,zaty,hPi,hZi,ht,Xa (x:=(Z:Int)) (by omega) (by omega),Xa (x:=t) (by omega) (by omega),(show f.toNat < N + j8 by omega),(show f.toNat + 1 ≤ N + j8 by omega),f0,f1,hft,g4,hrb,rn,zS rn,hgt2,hcl2,Vd,hadd2,(show rcp ≤ (nth z.2.1 f.toNat).length + rj by omega),(show (nth z.2.1 f.toNat).length + 1 ≤ 9223372036854775807 by omega),(show (nth z.2.1 f.toNat).length ≤ 9223372036854775806 by omega),(show 2 * ((nth z.2.1 f.toNat).length + 1) * 8 ≤ 281474976710656 by omega),Zf];try ((refine Qp (fun H1=>H1 b8 = some (cat oN X2 ++ zrP j8 D.any)) (by first | (simp [upd,zaty,rn,zS rn,hadd2];done) | (simp [upd,zaty,hadd1];done)) fun H9 t3=>?_))
 | refine Xr (id:=14) Zx mixed [(b8,cells)] [] [8,12] (by kernel_rfl) (by kernel_rfl) ?_ ?_ ?_ <;> simp [-zg,-zd,↓Qb,↓Qa,go_sem,i1,Qk i1,zsP i1,c36,Qk c36,zsP c36,c43,Qk c43,zsP c43,c26,Qk c26,zsP c26,hun,zaty,hPi,hZi,ht,Xa (x:=(Z:Int)) (by omega) (by omega),Xa (x:=t) (by omega) (by omega),(show f.toNat < N + j8 by omega),(show f.toNat + 1 ≤ N + j8 by omega),f0,f1,hft,d3,hgt,hcl,hadd1,(show makeD [D.int .i64 0] 1 = [D.int .i64 0] from rfl)];try ((refine Qp (fun H1=>H1 b8 = some (cat oN X2 ++ zrP j8 D.any)) (by first | (simp [upd,zaty,rn,zS rn,hadd2];done) | (simp [upd,zaty,hadd1];done)) fun H9 t3=>?_))
 | (first | (have t9:=t3) | ((obtain ⟨X2,hX2⟩:∃ X2,z.2.1 = X2:=⟨_,rfl⟩);(have hx2:PRw N P bb.length (y.1 * ec.length + (z.1 + 1)) X2:=(by rw [← hX2];exact d2.mono (by omega)));(refine Qp (fun H1=>H1 b8 = some (cat oN X2 ++ zrP j8 D.any)) (by dsimp only;rw [← hX2];exact d3) fun H9 t3=>?_)));refine Qc (id:=11) Zx [] (by kernel_rfl) ?_;simp [-zg,-zd,↓Qb,↓Qa,go_sem,wrapS (k:=z.1) (by omega)]
 | ((have hz2:PRw N P bb.length ((y.1 + 1) * ec.length) z.2.1:=(by rw [Nat.succ_mul];exact d2.mono (by omega))));refine Qc (id:=8) Zx [] (by kernel_rfl) ?_;simp [-zg,-zd,↓Qb,↓Qa,go_sem,wrapS (k:=y.1) (by omega)]
 | ((have hym:=Nat.mul_le_mul (show y.1 ≤ 60 by omega) e2048);(have hP2:PRw N ((q.1 + 1) * bb.length) bb.length 0 y.2.1:=(by rw [Nat.succ_mul,hP];exact e2.next (by omega))));refine Qc (id:=5) Zx [] (by kernel_rfl) ?_;simp [-zg,-zd,↓Qb,↓Qa,go_sem,wrapS (k:=q.1) (by omega)]
 | ((have hok:=g2.ok);(have hnl:=g2.len);(obtain ⟨kq,nx,Hq⟩:=q);(dsimp only at g3 hok hnl ⊢);(refine Zz 8 (b:=b8) (all:=cat oN nx ++ zrP j8 D.any) rfl g3 (by omega) (by rw [oN_clen];simp;omega) (by rw [oN_clen];simp;omega) ?_);(rw [Nat.mul_one,Zt (f:=oN) nx (zrP j8 D.any) (n:=N) hnl.symm]));refine Qc (id:=15) Zx [] (by kernel_rfl) ?_;simp [-zg,-zd,↓Qb,↓Qa,go_sem]
 | refine Qj (c:=.tmp 26) ?_;simp [-zg,-zd,↓Qb,↓Qa,go_sem];try first | (refine ⟨?_,?_⟩ <;> refine zA ?_) | (refine ⟨fun c26=>?_,fun c26=>?_⟩ <;> (try simp [B_iff,B_not] at c26))
 | refine Qj (c:=.tmp 36) ?_;simp [-zg,-zd,↓Qb,↓Qa,go_sem];try first | (refine ⟨?_,?_⟩ <;> refine zA ?_) | (refine ⟨fun c36=>?_,fun c36=>?_⟩ <;> (try simp [B_iff,B_not] at c36))
 | refine Qj (c:=.tmp 43) ?_;simp [-zg,-zd,↓Qb,↓Qa,go_sem];try first | (refine ⟨?_,?_⟩ <;> refine zA ?_) | (refine ⟨fun c43=>?_,fun c43=>?_⟩ <;> (try simp [B_iff,B_not] at c43))
 | (refine Qe (id:=0) (Qw (ι:=Nat × List (List Int) × Hp) (fun q:Nat × List (List Int) × Hp=>⟨(upd (upd (upd (upd (upd (upd (fun _=>.any) 1 (li cI ls)) 3 (.pd [li cP ga,li cL gb])) 5 (.pd [li cI a,li cB bb,li cT ec])) 7 (.int .i64 bb.length)) 8 (.sl b8 1 0 N c8)) 9 (.int .i64 q.1)),q.2.2⟩) (fun q=>q.1 ≤ ga.length ∧ PRw N (q.1 * bb.length) bb.length 0 q.2.1 ∧ q.2.2 b8 = some (cat oN q.2.1 ++ zrP j8 D.any)) (fun q=>ga.length - q.1) ((0,zrP N [],H1)) ?_ ?_ ?_);exact ⟨Nat.zero_le _,by simpa using PRw.start N bb.length,w8⟩;((repeat' (first | exact Qg (by assumption) | exact Qi | refine Qf ?_ ?_ | refine Qh ?_)) <;> simp [-zg,-zd,↓Qb,↓Qa,go_sem]);rintro q ⟨g1,g2,g3⟩)
 | (refine ⟨(q.1 + 1,y.2.1,y.2.2),⟨by dsimp only;omega,hP2,e3⟩,by first | omega | (simp;done) | (simp;omega),?_⟩;((repeat' (first | exact Qg (by assumption) | exact Qi | refine Qf ?_ ?_ | refine Qh ?_)) <;> simp [-zg,-zd,↓Qb,↓Qa,go_sem]))
 | (refine Qe (id:=2) (Qw (ι:=Nat × List (List Int) × Hp) (fun y:Nat × List (List Int) × Hp=>⟨(upd (upd (upd (upd (upd (upd (upd (fun _=>.any) 1 (li cI ls)) 3 (.pd [li cP ga,li cL gb])) 5 (.pd [li cI a,li cB bb,li cT ec])) 7 (.int .i64 bb.length)) 8 (.sl b8 1 0 N c8)) 9 (.int .i64 q.1)) 10 (.int .i64 y.1)),y.2.2⟩) (fun y=>y.1 ≤ (nth gb q.1).length ∧ PRw N P bb.length (y.1 * ec.length) y.2.1 ∧ y.2.2 b8 = some (cat oN y.2.1 ++ zrP j8 D.any)) (fun y=>(nth gb q.1).length - y.1) ((0,q.2.1,q.2.2)) ?_ ?_ ?_);exact ⟨Nat.zero_le _,by simpa using g2,g3⟩;((repeat' (first | exact Qg (by assumption) | exact Qi | refine Qf ?_ ?_ | refine Qh ?_)) <;> simp [-zg,-zd,↓Qb,↓Qa,go_sem]);rintro y ⟨e1,e2,e3⟩)
 | (refine ⟨(y.1 + 1,z.2.1,z.2.2),⟨by dsimp only;omega,hz2,d3⟩,by first | omega | (simp;done) | (simp;omega),?_⟩;((repeat' (first | exact Qg (by assumption) | exact Qi | refine Qf ?_ ?_ | refine Qh ?_)) <;> simp [-zg,-zd,↓Qb,↓Qa,go_sem]))
 | (refine Qe (id:=4) (Qw (ι:=Nat × List (List Int) × Hp) (fun z:Nat × List (List Int) × Hp=>⟨(upd (upd (upd (upd (upd (upd (upd (upd (fun _=>.any) 1 (li cI ls)) 3 (.pd [li cP ga,li cL gb])) 5 (.pd [li cI a,li cB bb,li cT ec])) 7 (.int .i64 bb.length)) 8 (.sl b8 1 0 N c8)) 9 (.int .i64 q.1)) 10 (.int .i64 y.1)) 11 (.int .i64 z.1)),z.2.2⟩) (fun z=>z.1 ≤ ec.length ∧ PRw N P bb.length (y.1 * ec.length + z.1) z.2.1 ∧ z.2.2 b8 = some (cat oN z.2.1 ++ zrP j8 D.any)) (fun z=>ec.length - z.1) ((0,y.2.1,y.2.2)) ?_ ?_ ?_);exact ⟨Nat.zero_le _,e2,e3⟩;((repeat' (first | exact Qg (by assumption) | exact Qi | refine Qf ?_ ?_ | refine Qh ?_)) <;> simp [-zg,-zd,↓Qb,↓Qa,go_sem]);rintro z ⟨d1,d2,d3⟩)
 | (refine ⟨(z.1 + 1,X2,H9),⟨by dsimp only;omega,hx2,t3⟩,by first | omega | (simp;done) | (simp;omega),?_⟩;((repeat' (first | exact Qg (by assumption) | exact Qi | refine Qf ?_ ?_ | refine Qh ?_)) <;> simp [-zg,-zd,↓Qb,↓Qa,go_sem]))
 | (refine Qe ?_)
 | (refine Qs ?_;simp [-zg,-zd,↓Qb,↓Qa,go_sem])
 | (refine Qr ?_;simp [-zg,-zd,↓Qb,↓Qa,go_sem])
 | (refine Qq ?_;try simp [-zg,-zd,↓Qb,↓Qa,go_sem,Tryz.results101])
 | (intro hx;refine zA ?_)
 | (intro hx;change retR _ _ _ _ _)
 | (refine ⟨?_,?_⟩ <;> refine zA ?_)
 | (intro hx;constructor <;> intro hs)
 | (constructor <;> intro hs)
 | (refine ⟨?_,fun hs=>?_⟩;refine zA ?_)
 | (refine ⟨fun hs=>?_,?_⟩;rotate_left;refine zA ?_;rotate_left)
 | (refine Qj ?_;simp [-zg,-zd,↓Qb,↓Qa,go_sem];try first | (refine ⟨?_,?_⟩ <;> refine zA ?_) | (refine ⟨fun cz=>?_,fun cz=>?_⟩ <;> (try simp [B_iff,B_not] at cz)))
 | (refine Qc Zx [] (by kernel_rfl) ?_;simp [-zg,-zd,↓Qb,↓Qa,go_sem])
 | fail))
  all_goals (first
 | (refine l8Product_ret _ _ _ _ _ _ (nx) ?_ ?_ ?_;(first | exact Or.inl rfl | exact Or.inr rfl);(focus (simp [-zg,-zd,↓Qb,↓Qa,go_sem,Tryz.results101,hnl];done));(focus (((simp only [zabt];exact ⟨hok.1,hok.2.1,by rw [hN];exact hnl⟩));done)))
 | skip)
@[go_sem] def zaqg:Con:=.prel fun
  | [.st [.list n_ga c_ga,.list n_gb c_gb],.list n_ls c_ls,.st [.list n_a c_a,.list n_bb c_bb,.list n_ec c_ec]]=>((Is cP n_ga c_ga) ∧ (Is cL n_gb c_gb) ∧ (Is cI n_ls c_ls) ∧ (Is cI n_a c_a) ∧ (Is cB n_bb c_bb) ∧ (Is cT n_ec c_ec) ∧ (GraphOk (de cP c_ga) (de cL c_gb)) ∧ ((de cI c_ls).length = (de cP c_ga).length) ∧ (AutOk (de cI c_a) (de cB c_bb).length (de cT c_ec)),fun c=>zacl (Jm (de cP c_ga) (de cL c_gb) (de cI c_ls) (de cI c_a) (de cB c_bb) (de cT c_ec) c))
  | _=>(False,fun _=>.any)
theorem l8ProductC_ok:ConOk Tryz.prog 101 zaqg:=by
  refine ⟨Qo Tryz.func101 (by decide) rfl,fun args h=>?_⟩
  revert h
  dsimp only
  split
  · intro h
    obtain ⟨⟨ga,rfl,rfl⟩,⟨gb,rfl,rfl⟩,⟨ls,rfl,rfl⟩,⟨a,rfl,rfl⟩,⟨bb,rfl,rfl⟩,⟨ec,rfl,rfl⟩,hG,hl,hA⟩:=h
    try simp only [Qm] at *
    exact ⟨l8Product_pure ga gb ls a bb ec hG hl hA,fun c=>by simp [go_sem]⟩
  · intro h
    exact h.elim
@[go_sem] def Γh2:FuncId → Con:=ext Γh1 101 zaqg
theorem Zi:∀ g,ConOk Tryz.prog g (Γh2 g):=Qn Zx l8ProductC_ok


def BackOk (n:Nat) (p:List Int):Prop:=p.length = n ∧ (∀ i,i < n → -1 ≤ nth p i ∧ nth p i < n) ∧ ∃ rk:Nat → Nat,(∀ i,i < n → 0 ≤ nth p i → rk (nth p i).toNat < rk i) ∧ ∀ i,rk i ≤ 2097152
def InN (n:Nat) (xs:List Int):Prop:=∀ i,i < xs.length → 0 ≤ nth xs i ∧ nth xs i < n
def QuOk (n:Nat) (q:List Int):Prop:=q.length ≤ 2097152 ∧ ∀ i,i < q.length → 0 ≤ nth q i ∧ nth q i < n
structure SrI (n M:Nat) (p:List Int) (sn:List Bool) (qu:List Int):Prop where
  lp:p.length = n
  ls:sn.length = n
  pr:∀ i,i < n → -1 ≤ nth p i ∧ nth p i < n
  qr:∀ i,i < qu.length → (0 ≤ nth qu i ∧ nth qu i < n) ∧ nth sn (nth qu i).toNat = true
  un0:∀ i,i < n → nth sn i = false → nth p i = -1
  cnt:qu.length + un sn ≤ M
  rk:∃ rk:Nat → Nat,(∀ i,i < n → 0 ≤ nth p i → nth sn (nth p i).toNat = true ∧ rk (nth p i).toNat < rk i) ∧ ∀ i,rk i ≤ qu.length
theorem nth_setH {α:Type} [Inhabited α] {xs:List α} {i j:Nat} {v:α} (h:i < xs.length):nth (xs.set i v) j = if i = j then v else nth xs j:=by
  unfold nth
  rw [List.getD_eq_getElem?_getD,List.getElem?_set,List.getD_eq_getElem?_getD]
  by_cases e:i = j
  · rw [if_pos e,if_pos e,if_pos h];rfl
  · rw [if_neg e,if_neg e]
theorem nth_snocH {xs:List Int} {v:Int} {i:Nat}:nth (xs ++ [v]) i = if i < xs.length then nth xs i else if i = xs.length then v else 0:=by
  unfold nth
  rw [List.getD_eq_getElem?_getD,List.getD_eq_getElem?_getD]
  by_cases h:i < xs.length
  · rw [if_pos h,List.getElem?_append_left h]
  · rw [if_neg h,List.getElem?_append_right (by omega)]
    by_cases e:i = xs.length
    · rw [if_pos e,e,Nat.sub_self];rfl
    · rw [if_neg e,List.getElem?_eq_none (by simp;omega)];rfl
theorem SrI.start {n:Nat} {ss:List Int} {sn:List Bool} (hl:sn.length = n) (hs:∀ i,i < ss.length → (0 ≤ nth ss i ∧ nth ss i < n) ∧ nth sn (nth ss i).toNat = true):SrI n (ss.length + n) (zrP n (-1)) sn ss:=by
  have hp:∀ i,i < n → nth (zrP n (-1:Int)) i = -1:=fun i hi=>by rw [Xc (by simpa using hi)];simp
  exact ⟨by simp,hl,fun i hi=>(by rw [hp i hi];omega),hs,fun i hi _=>hp i hi,by have:=un_le sn;omega,fun _=>0,fun i hi h0=>(by rw [hp i hi] at h0;omega),fun _=>Nat.zero_le _⟩
theorem SrI.step {n M:Nat} {p:List Int} {sn:List Bool} {qu:List Int} (h:SrI n M p sn qu) {u v:Int} (hu0:0 ≤ u) (hu1:u < n) (hus:nth sn u.toNat = true) (hv0:0 ≤ v) (hv1:v < n) (hvs:nth sn v.toNat = false):SrI n M (p.set v.toNat u) (sn.set v.toNat true) (qu ++ [v]):=by
  have hvn:v.toNat < n:=by omega
  have e1:∀ j,nth (p.set v.toNat u) j = if v.toNat = j then u else nth p j:=fun j=>nth_setH (by rw [h.lp];exact hvn)
  have e2:∀ j,nth (sn.set v.toNat true) j = if v.toNat = j then true else nth sn j:=fun j=>nth_setH (by rw [h.ls];exact hvn)
  have huv:¬ v.toNat = u.toNat:=fun e=>by rw [e,hus] at hvs;cases hvs
  obtain ⟨rk,hr1,hr2⟩:=h.rk
  refine ⟨by rw [List.length_set,h.lp],by rw [List.length_set,h.ls],fun i hi=>?_,fun i hi=>?_,fun i hi hs=>?_,?_,fun i=>if i = v.toNat then qu.length + 1 else rk i,fun i hi h0=>?_,fun i=>?_⟩
  · rw [e1]
    split
    · omega
    · exact h.pr i hi
  · rw [nth_snocH,e2]
    rw [List.length_append,List.length_singleton] at hi
    by_cases hj:i < qu.length
    · rw [if_pos hj]
      obtain ⟨q1,q2⟩:=h.qr i hj
      exact ⟨q1,by split <;> simp [q2]⟩
    · have:i = qu.length:=by omega
      rw [if_neg hj,if_pos this]
      exact ⟨⟨hv0,hv1⟩,by simp⟩
  · rw [e2] at hs
    split at hs
    · cases hs
    · rename_i e;rw [e1,if_neg e];exact h.un0 i hi hs
  · have:=un_set (m:=sn) (k:=v.toNat) (by rw [h.ls];exact hvn) hvs
    have:=h.cnt
    rw [List.length_append,List.length_singleton]
    omega
  · rw [e1] at h0 ⊢
    by_cases e:v.toNat = i
    · subst e
      rw [if_pos rfl,e2,if_neg huv]
      refine ⟨hus,?_⟩
      have:=hr2 u.toNat
      dsimp only
      rw [if_neg (fun q=>huv q.symm),if_pos rfl]
      omega
    · rw [if_neg e] at h0 ⊢
      obtain ⟨q1,q2⟩:=hr1 i hi h0
      have hne:¬ v.toNat = (nth p i).toNat:=fun q=>by rw [← q,hvs] at q1;cases q1
      rw [e2,if_neg hne]
      refine ⟨q1,?_⟩
      dsimp only
      rw [if_neg (fun q=>hne q.symm),if_neg (fun q=>e q.symm)]
      exact q2
  · rw [List.length_append,List.length_singleton]
    dsimp only
    split
    · omega
    · have:=hr2 i;omega
theorem SrI.back {n M:Nat} {p:List Int} {sn:List Bool} {qu:List Int} (h:SrI n M p sn qu) (hM:M ≤ 2097152):BackOk n p ∧ QuOk n qu:=by
  obtain ⟨rk,hr1,hr2⟩:=h.rk
  have:=h.cnt
  exact ⟨⟨h.lp,h.pr,rk,fun i hi h0=>(hr1 i hi h0).2,fun i=>by have:=hr2 i;omega⟩,by omega,fun i hi=>(h.qr i hi).1⟩
theorem rep_snocH (k:Nat):cat cI (zrP k (-1:Int)) ++ [.int .i64 (-1)] = cat cI (zrP (k + 1) (-1)):=by rw [Vd,List.replicate_succ']
structure SH where
  k:Nat
  p:List Int
  sn:List Bool
  qu:List Int
  q:Nat
  cp:Nat
  j:Nat
  H:Hp
structure SHm (b6 b7:Nat) (j6 j7:Nat) (x:SH):Prop where
  m6:x.H b6 = some (cat cI x.p ++ zrP j6 .any)
  m7:x.H b7 = some (cat cB x.sn ++ zrP j7 .any)
  mq:x.H x.q = some (cat cI x.qu ++ zrP x.j .any)
  n6:¬ x.q = b6
  n7:¬ x.q = b7
  r1:x.qu.length ≤ x.cp
  r2:x.cp ≤ x.qu.length + x.j

@[go_sem] def zadn:List Int × List Int → D:=fun x=>.tup [fr 1 cI x.1,fr 1 cI x.2]
def zabk (nx:List (List Int)) (ss:List Int):List Int × List Int → Prop:=fun x=>BackOk nx.length x.1 ∧ QuOk nx.length x.2
def zadm (nx:List (List Int)) (ss:List Int) (c:Any):List Int × List Int:=sel (zabk nx ss) ((zrP nx.length (-1),[])) c
theorem zaue (nx:List (List Int)) (ss:List Int) (hx:Zr nx) (hS:NextS nx) (hn:nx.length ≤ 100000) (hs:InN nx.length ss) (hsl:ss.length ≤ 100000) (c:Any):zabk nx ss (zadm nx ss c):=Xl (p:=zabk nx ss) (x0:=(zrP nx.length (-1),[])) ((SrI.start (ss:=[]) (sn:=zrP nx.length false) (by simp) (fun i hi=>by simp at hi)).back (by simp;omega)) c
theorem l8Search_ret (nx:List (List Int)) (ss:List Int) {e_:Exit} {S_:St} (x:List Int × List Int) (he_:e_ = .ret ∨ e_ = .normal)
    (h1:(Qd Tryz.prog S_ Tryz.f134.results.toList).1 ∧ resD (Qd Tryz.prog S_ Tryz.f134.results.toList).2.1 = zadn x) (hg:zabk nx ss x) :
    retR Tryz.prog Tryz.f134 (fun c=>(zadn (zadm nx ss c),fun _=>none)) e_ S_:=Xi (enc:=zadn) x he_ h1 hg
set_option maxHeartbeats 8000000 in
theorem l8Search_pure (nx:List (List Int)) (ss:List Int) (hx:Zr nx) (hS:NextS nx) (hn:nx.length ≤ 100000) (hs:InN nx.length ss) (hsl:ss.length ≤ 100000):PureR Tryz.prog 134 [li cL nx,li cI ss] (fun c=>zadn (zadm nx ss c)):=by
  refine PureR.of_walk Tryz.func134 rfl (by simp [Tryz.f134]) (fun c=>by simp [-zd,go_sem]) fun B hK=>?_
  (repeat' (first
 | refine Qt ?_
 | refine Qc (id:=2) Zi [] (by kernel_rfl) ?_;simp [-zg,-zd,↓Qb,↓Qa,go_sem,make_cB,(by omega:(nx.length:Int) ≤ 281474976710656),(by omega:(nx.length:Int) ≤ 9223372036854775807)]
 | refine Qc (id:=6) Zi [] (by kernel_rfl) ?_;simp [-zg,-zd,↓Qb,↓Qa,go_sem,rep_snocH,(show k ≤ 9223372036854775806 by omega),(show 2 * (k + 1) * 8 ≤ 281474976710656 by omega),(show k + 1 ≤ 9223372036854775807 by omega)]
 | refine Qc (id:=5) Zi [] (by kernel_rfl) ?_;simp [-zg,-zd,↓Qb,↓Qa,go_sem,wrapS (k:=k) (by omega)]
 | ((obtain rfl:k = nx.length:=by omega));refine Qc (id:=7) Zi [] (by kernel_rfl) ?_;simp [-zg,-zd,↓Qb,↓Qa,go_sem,(show ss.length ≤ 9223372036854775807 by omega),(show 2 * ss.length * 8 ≤ 281474976710656 by omega)];try ((refine Zb 6 rfl fun b6 c6 j6 q6 hc6 hj6=>?_);(refine Zb 7 rfl fun b7 c7 j7 q7 hc7 hj7=>?_);(dsimp only at q7);(have n76:¬ b7 = b6:=(by rintro rfl;simp [upd] at q7));(refine Zb 9 rfl fun b9 c9 j9 q9 hc9 hj9=>?_);(dsimp only at q9);(have n96:¬ b9 = b6:=(by rintro rfl;simp [upd,n76,zS n76] at q9));(have n97:¬ b9 = b7:=(by rintro rfl;simp [upd] at q9));(clear q6 q7 q9);(refine Qp (fun H1=>H1 b6 = some (cat cI (zrP nx.length (-1)) ++ zrP j6 .any) ∧ H1 b7 = some (cat cB (Zj nx.length ss 0) ++ zrP j7 .any) ∧ H1 b9 = some (cat cI ss ++ zrP j9 .any)) ⟨by simp [upd,n76,zS n76,n96,zS n96,n97,zS n97],by simp [upd,n76,zS n76,n96,zS n96,n97,zS n97,zajb],by simp [upd,n76,zS n76,n96,zS n96,n97,zS n97]⟩ fun H1 ⟨w6,w7,w9⟩=>?_))
 | ((obtain ⟨p0,p1⟩:=hs q.1 c33);(have hml:=zakz nx.length ss q.1);(have hst:=zajc (n:=nx.length) c33));refine Qc (id:=11) Zi [] (by kernel_rfl) ?_;simp [-zg,-zd,↓Qb,↓Qa,go_sem,c33,Qk c33,zsP c33,g7,hml,p0,p1,(show (nth ss q.1).toNat < nx.length by omega),(show (nth ss q.1).toNat < nx.length + j7 by omega),(show (nth ss q.1).toNat + 1 ≤ nx.length + j7 by omega)];try ((refine Qp (fun H1=>H1 b6 = some (cat cI (zrP nx.length (-1)) ++ zrP j6 .any) ∧ H1 b7 = some (cat cB (Zj nx.length ss (q.1 + 1)) ++ zrP j7 .any) ∧ H1 b9 = some (cat cI ss ++ zrP j9 .any)) ⟨by simp [upd,n76,zS n76,g6],by simp [upd,hst],by simp [upd,n97,zS n97,g9]⟩ fun H9 ⟨t6,t7,t9⟩=>?_))
 | refine Qc (id:=10) Zi [] (by kernel_rfl) ?_;simp [-zg,-zd,↓Qb,↓Qa,go_sem,wrapS (k:=q.1) (by omega)]
 | ((obtain ⟨kx,H2⟩:=q);(dsimp only at *);(obtain rfl:kx = ss.length:=by omega);(have hm1:∀ i,i < ss.length → (0 ≤ nth ss i ∧ nth ss i < nx.length) ∧ nth (Zj nx.length ss ss.length) (nth ss i).toNat = true:=(fun i hi=>⟨hs i hi,(marksK_mk (nx:=nx) (ss:=ss) (fun x hx=>by rw [zaqb] at hx;obtain ⟨i,hi,rfl⟩:=hx;exact hs i hi) ss.length (Nat.le_refl _) (nth ss i) (hs i hi)).2 (by rw [List.take_length];exact Xz hi)⟩));(have hst0:=SrI.start (zakz nx.length ss ss.length) hm1);(obtain ⟨M,hM⟩:∃ M,ss.length + nx.length = M:=⟨_,rfl⟩);(rw [hM] at hst0);(have hM2:M ≤ 200000:=(by omega));(obtain ⟨sn0,hsn0⟩:∃ m,Zj nx.length ss ss.length = m:=⟨_,rfl⟩);(rw [hsn0] at g7 hst0);(obtain ⟨p0,hp0⟩:∃ m,zrP nx.length (-1:Int) = m:=⟨_,rfl⟩);(rw [hp0] at g6 hst0));refine Qc (id:=12) Zi [] (by kernel_rfl) ?_;simp [-zg,-zd,↓Qb,↓Qa,go_sem]
 | ((obtain ⟨⟨hu0,hu1⟩,hus⟩:=f2.qr x.k c45);(obtain ⟨u,hu⟩:∃ u,nth x.qu x.k = u:=⟨_,rfl⟩);(rw [hu] at hu0 hu1 hus);(have hul:u.toNat < nx.length:=(by omega));(have hls:=hS _ hul));refine Qc (id:=15) Zi [] (by kernel_rfl) ?_;simp [-zg,-zd,↓Qb,↓Qa,go_sem]
 | (have m6:=e3.m6;have m7:=e3.m7;have mq:=e3.mq;have n6:=e3.n6;have n7:=e3.n7;have r1:=e3.r1;have r2:=e3.r2;have yls:=e2.ls;have ylp:=e2.lp);refine Qc (id:=16) Zi [] (by kernel_rfl) ?_;simp [-zg,-zd,↓Qb,↓Qa,go_sem,e4,Qk e4,zsP e4,mq,e5,hu0,hu1,hul,Qk hul,zsP hul,(show x.k < y.qu.length + y.j by omega),(show x.k + 1 ≤ y.qu.length + y.j by omega)]
 | ((have hvr:=hx u.toNat hul y.k c57);(obtain ⟨v,hv⟩:∃ v,nth (nth nx u.toNat) y.k = v:=⟨_,rfl⟩);(rw [hv] at hvr);(have hvn:v.toNat < nx.length:=(by omega)));refine Qc (id:=18) Zi [] (by kernel_rfl) ?_;simp [-zg,-zd,↓Qb,↓Qa,go_sem,e4,Qk e4,zsP e4,mq,e5,hu0,hu1,hul,Qk hul,zsP hul,c57,Qk c57,zsP c57,hv,(show x.k < y.qu.length + y.j by omega),(show x.k + 1 ≤ y.qu.length + y.j by omega)]
 | refine Qc (id:=19) Zi [] (by kernel_rfl) ?_;simp [-zg,-zd,↓Qb,↓Qa,go_sem,m7,yls,hvr.1,hvr.2,hvn,(show v.toNat < nx.length + j7 by omega),(show v.toNat + 1 ≤ nx.length + j7 by omega)]
 | ((have hvs:nth y.sn v.toNat = false:=(by simpa using c74)));refine Qc (id:=20) Zi [] (by kernel_rfl) ?_;simp [-zg,-zd,↓Qb,↓Qa,go_sem,m7,yls,hvr.1,hvr.2,hvn,(show v.toNat < nx.length + j7 by omega),(show v.toNat + 1 ≤ nx.length + j7 by omega)];try ((refine Qp (fun H1=>H1 b6 = some (cat cI y.p ++ zrP j6 .any) ∧ H1 b7 = some (cat cB (y.sn.set v.toNat true) ++ zrP j7 .any) ∧ H1 y.q = some (cat cI y.qu ++ zrP y.j .any)) ⟨by simp [upd,n76,zS n76,m6],by simp [upd],by simp [upd,n7,zS n7,mq]⟩ fun H5 ⟨v6,v7,vq⟩=>?_))
 | refine Qc (id:=21) Zi [] (by kernel_rfl) ?_;simp [-zg,-zd,↓Qb,↓Qa,go_sem,v6,vq,ylp,e4,Qk e4,zsP e4,e5,hvr.1,hvr.2,hvn,(show v.toNat < nx.length + j6 by omega),(show v.toNat + 1 ≤ nx.length + j6 by omega),(show x.k < y.qu.length + y.j by omega),(show x.k + 1 ≤ y.qu.length + y.j by omega)];try ((refine Qp (fun H1=>H1 b6 = some (cat cI (y.p.set v.toNat u) ++ zrP j6 .any) ∧ H1 b7 = some (cat cB (y.sn.set v.toNat true) ++ zrP j7 .any) ∧ H1 y.q = some (cat cI y.qu ++ zrP y.j .any)) ⟨by simp [upd],by simp [upd,n76,zS n76,v7],by simp [upd,n6,zS n6,vq]⟩ fun H6 ⟨u6,u7,uq⟩=>?_))
 | refine Qc (id:=22) Zi [] (by kernel_rfl) ?_;simp [-zg,-zd,↓Qb,↓Qa,go_sem,uq,n6,zS n6,n7,zS n7,Vd,(show y.qu.length ≤ y.qu.length + y.j by omega),r2,(show y.qu.length + 1 ≤ 9223372036854775807 by omega),(show 2 * (y.qu.length + 1) * 8 ≤ 281474976710656 by omega),Zf];try ((refine Zb 9 rfl fun q' cp' jj' hq' hc' hd'=>?_);(dsimp only at hq');(have k6:¬ q' = b6:=(by rintro rfl;simp [upd,n6,zS n6,u6] at hq'));(have k7:¬ q' = b7:=(by rintro rfl;simp [upd,n7,zS n7,u7] at hq'));(clear hq');(refine Qp (fun H2=>SHm b6 b7 j6 j7 ⟨y.k + 1,y.p.set v.toNat u,y.sn.set v.toNat true,y.qu ++ [v],q',cp',jj',H2⟩) ⟨by simp [upd,k6,zS k6,n6,zS n6,u6],by simp [upd,k7,zS k7,n7,zS n7,u7],by simp [upd,k6,zS k6,k7,zS k7],k6,k7,by simpa using hc',by simpa using hd'⟩ fun H8 hH2=>?_);(have hstp:=e2.step hu0 hu1 e6 hvr.1 hvr.2 hvs);(obtain ⟨yy,hyq⟩:∃ yy:SH,yy = ⟨y.k + 1,y.p.set v.toNat u,y.sn.set v.toNat true,y.qu ++ [v],q',cp',jj',H8⟩:=⟨_,rfl⟩);(have hyy:yy.k ≤ (nth nx u.toNat).length ∧ SrI nx.length M yy.p yy.sn yy.qu ∧ SHm b6 b7 j6 j7 yy ∧ x.k < yy.qu.length ∧ nth yy.qu x.k = u ∧ nth yy.sn u.toNat = true:=(by rw [hyq];exact ⟨by dsimp only;omega,hstp,hH2,by simp;omega,by dsimp only;rw [nth_snocH,if_pos e4];exact e5,by dsimp only;rw [nth_setH (by rw [yls];exact hvn),if_neg (fun e=>by rw [e,e6] at hvs;cases hvs)];exact e6⟩));(have hyk:(y.k:Int) + 1 = (yy.k:Int):=(by rw [hyq];dsimp only;omega));(have hyql:yy.qu.length = y.qu.length + 1:=(by rw [hyq];simp));(have hyH:H8 = yy.H:=(by rw [hyq]));(have hyQ:q' = yy.q:=(by rw [hyq]));(have hyC:cp' = yy.cp:=(by rw [hyq]));(rw [hyH,hyQ,hyC]);(rw [← hyql]);(clear hyH hyQ hyC))
 | (first | (have z9:=hyy) | ((obtain ⟨yy,hyq⟩:∃ yy:SH,yy = ⟨y.k + 1,y.p,y.sn,y.qu,y.q,y.cp,y.j,y.H⟩:=⟨_,rfl⟩);(have hyy:yy.k ≤ (nth nx u.toNat).length ∧ SrI nx.length M yy.p yy.sn yy.qu ∧ SHm b6 b7 j6 j7 yy ∧ x.k < yy.qu.length ∧ nth yy.qu x.k = u ∧ nth yy.sn u.toNat = true:=(by rw [hyq];exact ⟨by dsimp only;omega,e2,⟨e3.m6,e3.m7,e3.mq,e3.n6,e3.n7,e3.r1,e3.r2⟩,e4,e5,e6⟩));(have hyk:(y.k:Int) + 1 = (yy.k:Int):=(by rw [hyq];dsimp only;omega));(have hyH:y.H = yy.H:=(by rw [hyq]));(have hyQ:y.q = yy.q:=(by rw [hyq]));(have hyC:y.cp = yy.cp:=(by rw [hyq]));(have hyql:y.qu.length = yy.qu.length:=(by rw [hyq]));(rw [hyH,hyQ,hyC,hyql]);(clear hyH hyQ hyC)));refine Qc (id:=17) Zi [] (by kernel_rfl) ?_;simp [-zg,-zd,↓Qb,↓Qa,go_sem,wrapS (k:=y.k) (by omega)]
 | refine Qc (id:=14) Zi [] (by kernel_rfl) ?_;simp [-zg,-zd,↓Qb,↓Qa,go_sem,wrapS (k:=x.k) (by omega)]
 | ((obtain ⟨kx,p9,s9,q9,qb,qc,qj,Hx⟩:=x);(try dsimp only at *);(have hfin:=f2.back (by omega));(have hlp:=f2.lp);have m6:=f3.m6;have mq:=f3.mq;have n6:=f3.n6;have r1:=f3.r1;have r2:=f3.r2;(try dsimp only at *);(refine Zz 6 (b:=b6) (all:=cat cI p9 ++ zrP j6 D.any) rfl m6 (by omega) (by simp [Qv,hlp]) (by simp [Qv,hlp];omega) ?_);(refine Zz 9 (b:=qb) (all:=cat cI q9 ++ zrP qj D.any) rfl (by simp [upd,n6,zS n6,mq]) (by omega) (by simp [Qv]) (by simp [Qv];omega) ?_));refine Qc (id:=23) Zi [] (by kernel_rfl) ?_;simp [-zg,-zd,↓Qb,↓Qa,go_sem,Zf,Zt (f:=cI) p9 (zrP j6 D.any) (n:=nx.length) hlp.symm]
 | refine Qj (c:=.tmp 33) ?_;simp [-zg,-zd,↓Qb,↓Qa,go_sem];try first | (refine ⟨?_,?_⟩ <;> refine zA ?_) | (refine ⟨fun c33=>?_,fun c33=>?_⟩ <;> (try simp [B_iff,B_not] at c33))
 | refine Qj (c:=.tmp 45) ?_;simp [-zg,-zd,↓Qb,↓Qa,go_sem];try first | (refine ⟨?_,?_⟩ <;> refine zA ?_) | (refine ⟨fun c45=>?_,fun c45=>?_⟩ <;> (try simp [B_iff,B_not] at c45))
 | refine Qj (c:=.tmp 57) ?_;simp [-zg,-zd,↓Qb,↓Qa,go_sem];try first | (refine ⟨?_,?_⟩ <;> refine zA ?_) | (refine ⟨fun c57=>?_,fun c57=>?_⟩ <;> (try simp [B_iff,B_not] at c57))
 | refine Qj (c:=.tmp 74) ?_;simp [-zg,-zd,↓Qb,↓Qa,go_sem];try first | (refine ⟨?_,?_⟩ <;> refine zA ?_) | (refine ⟨fun c74=>?_,fun c74=>?_⟩ <;> (try simp [B_iff,B_not] at c74))
 | (refine Qe (id:=0) (Qw (ι:=Nat) (fun k:Nat=>⟨(upd (upd (upd (upd (upd (fun _=>.any) 0 (li cL nx)) 1 (li cI ss)) 6 (.fr 1 k (cat cI (zrP k (-1))))) 7 (.fr 1 nx.length (cat cB (zrP nx.length false)))) 8 (.int .i64 k)),fun _=>none⟩) (fun k=>k ≤ nx.length) (fun k=>nx.length - k) (0) ?_ ?_ ?_);exact Nat.zero_le _;((repeat' (first | exact Qg (by assumption) | exact Qi | refine Qf ?_ ?_ | refine Qh ?_)) <;> simp [-zg,-zd,↓Qb,↓Qa,go_sem,Xb]);rintro k hk)
 | (refine ⟨k + 1,by omega,by first | omega | (simp;done) | (simp;omega),?_⟩;((repeat' (first | exact Qg (by assumption) | exact Qi | refine Qf ?_ ?_ | refine Qh ?_)) <;> simp [-zg,-zd,↓Qb,↓Qa,go_sem,Xb]))
 | (refine Qe (id:=2) (Qw (ι:=Nat × Hp) (fun q:Nat × Hp=>⟨(upd (upd (upd (upd (upd (upd (fun _=>.any) 0 (li cL nx)) 1 (li cI ss)) 6 (.sl b6 1 0 nx.length c6)) 7 (.sl b7 1 0 nx.length c7)) 9 (.sl b9 1 0 ss.length c9)) 10 (.int .i64 q.1)),q.2⟩) (fun q=>q.1 ≤ ss.length ∧ q.2 b6 = some (cat cI (zrP nx.length (-1)) ++ zrP j6 .any) ∧ q.2 b7 = some (cat cB (Zj nx.length ss q.1) ++ zrP j7 .any) ∧ q.2 b9 = some (cat cI ss ++ zrP j9 .any)) (fun q=>ss.length - q.1) ((0,H1)) ?_ ?_ ?_);exact ⟨Nat.zero_le _,w6,w7,w9⟩;((repeat' (first | exact Qg (by assumption) | exact Qi | refine Qf ?_ ?_ | refine Qh ?_)) <;> simp [-zg,-zd,↓Qb,↓Qa,go_sem]);rintro q ⟨g1,g6,g7,g9⟩)
 | (refine ⟨(q.1 + 1,H9),⟨by dsimp only;omega,t6,t7,t9⟩,by first | omega | (simp;done) | (simp;omega),?_⟩;((repeat' (first | exact Qg (by assumption) | exact Qi | refine Qf ?_ ?_ | refine Qh ?_)) <;> simp [-zg,-zd,↓Qb,↓Qa,go_sem]))
 | (refine Qe (id:=4) (Qw (ι:=SH) (fun x:SH=>⟨(upd (upd (upd (upd (upd (fun _=>.any) 0 (li cL nx)) 6 (.sl b6 1 0 nx.length c6)) 7 (.sl b7 1 0 nx.length c7)) 9 (.sl x.q 1 0 x.qu.length x.cp)) 11 (.int .i64 x.k)),x.H⟩) (fun x=>x.k ≤ x.qu.length ∧ SrI nx.length M x.p x.sn x.qu ∧ SHm b6 b7 j6 j7 x) (fun x=>M - x.k) (⟨0,p0,sn0,ss,b9,c9,j9,H2⟩) ?_ ?_ ?_);exact ⟨Nat.zero_le _,hst0,⟨g6,g7,g9,n96,n97,by dsimp only;omega,by dsimp only;omega⟩⟩;((repeat' (first | exact Qg (by assumption) | exact Qi | refine Qf ?_ ?_ | refine Qh ?_)) <;> simp [-zg,-zd,↓Qb,↓Qa,go_sem]);rintro x ⟨f1,f2,f3⟩;have hcx:=f2.cnt)
 | (refine ⟨⟨x.k + 1,y.p,y.sn,y.qu,y.q,y.cp,y.j,y.H⟩,⟨by dsimp only;omega,e2,⟨e3.m6,e3.m7,e3.mq,e3.n6,e3.n7,e3.r1,e3.r2⟩⟩,by first | omega | (simp;done) | (simp;omega),?_⟩;((repeat' (first | exact Qg (by assumption) | exact Qi | refine Qf ?_ ?_ | refine Qh ?_)) <;> simp [-zg,-zd,↓Qb,↓Qa,go_sem]))
 | (refine Qe (id:=6) (Qw (ι:=SH) (fun y:SH=>⟨(upd (upd (upd (upd (upd (upd (fun _=>.any) 0 (li cL nx)) 6 (.sl b6 1 0 nx.length c6)) 7 (.sl b7 1 0 nx.length c7)) 9 (.sl y.q 1 0 y.qu.length y.cp)) 11 (.int .i64 x.k)) 12 (.int .i64 y.k)),y.H⟩) (fun y=>y.k ≤ (nth nx u.toNat).length ∧ SrI nx.length M y.p y.sn y.qu ∧ SHm b6 b7 j6 j7 y ∧ x.k < y.qu.length ∧ nth y.qu x.k = u ∧ nth y.sn u.toNat = true) (fun y=>(nth nx u.toNat).length - y.k) (⟨0,x.p,x.sn,x.qu,x.q,x.cp,x.j,x.H⟩) ?_ ?_ ?_);exact ⟨Nat.zero_le _,f2,⟨f3.m6,f3.m7,f3.mq,f3.n6,f3.n7,f3.r1,f3.r2⟩,by dsimp only;omega,hu,hus⟩;((repeat' (first | exact Qg (by assumption) | exact Qi | refine Qf ?_ ?_ | refine Qh ?_)) <;> simp [-zg,-zd,↓Qb,↓Qa,go_sem]);rintro y ⟨e1,e2,e3,e4,e5,e6⟩;have hle2:=e2.cnt)
 | (refine ⟨yy,hyy,by first | omega | (simp;done) | (simp;omega),?_⟩;((repeat' (first | exact Qg (by assumption) | exact Qi | refine Qf ?_ ?_ | refine Qh ?_)) <;> simp [-zg,-zd,↓Qb,↓Qa,go_sem,hyk]))
 | (refine Qe ?_)
 | (refine Qs ?_;simp [-zg,-zd,↓Qb,↓Qa,go_sem])
 | (refine Qr ?_;simp [-zg,-zd,↓Qb,↓Qa,go_sem])
 | (refine Qq ?_;try simp [-zg,-zd,↓Qb,↓Qa,go_sem,Tryz.results134])
 | (intro hx;refine zA ?_)
 | (intro hx;change retR _ _ _ _ _)
 | (refine ⟨?_,?_⟩ <;> refine zA ?_)
 | (intro hx;constructor <;> intro hs)
 | (constructor <;> intro hs)
 | (refine ⟨?_,fun hs=>?_⟩;refine zA ?_)
 | (refine ⟨fun hs=>?_,?_⟩;rotate_left;refine zA ?_;rotate_left)
 | (refine Qj ?_;simp [-zg,-zd,↓Qb,↓Qa,go_sem];try first | (refine ⟨?_,?_⟩ <;> refine zA ?_) | (refine ⟨fun cz=>?_,fun cz=>?_⟩ <;> (try simp [B_iff,B_not] at cz)))
 | (refine Qc Zi [] (by kernel_rfl) ?_;simp [-zg,-zd,↓Qb,↓Qa,go_sem])
 | fail))
  all_goals (first
 | (refine l8Search_ret _ _ ((p9,q9)) ?_ ?_ ?_;(first | exact Or.inl rfl | exact Or.inr rfl);(focus (simp [-zg,-zd,↓Qb,↓Qa,go_sem,Tryz.results134,hlp];done));(focus (((simp only [zabk];exact hfin));done)))
 | skip)
@[go_sem] def l8SearchC:Con:=.prel fun
  | [.list n_nx c_nx,.list n_ss c_ss]=>((Is cL n_nx c_nx) ∧ (Is cI n_ss c_ss) ∧ (Zr (de cL c_nx)) ∧ (NextS (de cL c_nx)) ∧ ((de cL c_nx).length ≤ 100000) ∧ (InN (de cL c_nx).length (de cI c_ss)) ∧ ((de cI c_ss).length ≤ 100000),fun c=>zadn (zadm (de cL c_nx) (de cI c_ss) c))
  | _=>(False,fun _=>.any)
theorem l8SearchC_ok:ConOk Tryz.prog 134 l8SearchC:=by
  refine ⟨Qo Tryz.func134 (by decide) rfl,fun args h=>?_⟩
  revert h
  dsimp only
  split
  · intro h
    obtain ⟨⟨nx,rfl,rfl⟩,⟨ss,rfl,rfl⟩,hx,hS,hn,hs,hsl⟩:=h
    try simp only [Qm] at *
    exact ⟨l8Search_pure nx ss hx hS hn hs hsl,fun c=>by simp [go_sem]⟩
  · intro h
    exact h.elim
@[go_sem] def Γh3:FuncId → Con:=ext Γh2 134 l8SearchC
theorem Γh3_ok:∀ g,ConOk Tryz.prog g (Γh3 g):=Qn Zi l8SearchC_ok

end
end Go.Proofs.YtiilmjojffjhlaaGreatDoor.Vm

