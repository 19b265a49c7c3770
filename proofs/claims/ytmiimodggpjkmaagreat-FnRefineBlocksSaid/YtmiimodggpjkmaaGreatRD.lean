import Derived.Test.YtmiimodggpjkmaaGreatRow
import Derived.Test.YtmiimodggpjkmaaGreatVm15
/-
  Numbers in the order of first occurrence, sorted insertion, what follows: plain. No conditions.
-/
namespace Go.Proofs.YtmiimodggpjkmaaGreat.Vm
open Go
open Nat renaming sub_pos_of_lt → zsP
open List renaming getD_eq_getElem?_getD → zg,drop_one → zd,replicate → zrP
noncomputable section
set_option linter.unusedVariables false
set_option linter.unusedSimpArgs false
set_option maxRecDepth 200000

def distK (xs:List (List Int)):List (List Int):=xs.foldl (fun d x=>if x ∈ d then d else d ++ [x]) []
theorem distK_snoc (xs:List (List Int)) (x:List Int):distK (xs ++ [x]) = if x ∈ distK xs then distK xs else distK xs ++ [x]:=by unfold distK;rw [List.foldl_append];rfl
theorem Wk {xs:List (List Int)} {k:Nat} (h:k < xs.length):distK (xs.take (k + 1)) = if nth xs k ∈ distK (xs.take k) then distK (xs.take k) else distK (xs.take k) ++ [nth xs k]:=by
  rw [List.take_succ_eq_append_getElem h,← Xa h,distK_snoc]
theorem Vn (xs:List (List Int)):∀ k,k ≤ xs.length → ∀ x,x ∈ distK (xs.take k) ↔ x ∈ xs.take k
  | 0,_,x=>by simp [distK]
  | k + 1,hk,x=>by
    rw [Wk (by omega)]
    have ih:=Vn xs k (by omega)
    have e:x ∈ xs.take (k + 1) ↔ x ∈ xs.take k ∨ x = nth xs k:=by
      rw [List.take_succ_eq_append_getElem (by omega),← Xa (by omega),List.mem_append,List.mem_singleton]
    rw [e]
    split
    · rename_i c
      rw [ih]
      constructor
      · exact .inl
      · rintro (q | q)
        · exact q
        · subst q;exact (ih _).1 c
    · rw [List.mem_append,List.mem_singleton,ih]
theorem zahw (xs:List (List Int)):∀ k,k ≤ xs.length → (distK (xs.take k)).length ≤ k
  | 0,_=>by simp [distK]
  | k + 1,hk=>by
    have ih:=zahw xs k (by omega)
    rw [Wk (by omega)]
    split
    · omega
    · simp;omega
def Qy (xs:List (List Int)) (k:Nat):List Int:=(xs.take k).map fun x=>((distK (xs.take k)).idxOf x:Int)
theorem Zq {xs:List (List Int)} {k:Nat} (h:k ≤ xs.length):(Qy xs k).length = k:=by simp [Qy,h]
theorem zaij {xs:List (List Int)} {k:Nat} (h:k < xs.length):Qy xs (k + 1) = Qy xs k ++ [((distK (xs.take (k + 1))).idxOf (nth xs k):Int)]:=by
  have e:xs.take (k + 1) = xs.take k ++ [nth xs k]:=by rw [List.take_succ_eq_append_getElem h,← Xa h]
  unfold Qy
  conv=>lhs;rw [show (fun x=>((distK (xs.take (k + 1))).idxOf x:Int)) = (fun x=>((distK (xs.take (k + 1))).idxOf x:Int)) from rfl]
  rw [e,List.map_append]
  congr 1
  apply List.map_congr_left
  intro x hx
  rw [distK_snoc]
  split
  · rfl
  · rw [List.idxOf_append,if_pos ((Vn xs k (by omega) x).2 hx)]
theorem Vj {xs:List (List Int)} {k j:Nat} (h:k ≤ xs.length) (hj:j < k):nth (Qy xs k) j = ((distK (xs.take k)).idxOf (nth xs j):Int):=by
  rw [Xa (by rw [Zq h];exact hj)]
  simp [Qy,Xa (show j < xs.length by omega)]
theorem zaeu {xs:List (List Int)} {k j:Nat} (h:k < xs.length) (hj:j < k) (e:nth xs j = nth xs k):Qy xs (k + 1) = Qy xs k ++ [nth (Qy xs k) j] ∧ distK (xs.take (k + 1)) = distK (xs.take k):=by
  have hm:nth xs k ∈ distK (xs.take k):=by
    rw [Vn xs k (by omega),← e,Zs]
    exact ⟨j,by simp;omega,by rw [Wr hj]⟩
  have e2:distK (xs.take (k + 1)) = distK (xs.take k):=by rw [Wk h,if_pos hm]
  refine ⟨?_,e2⟩
  rw [zaij h,e2,Vj (by omega) hj,e]
theorem zaev {xs:List (List Int)} {k:Nat} (h:k < xs.length) (hn:∀ j,j < k → ¬ nth xs j = nth xs k):Qy xs (k + 1) = Qy xs k ++ [((distK (xs.take k)).length:Int)] ∧ distK (xs.take (k + 1)) = distK (xs.take k) ++ [nth xs k]:=by
  have hm:¬ nth xs k ∈ distK (xs.take k):=by
    rw [Vn xs k (by omega),Zs]
    rintro ⟨j,q1,q2⟩
    rw [List.length_take] at q1
    rw [Wr (by omega)] at q2
    exact hn j (by omega) q2
  have e2:distK (xs.take (k + 1)) = distK (xs.take k) ++ [nth xs k]:=by rw [Wk h,if_neg hm]
  refine ⟨?_,e2⟩
  rw [zaij h,e2,List.idxOf_append,if_neg hm]
  simp
theorem namedK_rng {xs:List (List Int)} {k j:Nat} (h:k ≤ xs.length) (hj:j < k):0 ≤ nth (Qy xs k) j ∧ nth (Qy xs k) j < k:=by
  rw [Vj h hj]
  have hm:nth xs j ∈ distK (xs.take k):=by
    rw [Vn xs k h,Zs]
    exact ⟨j,by simp;omega,by rw [Wr hj]⟩
  have:=List.idxOf_lt_length_of_mem hm
  have:=zahw xs k h
  omega
def CfK (xs:List (List Int)) (i k:Nat) (c:Int):Prop:=(c = -1 ∧ ∀ j,j < k → ¬ nth xs j = nth xs i) ∨ (0 ≤ c ∧ ∃ j,j < i ∧ nth xs j = nth xs i ∧ c = nth (Qy xs i) j)
theorem CfK.zero (xs:List (List Int)) (i:Nat):CfK xs i 0 (-1):=.inl ⟨rfl,fun j hj=>by omega⟩
theorem CfK.hit {xs:List (List Int)} {i k:Nat} (h:k < i) (hi:i ≤ xs.length) (e:nth xs k = nth xs i):CfK xs i (k + 1) (nth (Qy xs i) k):=.inr ⟨(namedK_rng hi h).1,k,h,e,rfl⟩
theorem CfK.miss {xs:List (List Int)} {i k:Nat} {c:Int} (h:CfK xs i k c) (hc:c < 0) (e:¬ nth xs k = nth xs i):CfK xs i (k + 1) c:=by
  rcases h with ⟨rfl,h⟩ | ⟨h,_⟩
  · refine .inl ⟨rfl,fun j hj=>?_⟩
    by_cases q:j = k
    · subst q;exact e
    · exact h j (by omega)
  · omega
theorem CfK.new {xs:List (List Int)} {i:Nat} {c:Int} (h:CfK xs i i c) (hc:c < 0) (hi:i < xs.length):Qy xs (i + 1) = Qy xs i ++ [((distK (xs.take i)).length:Int)] ∧ (distK (xs.take (i + 1))).length = (distK (xs.take i)).length + 1:=by
  rcases h with ⟨rfl,h⟩ | ⟨h,_⟩
  · obtain ⟨h1,h2⟩:=zaev hi h
    exact ⟨h1,by rw [h2];simp⟩
  · omega
theorem CfK.old {xs:List (List Int)} {i k:Nat} {c:Int} (h:CfK xs i k c) (hc:¬ c < 0) (hi:i < xs.length):Qy xs (i + 1) = Qy xs i ++ [c] ∧ (distK (xs.take (i + 1))).length = (distK (xs.take i)).length:=by
  rcases h with ⟨rfl,h⟩ | ⟨_,j,h1,h2,h3⟩
  · omega
  · obtain ⟨g1,g2⟩:=zaeu hi h1 h2
    exact ⟨by rw [g1,h3],by rw [g2]⟩
def numK (ks:List (List Int)):List Int:=Qy ks ks.length
theorem Up (ks:List (List Int)):(numK ks).length = ks.length:=Zq (Nat.le_refl _)
def insS (n:Int) (s:List Int × Bool) (x:Int):List Int × Bool:=if n < x ∧ s.2 = false then (s.1 ++ [n] ++ [x],true) else (s.1 ++ [x],s.2)
def insF (l:List Int) (n:Int) (i:Nat):List Int × Bool:=(l.take i).foldl (insS n) ([],false)
theorem insF_zero (l:List Int) (n:Int):insF l n 0 = ([],false):=rfl
theorem insF_succ {l:List Int} {i:Nat} (h:i < l.length) (n:Int):insF l n (i + 1) = insS n (insF l n i) (nth l i):=by
  unfold insF;rw [List.take_succ_eq_append_getElem h,← Xa h,List.foldl_append];rfl
theorem insF_yes {l:List Int} {i:Nat} {n:Int} (h:i < l.length) (h1:n < nth l i) (h2:(insF l n i).2 = false):insF l n (i + 1) = ((insF l n i).1 ++ [n] ++ [nth l i],true):=by rw [insF_succ h,insS,if_pos ⟨h1,h2⟩]
theorem insF_no {l:List Int} {i:Nat} {n:Int} (h:i < l.length) (h1:n < nth l i → ¬ (insF l n i).2 = false):insF l n (i + 1) = ((insF l n i).1 ++ [nth l i],(insF l n i).2):=by rw [insF_succ h,insS,if_neg (fun q=>h1 q.1 q.2)]
theorem insF_no2 {l:List Int} {i:Nat} {n:Int} (h:i < l.length) (h2:(insF l n i).2 = true):insF l n (i + 1) = ((insF l n i).1 ++ [nth l i],true):=by rw [insF_no h (fun _=>by rw [h2];simp),h2]
theorem insF_no3 {l:List Int} {i:Nat} {n:Int} (h:i < l.length) (h1:nth l i ≤ n):insF l n (i + 1) = ((insF l n i).1 ++ [nth l i],(insF l n i).2):=insF_no h (fun q=>absurd q (by omega))
theorem insF_len (l:List Int) (n:Int):∀ i,i ≤ l.length → (insF l n i).1.length = i + if (insF l n i).2 then 1 else 0
  | 0,_=>rfl
  | i + 1,h=>by
    have ih:=insF_len l n i (by omega)
    rw [insF_succ (by omega),insS]
    split
    · rename_i q;rw [q.2] at ih;simp at ih ⊢;omega
    · simp only [List.length_append,List.length_cons,List.length_nil];omega
theorem insF_le {l:List Int} {n:Int} {i:Nat} (h:i ≤ l.length):(insF l n i).1.length ≤ i + 1:=by have:=insF_len l n i h;split at this <;> omega
def srtE (l:List Int) (n:Int):List Int:=if n ∈ l then l else if (insF l n l.length).2 = true then (insF l n l.length).1 else (insF l n l.length).1 ++ [n]
theorem srtE_len (l:List Int) (n:Int):(srtE l n).length ≤ l.length + 1:=by
  unfold srtE
  split
  · omega
  · have:=insF_len l n l.length (Nat.le_refl _)
    split
    · rename_i q;rw [q] at this;simp at this;omega
    · rename_i q;simp only [Bool.not_eq_true] at q;rw [q] at this;simp at this ⊢;omega
theorem srtE_mem {l:List Int} {n:Int} {i:Nat} (h:i < l.length) (e:nth l i = n):srtE l n = l:=by rw [srtE,if_pos (by rw [Zs];exact ⟨i,h,e⟩)]
theorem srtE_no {l:List Int} {n:Int} (h:NoneTill (fun k=>decide (nth l k = n)) l.length):srtE l n = if (insF l n l.length).2 = true then (insF l n l.length).1 else (insF l n l.length).1 ++ [n]:=by
  rw [srtE,if_neg]
  rw [Zs]
  rintro ⟨i,h1,h2⟩
  have:=h i h1
  simp at this
  exact this h2
theorem srtE_y {l:List Int} {n:Int} (h:NoneTill (fun k=>decide (nth l k = n)) l.length) (hd:(insF l n l.length).2 = true):srtE l n = (insF l n l.length).1:=by rw [srtE_no h,if_pos hd]
theorem srtE_n {l:List Int} {n:Int} (h:NoneTill (fun k=>decide (nth l k = n)) l.length) (hd:(insF l n l.length).2 = false):srtE l n = (insF l n l.length).1 ++ [n]:=by rw [srtE_no h,if_neg (by rw [hd];simp)]
def aftF (bl row:List Int) (k:Nat):List Int:=(row.take k).foldl (fun s x=>srtE s (nth bl x.toNat)) []
def aftE (bl row:List Int):List Int:=aftF bl row row.length
theorem aftF_zero (bl row:List Int):aftF bl row 0 = []:=rfl
theorem zake {bl row:List Int} {k:Nat} (h:k < row.length):aftF bl row (k + 1) = srtE (aftF bl row k) (nth bl (nth row k).toNat):=by
  unfold aftF;rw [List.take_succ_eq_append_getElem h,← Xa h,List.foldl_append];rfl
theorem aftF_len (bl row:List Int):∀ k,k ≤ row.length → (aftF bl row k).length ≤ k
  | 0,_=>by simp [aftF]
  | k + 1,h=>by
    rw [zake (by omega)]
    have:=srtE_len (aftF bl row k) (nth bl (nth row k).toNat)
    have:=aftF_len bl row k (by omega)
    omega
def keyF (nx:List (List Int)) (bl:List Int) (k:Nat):List (List Int):=(List.range k).map fun i=>nth bl i :: aftE bl (nth nx i)
theorem keyF_succ (nx:List (List Int)) (bl:List Int) (k:Nat):keyF nx bl (k + 1) = keyF nx bl k ++ [nth bl k :: aftE bl (nth nx k)]:=by simp [keyF,List.range_succ]
theorem zagu (nx:List (List Int)) (bl:List Int) (k:Nat):(keyF nx bl k).length = k:=by simp [keyF]
def RefOk (b:List (List Int)) (n:Nat):Prop:=b.length = n ∧ ∀ j,j < n → (nth b j).length ≤ 1048576 ∧ ∀ k,k < (nth b j).length → 0 ≤ nth (nth b j) k ∧ nth (nth b j) k < n
def refE (nx:List (List Int)) (bl:List Int):List Int:=numK (keyF nx bl bl.length)
theorem refE_len (nx:List (List Int)) (bl:List Int):(refE nx bl).length = bl.length:=by rw [refE,Up,zagu]


@[go_sem] theorem makeD_1R (x:D):makeD [x] 1 = [x]:=by rw [Js];rfl
theorem Spec.frameF {P:Program} {f:FuncId} {args:List D} {r:D} (h:Spec P f args (fun _=>none) r (fun _=>none)) (H:Hp):Spec P f args H r H:=by
  have h1:SpecR P f args (fun _=>none) (fun _=>(r,fun _=>none)):=fun w J vs μ fp N hR=>(h w J vs μ fp N hR).mono fun e w' ⟨v,μ',fp',N',he,hr⟩=>⟨⟨Unit,()⟩,v,μ',fp',N',he,hr⟩
  have h2:=SpecR.frame0 (r:=fun _=>r) h1 (H:=H)
  exact fun w J vs μ fp N hR=>(h2 w J vs μ fp N hR).mono fun e w' ⟨c,v,μ',fp',N',he,hr⟩=>⟨v,μ',fp',N',he,hr⟩

set_option maxHeartbeats 1000000 in
theorem l10Number_pure (ks:List (List Int)) (hn:ks.length ≤ 1048577):Pure Tryz.prog 29 [li cL ks] (fr 1 cI (numK ks)):=by
  refine Pure.of_walk Tryz.func29 rfl (by simp [Tryz.f29]) (by simp [-zd,go_sem]) fun B hK=>?_
  (repeat' (first
 | refine Qt ?_
 | refine Qc (id:=0) Xo [] (by kernel_rfl) ?_;simp [-zg,-zd,↓Qb,↓Qa,go_sem]
 | refine Qc (id:=1) Xo [] (by kernel_rfl) ?_;simp [-zg,-zd,↓Qb,↓Qa,go_sem]
 | refine Qc (id:=2) Xo [] (by kernel_rfl) ?_;simp [-zg,-zd,↓Qb,↓Qa,go_sem]
 | refine Qc (id:=3) Xo [] (by kernel_rfl) ?_;simp [-zg,-zd,↓Qb,↓Qa,go_sem];try ((have hz:distK ([]:List (List Int)) = []:=rfl);(have hz2:Qy ks 0 = []:=rfl))
 | refine Qc (id:=4) Xo [] (by kernel_rfl) ?_;simp [-zg,-zd,↓Qb,↓Qa,go_sem]
 | ((have hnl:=Zq (xs:=ks) (k:=i) (by omega)));refine Qc (id:=6) Xo [] (by kernel_rfl) ?_;simp [-zg,-zd,↓Qb,↓Qa,go_sem];try ((refine Jh 3 rfl fun b cp j _ hcp hj=>?_))
 | refine Qc (id:=7) Xo [] (by kernel_rfl) ?_;simp [-zg,-zd,↓Qb,↓Qa,go_sem]
 | refine Qc (id:=8) Xo [18] (by kernel_rfl) ?_;simp [-zg,-zd,↓Qb,↓Qa,go_sem];try (refine ⟨fun s8a=>?_,fun s8a=>?_⟩ <;> (try simp [B_iff,B_not] at s8a) <;> try (refine ⟨fun s8b=>?_,fun s8b=>?_⟩ <;> (try simp [B_iff,B_not] at s8b)))
 | ((have hki:q.1 < i:=(by omega));(have hin:i < ks.length:=(by omega));(have hkn:q.1 < ks.length:=(by omega)));refine Xm (id:=10) Xo mixed [] [0] (by kernel_rfl) (by kernel_rfl) (by simp [-zg,-zd,↓Qb,↓Qa,go_sem,hin,Qe hin,zsP hin,hkn,Qe hkn,zsP hkn]) ?_;simp [-zg,-zd,↓Qb,↓Qa,go_sem,hin,Qe hin,zsP hin,hkn,Qe hkn,zsP hkn]
 | ((have hkl:q.1 < (Qy ks i).length:=(by omega));(have hkl2:q.1 < (Qy ks i).length + j:=(by omega));(have hkl3:q.1 + 1 ≤ (Qy ks i).length + j:=(by omega)));refine Qc (id:=11) Xo [] (by kernel_rfl) ?_;simp [-zg,-zd,↓Qb,↓Qa,go_sem,hki,hkl,hkl2,hkl3,(show 0 < (Qy ks i).length - q.1 by omega),(show 0 < i - q.1 by omega),(show ¬ i = 0 by omega),(show q.1 < i + j by omega),(show q.1 + 1 ≤ i + j by omega)];try ((obtain ⟨c',hc',hCf⟩:∃ c',c' = nth (Qy ks i) q.1 ∧ CfK ks i (q.1 + 1) c':=⟨_,rfl,CfK.hit hki (by omega) c32⟩))
 | (first | (have hCf2:=hCf;skip) | (obtain ⟨c',hc',hCf⟩:∃ c',c' = q.2 ∧ CfK ks i (q.1 + 1) c':=⟨_,rfl,CfK.miss g2 (by omega) c32⟩));refine Qc (id:=9) Xo [] (by kernel_rfl) ?_;simp [-zg,-zd,↓Qb,↓Qa,go_sem,wrapS (k:=q.1) (by omega)]
 | refine Qc (id:=12) Xo [] (by kernel_rfl) ?_;simp [-zg,-zd,↓Qb,↓Qa,go_sem]
 | ((have hki:q.1 = i:=(by omega));(have hnew:=CfK.new (by rw [hki] at g2;exact g2) (by omega) (show i < ks.length by omega));(have hdl:=zahw ks i (by omega));(have e8:((distK (ks.take (i + 1))).length:Int) = ((distK (ks.take i)).length:Int) + 1:=(by rw [hnew.2];rfl));(have e7:cat cI (Qy ks i) ++ [.int .i64 ((distK (ks.take i)).length:Int)] = cat cI (Qy ks (i + 1)):=(by rw [zanz,hnew.1])));refine Qc (id:=13) Xo [] (by kernel_rfl) ?_;simp [-zg,-zd,↓Qb,↓Qa,go_sem]
 | refine Qc (id:=14) Xo [] (by kernel_rfl) ?_;simp [-zg,-zd,↓Qb,↓Qa,go_sem,Xb (x:=((distK (ks.take i)).length:Int) + 1) (by omega) (by omega)]
 | ((first | (have e72:=e7;skip) | (have hold:=CfK.old g2 (by omega) (show i < ks.length by omega);have e8:((distK (ks.take (i + 1))).length:Int) = ((distK (ks.take i)).length:Int):=(by rw [hold.2]);have e7:cat cI (Qy ks i) ++ [.int .i64 q.2] = cat cI (Qy ks (i + 1)):=(by rw [zanz,hold.1])));(refine Jw 3 (b:=b) (all:=cat cI (Qy ks i) ++ zrP j .any) rfl (by simp [upd]) (by omega) (by simp [Qu,hnl]) (by simp [Qu,hnl];omega) ?_));refine Qc (id:=15) Xo [] (by kernel_rfl) ?_;simp [-zg,-zd,↓Qb,↓Qa,go_sem,e7,hnl,Ze (f:=cI) (Qy ks i) (zrP j .any) (n:=i) hnl.symm,(show i ≤ 9223372036854775806 by omega),(show 2 * (i + 1) * 8 ≤ 281474976710656 by omega),(show i + 1 ≤ 9223372036854775807 by omega)]
 | refine Qc (id:=5) Xo [] (by kernel_rfl) ?_;simp [-zg,-zd,↓Qb,↓Qa,go_sem,wrapS (k:=i) (by omega)]
 | ((obtain rfl:i = ks.length:=by omega);have hcn:=Zq (xs:=ks) (Nat.le_refl ks.length));refine Qc (id:=16) Xo [] (by kernel_rfl) ?_;simp [-zg,-zd,↓Qb,↓Qa,go_sem,numK,hcn]
 | refine Qd (c:=.tmp 12) ?_;simp [-zg,-zd,↓Qb,↓Qa,go_sem];try first | (refine ⟨?_,?_⟩ <;> refine zA ?_) | (refine ⟨fun c12=>?_,fun c12=>?_⟩ <;> (try simp [B_iff,B_not] at c12))
 | refine Qd (c:=.tmp 21) ?_;simp [-zg,-zd,↓Qb,↓Qa,go_sem];try first | (refine ⟨?_,?_⟩ <;> refine zA ?_) | (refine ⟨fun c21=>?_,fun c21=>?_⟩ <;> (try simp [B_iff,B_not] at c21))
 | refine Qd (c:=.tmp 32) ?_;simp [-zg,-zd,↓Qb,↓Qa,go_sem];try first | (refine ⟨?_,?_⟩ <;> refine zA ?_) | (refine ⟨fun c32=>?_,fun c32=>?_⟩ <;> (try simp [B_iff,B_not] at c32))
 | refine Qd (c:=.tmp 38) ?_;simp [-zg,-zd,↓Qb,↓Qa,go_sem];try first | (refine ⟨?_,?_⟩ <;> refine zA ?_) | (refine ⟨fun c38=>?_,fun c38=>?_⟩ <;> (try simp [B_iff,B_not] at c38))
 | (refine Qg (id:=0) (Qx (ι:=Nat) (fun i:Nat=>⟨(upd (upd (upd (upd (fun _=>.any) 0 (li cL ks)) 3 (.fr 1 i (cat cI (Qy ks i)))) 4 (.int .i64 (distK (ks.take i)).length)) 5 (.int .i64 i)),fun _=>none⟩) (fun i=>i ≤ ks.length) (fun i=>ks.length - i) (0) ?_ ?_ ?_);exact Nat.zero_le _;((repeat' (first | exact Qh (by assumption) | exact Qj | exact ⟨fun _=>Or.inl rfl,fun _ _ h=>nomatch h⟩ | refine Qk ?_ ?_ | refine Qi ?_)) <;> simp [-zg,-zd,↓Qb,↓Qa,go_sem,hz,hz2,Xl,li]);rintro i hi)
 | (refine ⟨i + 1,by omega,by first | omega | (simp;done) | (simp;omega),?_⟩;((repeat' (first | exact Qh (by assumption) | exact Qj | exact ⟨fun _=>Or.inl rfl,fun _ _ h=>nomatch h⟩ | refine Qk ?_ ?_ | refine Qi ?_)) <;> simp [-zg,-zd,↓Qb,↓Qa,go_sem,e8]))
 | (refine Qg (id:=2) (Qx (ι:=Nat × Int) (fun q:Nat × Int=>⟨(upd (upd (upd (upd (upd (upd (fun _=>.any) 0 (li cL ks)) 3 (.sl b 1 0 i cp)) 4 (.int .i64 (distK (ks.take i)).length)) 5 (.int .i64 i)) 6 (.int .i64 q.2)) 7 (.int .i64 q.1)),upd (fun _=>none) b (some (cat cI (Qy ks i) ++ zrP j .any))⟩) (fun q=>q.1 ≤ i ∧ CfK ks i q.1 q.2) (fun q=>i - q.1) ((0,-1)) ?_ ?_ ?_);exact ⟨Nat.zero_le _,CfK.zero ks i⟩;((repeat' (first | exact Qh (by assumption) | exact Qj | exact ⟨fun _=>Or.inl rfl,fun _ _ h=>nomatch h⟩ | refine Qk ?_ ?_ | refine Qi ?_)) <;> simp [-zg,-zd,↓Qb,↓Qa,go_sem]);rintro q ⟨g1,g2⟩)
 | (refine ⟨(q.1 + 1,c'),⟨by dsimp only;omega,hCf⟩,by first | omega | (simp;done) | (simp;omega),?_⟩;((repeat' (first | exact Qh (by assumption) | exact Qj | exact ⟨fun _=>Or.inl rfl,fun _ _ h=>nomatch h⟩ | refine Qk ?_ ?_ | refine Qi ?_)) <;> simp [-zg,-zd,↓Qb,↓Qa,go_sem,hc']))
 | (refine Qg ?_)
 | (refine Qs ?_;simp [-zg,-zd,↓Qb,↓Qa,go_sem])
 | (refine Qr ?_;simp [-zg,-zd,↓Qb,↓Qa,go_sem])
 | (refine Qq ?_;simp [-zg,-zd,↓Qb,↓Qa,go_sem,Tryz.results29])
 | (intro hx;refine zA ?_)
 | (refine ⟨?_,?_⟩ <;> refine zA ?_)
 | (intro hx;constructor <;> intro hs)
 | (constructor <;> intro hs)
 | (refine ⟨?_,fun hs=>?_⟩;refine zA ?_)
 | (refine ⟨fun hs=>?_,?_⟩;rotate_left;refine zA ?_;rotate_left)))
@[go_sem] def zach:Con:=.pure fun
  | [.list n_ks c_ks]=>((Is cL n_ks c_ks) ∧ ((de cL c_ks).length ≤ 1048577),fr 1 cI (numK (de cL c_ks)))
  | _=>(False,.any)
theorem zadz:ConOk Tryz.prog 29 zach:=by
  refine ⟨Qo Tryz.func29 (by decide) rfl,fun args h=>?_⟩
  revert h
  dsimp only
  split
  · intro h
    obtain ⟨⟨ks,rfl,rfl⟩,hn⟩:=h
    try simp only [Qm] at *
    exact ⟨l10Number_pure ks hn,by simp [go_sem]⟩
  · intro h
    exact h.elim
@[go_sem] def Γr1:FuncId → Con:=ext Γ23 29 zach
theorem Zi:∀ g,ConOk Tryz.prog g (Γr1 g):=Qn Xo zadz

set_option maxHeartbeats 1000000 in
theorem l10Sorted_spec (l:List Int) (n:Int) (hn:l.length ≤ 1048576):Spec Tryz.prog 49 [fr 1 cI l,.int .i64 n] (fun _=>none) (fr 1 cI (srtE l n)) (fun _=>none):=by
  refine Spec.of_walk Tryz.func49 rfl (by simp [Tryz.f49]) fun B=>?_
  (repeat' (first
 | refine Qt ?_
 | refine Qc (id:=0) Zi [] (by kernel_rfl) ?_;simp [-zg,-zd,↓Qb,↓Qa,go_sem]
 | refine Qc (id:=1) Zi [] (by kernel_rfl) ?_;simp [-zg,-zd,↓Qb,↓Qa,go_sem]
 | refine Qc (id:=2) Zi [] (by kernel_rfl) ?_;simp [-zg,-zd,↓Qb,↓Qa,go_sem]
 | refine Qc (id:=3) Zi [] (by kernel_rfl) ?_;simp [-zg,-zd,↓Qb,↓Qa,go_sem];try (refine Jh 0 rfl fun b cp j _ hcp hj=>?_)
 | refine Qc (id:=4) Zi [] (by kernel_rfl) ?_;simp [-zg,-zd,↓Qb,↓Qa,go_sem]
 | refine Qc (id:=6) Zi [] (by kernel_rfl) ?_;simp [-zg,-zd,↓Qb,↓Qa,go_sem,c12,Qe c12,zsP c12,(show i < l.length + j by omega),(show i + 1 ≤ l.length + j by omega)]
 | ((have hs:=srtE_mem c12 c20);refine Jw 0 (b:=b) (all:=cat cI l ++ zrP j .any) rfl (by simp [upd]) (by omega) (by simp [Qu]) (by simp [Qu];omega) ?_);refine Qc (id:=7) Zi [] (by kernel_rfl) ?_;simp [-zg,-zd,↓Qb,↓Qa,go_sem,Ze (f:=cI) l (zrP j .any) (n:=l.length) rfl]
 | refine Qc (id:=8) Zi [28] (by kernel_rfl) ?_;simp [-zg,-zd,↓Qb,↓Qa,go_sem,c12,Qe c12,zsP c12,(show i < l.length + j by omega),(show i + 1 ≤ l.length + j by omega)];try (refine ⟨fun s8a=>?_,fun s8a=>?_⟩ <;> (try simp [B_iff,B_not] at s8a) <;> try (refine ⟨fun s8b=>?_,fun s8b=>?_⟩ <;> (try simp [B_iff,B_not] at s8b)))
 | (have hle:=insF_le (n:=n) (show i ≤ l.length by omega));refine Qc (id:=9) Zi [] (by kernel_rfl) ?_;simp [-zg,-zd,↓Qb,↓Qa,go_sem,zanz,(show (insF l n i).1.length ≤ 9223372036854775806 by omega),(show 2 * ((insF l n i).1.length + 1) * 8 ≤ 281474976710656 by omega),(show (insF l n i).1.length + 1 ≤ 9223372036854775807 by omega)]
 | refine Qc (id:=10) Zi [] (by kernel_rfl) ?_;simp [-zg,-zd,↓Qb,↓Qa,go_sem]
 | (have hlf:=insF_le (n:=n) (show i ≤ l.length by omega));refine Qc (id:=11) Zi [] (by kernel_rfl) ?_;simp [-zg,-zd,↓Qb,↓Qa,go_sem,c12,Qe c12,zsP c12,(show i < l.length + j by omega),(show i + 1 ≤ l.length + j by omega),zanz,(show (insF l n i).1.length ≤ 9223372036854775806 by omega),(show 2 * ((insF l n i).1.length + 1) * 8 ≤ 281474976710656 by omega),(show (insF l n i).1.length + 1 ≤ 9223372036854775807 by omega),(show (insF l n i).1.length + 1 ≤ 9223372036854775806 by omega),(show 2 * ((insF l n i).1.length + 1 + 1) * 8 ≤ 281474976710656 by omega),(show (insF l n i).1.length + 1 + 1 ≤ 9223372036854775807 by omega)]
 | (first | (have e5:=insF_yes c12 s8a c31) | (have e5:=insF_no2 c12 c31;have e6:=c31) | (have e5:=insF_no3 c12 s8a));refine Qc (id:=5) Zi [] (by kernel_rfl) ?_;simp [-zg,-zd,↓Qb,↓Qa,go_sem,wrapS (k:=i) (by omega)]
 | ((obtain rfl:i = l.length:=by omega));refine Qc (id:=12) Zi [] (by kernel_rfl) ?_;simp [-zg,-zd,↓Qb,↓Qa,go_sem]
 | (have hle:=insF_le (n:=n) (Nat.le_refl l.length));refine Qc (id:=13) Zi [] (by kernel_rfl) ?_;simp [-zg,-zd,↓Qb,↓Qa,go_sem,zanz,(show (insF l n l.length).1.length ≤ 9223372036854775806 by omega),(show 2 * ((insF l n l.length).1.length + 1) * 8 ≤ 281474976710656 by omega),(show (insF l n l.length).1.length + 1 ≤ 9223372036854775807 by omega)]
 | (first | (have hs:=srtE_y ht c44) | (have hs:=srtE_n ht c44));refine Qc (id:=14) Zi [] (by kernel_rfl) ?_;simp [-zg,-zd,↓Qb,↓Qa,go_sem]
 | refine Qd (c:=.tmp 12) ?_;simp [-zg,-zd,↓Qb,↓Qa,go_sem];try first | (refine ⟨?_,?_⟩ <;> refine zA ?_) | (refine ⟨fun c12=>?_,fun c12=>?_⟩ <;> (try simp [B_iff,B_not] at c12))
 | refine Qd (c:=.tmp 20) ?_;simp [-zg,-zd,↓Qb,↓Qa,go_sem];try first | (refine ⟨?_,?_⟩ <;> refine zA ?_) | (refine ⟨fun c20=>?_,fun c20=>?_⟩ <;> (try simp [B_iff,B_not] at c20))
 | refine Qd (c:=.tmp 31) ?_;simp [-zg,-zd,↓Qb,↓Qa,go_sem];try first | (refine ⟨?_,?_⟩ <;> refine zA ?_) | (refine ⟨fun c31=>?_,fun c31=>?_⟩ <;> (try simp [B_iff,B_not] at c31))
 | refine Qd (c:=.tmp 44) ?_;simp [-zg,-zd,↓Qb,↓Qa,go_sem];try first | (refine ⟨?_,?_⟩ <;> refine zA ?_) | (refine ⟨fun c44=>?_,fun c44=>?_⟩ <;> (try simp [B_iff,B_not] at c44))
 | (refine Qg (id:=0) (Qx (ι:=Nat) (fun i:Nat=>⟨(upd (upd (upd (upd (upd (fun _=>.any) 0 (.sl b 1 0 l.length cp)) 1 (.int .i64 n)) 5 (.fr 1 (insF l n i).1.length (cat cI (insF l n i).1))) 6 (.bool (insF l n i).2)) 7 (.int .i64 i)),upd (fun _=>none) b (some (cat cI l ++ zrP j .any))⟩) (fun i=>i ≤ l.length ∧ NoneTill (fun k=>decide (nth l k = n)) i) (fun i=>l.length - i) (0) ?_ ?_ ?_);exact ⟨Nat.zero_le _,.zero _⟩;((repeat' (first | exact Qh (by assumption) | exact Qj | refine Qk ?_ ?_ | refine Qi ?_)) <;> simp [-zg,-zd,↓Qb,↓Qa,go_sem,insF_zero,Xl]);rintro i ⟨hi,ht⟩)
 | (refine ⟨i + 1,⟨by omega,ht.succ (by simp_all)⟩,by first | omega | (simp;done) | (simp;omega),?_⟩;((repeat' (first | exact Qh (by assumption) | exact Qj | refine Qk ?_ ?_ | refine Qi ?_)) <;> simp [-zg,-zd,↓Qb,↓Qa,go_sem,e5]))
 | (refine Qg ?_)
 | (refine Qs ?_;simp [-zg,-zd,↓Qb,↓Qa,go_sem])
 | (refine Qr ?_;simp [-zg,-zd,↓Qb,↓Qa,go_sem])
 | (refine Qq ?_;simp [-zg,-zd,↓Qb,↓Qa,go_sem,Tryz.results49])
 | (intro hx;refine zA ?_)
 | (refine ⟨?_,?_⟩ <;> refine zA ?_)
 | (intro hx;constructor <;> intro hs)
 | (constructor <;> intro hs)
 | (refine ⟨?_,fun hs=>?_⟩;refine zA ?_)
 | (refine ⟨fun hs=>?_,?_⟩;rotate_left;refine zA ?_;rotate_left)))
  all_goals (first
 | exact c31
 | (rw [hs];exact ⟨rfl,rfl⟩)
 | (rw [hs];exact ⟨by simp,rfl⟩)
 | skip)
@[go_sem] def zado:Con:=.gen fun args H=>match args with
  | [.fr 1 n_l c_l,.int .i64 n]=>((Is cI n_l c_l) ∧ ((de cI c_l).length ≤ 1048576),fr 1 cI (srtE (de cI c_l) n),H)
  | _=>(False,.any,H)
theorem zais:ConOk Tryz.prog 49 zado:=by
  refine ⟨Qo Tryz.func49 (by decide) rfl,fun args H h=>?_⟩
  revert h
  dsimp only
  split
  · intro h
    obtain ⟨⟨l,rfl,rfl⟩,hn⟩:=h
    try simp only [Qm] at *
    exact Spec.frameF (l10Sorted_spec l _ hn) H
  · intro h
    exact h.elim
@[go_sem] def Γr2:FuncId → Con:=ext Γr1 49 zado
theorem Ws:∀ g,ConOk Tryz.prog g (Γr2 g):=Qn Zi zais

set_option maxHeartbeats 1000000 in
theorem l10After_pure (a:List Ints2) (b:List (List Int)) (bl:List Int) (s:Int) (hr:RefOk b bl.length) (hn:bl.length ≤ 1048576) (h0:0 ≤ s) (h1:s < bl.length):Pure Tryz.prog 28 [.st [li cP a,li cL b],li cI bl,.int .i64 s] (fr 1 cI (aftE bl (nth b s.toNat))):=by
  refine Pure.of_walk Tryz.func28 rfl (by simp [Tryz.f28]) (by simp [-zd,go_sem]) fun B hK=>?_
  obtain ⟨m,rfl⟩:=Int.eq_ofNat_of_zero_le h0;have hm1:m < b.length:=(by rw [hr.1];omega);have hrl:=(hr.2 m (by omega)).1;have hrr:=(hr.2 m (by omega)).2
  all_goals (repeat' (first
 | refine Qt ?_
 | refine Qc (id:=0) Ws [] (by kernel_rfl) ?_;simp [-zg,-zd,↓Qb,↓Qa,go_sem];try (refine Xf hK 3 ?_;simp [go_sem])
 | refine Qc (id:=1) Ws [] (by kernel_rfl) ?_;simp [-zg,-zd,↓Qb,↓Qa,go_sem]
 | refine Qc (id:=2) Ws [] (by kernel_rfl) ?_;simp [-zg,-zd,↓Qb,↓Qa,go_sem]
 | refine Qc (id:=3) Ws [] (by kernel_rfl) ?_;simp [-zg,-zd,↓Qb,↓Qa,go_sem,hm1,Qe hm1,zsP hm1]
 | ((obtain ⟨w,hw⟩:=Int.eq_ofNat_of_zero_le (hrr k c17).1);(have hwl:w < bl.length:=(by have:=(hrr k c17).2;omega));(have hal:=aftF_len bl (nth b m) k (by omega));(have e5:aftF bl (nth b m) (k + 1) = srtE (aftF bl (nth b m) k) (nth bl w):=(by rw [zake c17,hw];rfl)));refine Qc (id:=5) Ws [] (by kernel_rfl) ?_;simp [-zg,-zd,↓Qb,↓Qa,go_sem,hm1,Qe hm1,zsP hm1,c17,Qe c17,zsP c17,hw,hwl,Qe hwl,zsP hwl,(show (aftF bl (nth b m) k).length ≤ 1048576 by omega)]
 | refine Qc (id:=4) Ws [] (by kernel_rfl) ?_;simp [-zg,-zd,↓Qb,↓Qa,go_sem,wrapS (k:=k) (by omega)]
 | ((obtain rfl:k = (nth b m).length:=by omega));refine Qc (id:=6) Ws [] (by kernel_rfl) ?_;simp [-zg,-zd,↓Qb,↓Qa,go_sem,aftE]
 | refine Qd (c:=.tmp 17) ?_;simp [-zg,-zd,↓Qb,↓Qa,go_sem];try first | (refine ⟨?_,?_⟩ <;> refine zA ?_) | (refine ⟨fun c17=>?_,fun c17=>?_⟩ <;> (try simp [B_iff,B_not] at c17))
 | (refine Qg (id:=0) (Qx (ι:=Nat) (fun k:Nat=>⟨(upd (upd (upd (upd (upd (fun _=>.any) 1 (li cI bl)) 2 (.int .i64 (m:Int))) 3 (.pd [li cP a,li cL b])) 7 (.fr 1 (aftF bl (nth b m) k).length (cat cI (aftF bl (nth b m) k)))) 8 (.int .i64 k)),fun _=>none⟩) (fun k=>k ≤ (nth b m).length) (fun k=>(nth b m).length - k) (0) ?_ ?_ ?_);exact Nat.zero_le _;((repeat' (first | exact Qh (by assumption) | exact Qj | refine Qk ?_ ?_ | refine Qi ?_)) <;> simp [-zg,-zd,↓Qb,↓Qa,go_sem,aftF_zero,Xl]);rintro k hk)
 | (refine ⟨k + 1,by omega,by first | omega | (simp;done) | (simp;omega),?_⟩;((repeat' (first | exact Qh (by assumption) | exact Qj | refine Qk ?_ ?_ | refine Qi ?_)) <;> simp [-zg,-zd,↓Qb,↓Qa,go_sem,e5]))
 | (refine Qg ?_)
 | (refine Qs ?_;simp [-zg,-zd,↓Qb,↓Qa,go_sem])
 | (refine Qr ?_;simp [-zg,-zd,↓Qb,↓Qa,go_sem])
 | (refine Qq ?_;simp [-zg,-zd,↓Qb,↓Qa,go_sem,Tryz.results28])
 | (intro hx;refine zA ?_)
 | (refine ⟨?_,?_⟩ <;> refine zA ?_)
 | (intro hx;constructor <;> intro hs)
 | (constructor <;> intro hs)
 | (refine ⟨?_,fun hs=>?_⟩;refine zA ?_)
 | (refine ⟨fun hs=>?_,?_⟩;rotate_left;refine zA ?_;rotate_left)))
@[go_sem] def zaei:Con:=.pure fun
  | [.st [.list n_a c_a,.list n_b c_b],.list n_bl c_bl,.int .i64 s]=>((Is cP n_a c_a) ∧ (Is cL n_b c_b) ∧ (Is cI n_bl c_bl) ∧ (RefOk (de cL c_b) (de cI c_bl).length) ∧ ((de cI c_bl).length ≤ 1048576) ∧ (0 ≤ s) ∧ (s < (de cI c_bl).length),fr 1 cI (aftE (de cI c_bl) (nth (de cL c_b) s.toNat)))
  | _=>(False,.any)
theorem zajo:ConOk Tryz.prog 28 zaei:=by
  refine ⟨Qo Tryz.func28 (by decide) rfl,fun args h=>?_⟩
  revert h
  dsimp only
  split
  · intro h
    obtain ⟨⟨a,rfl,rfl⟩,⟨b,rfl,rfl⟩,⟨bl,rfl,rfl⟩,hr,hn,h0,h1⟩:=h
    try simp only [Qm] at *
    exact ⟨l10After_pure a b bl _ hr hn h0 h1,by simp [go_sem]⟩
  · intro h
    exact h.elim
@[go_sem] def Γr3:FuncId → Con:=ext Γr2 28 zaei
theorem zakg:∀ g,ConOk Tryz.prog g (Γr3 g):=Qn Ws zajo

set_option maxHeartbeats 1000000 in
theorem l10Refine_pure (a:List Ints2) (b:List (List Int)) (bl:List Int) (hr:RefOk b bl.length) (hn:bl.length ≤ 1048576):Pure Tryz.prog 13 [.st [li cP a,li cL b],li cI bl] (fr 1 cI (refE b bl)):=by
  refine Pure.of_walk Tryz.func13 rfl (by simp [Tryz.f13]) (by simp [-zd,go_sem]) fun B hK=>?_
  (repeat' (first
 | refine Qt ?_
 | refine Qc (id:=0) zakg [] (by kernel_rfl) ?_;simp [-zg,-zd,↓Qb,↓Qa,go_sem];try (refine Xf hK 2 ?_;simp [go_sem])
 | refine Qc (id:=1) zakg [] (by kernel_rfl) ?_;simp [-zg,-zd,↓Qb,↓Qa,go_sem]
 | refine Qc (id:=2) zakg [] (by kernel_rfl) ?_;simp [-zg,-zd,↓Qb,↓Qa,go_sem]
 | refine Qc (id:=3) zakg [] (by kernel_rfl) ?_;simp [-zg,-zd,↓Qb,↓Qa,go_sem]
 | ((have hal:(aftE bl (nth b i)).length ≤ (nth b i).length:=aftF_len bl (nth b i) _ (Nat.le_refl _));(have hrl:=(hr.2 i c11).1);(have e5:cat oL (keyF b bl i) ++ [.fr 1 (1 + (aftE bl (nth b i)).length) (.int .i64 (nth bl i) :: cat cI (aftE bl (nth b i)))] = cat oL (keyF b bl (i + 1)):=(by rw [keyF_succ,Xk,Xi];simp [oL,fr,cat,cI,Nat.add_comm])));refine Xm (id:=5) zakg mixed [] [1,6] (by kernel_rfl) (by kernel_rfl) (by simp [-zg,-zd,↓Qb,↓Qa,go_sem,c11,Qe c11,zsP c11,hr,hn,e5,(show 1 + (aftE bl (nth b i)).length ≤ 9223372036854775807 by omega),(show 2 * (1 + (aftE bl (nth b i)).length) * 8 ≤ 281474976710656 by omega),(show (0:Int) ≤ (i:Int) by omega),(show (i:Int) < (bl.length:Int) by omega),(show i ≤ 9223372036854775806 by omega),(show 2 * (i + 1) * 24 ≤ 281474976710656 by omega),(show i + 1 ≤ 9223372036854775807 by omega)]) ?_;simp [-zg,-zd,↓Qb,↓Qa,go_sem,c11,Qe c11,zsP c11,hr,hn,e5,(show 1 + (aftE bl (nth b i)).length ≤ 9223372036854775807 by omega),(show 2 * (1 + (aftE bl (nth b i)).length) * 8 ≤ 281474976710656 by omega),(show (0:Int) ≤ (i:Int) by omega),(show (i:Int) < (bl.length:Int) by omega),(show i ≤ 9223372036854775806 by omega),(show 2 * (i + 1) * 24 ≤ 281474976710656 by omega),(show i + 1 ≤ 9223372036854775807 by omega)]
 | refine Qc (id:=4) zakg [] (by kernel_rfl) ?_;simp [-zg,-zd,↓Qb,↓Qa,go_sem,wrapS (k:=i) (by omega)]
 | ((obtain rfl:i = bl.length:=by omega);(refine Xf hK 5 ?_);(have hkl:=zagu b bl bl.length));refine Qc (id:=6) zakg [] (by kernel_rfl) ?_;simp [-zg,-zd,↓Qb,↓Qa,go_sem,refE,hkl,(show bl.length ≤ 1048577 by omega)]
 | refine Qd (c:=.tmp 11) ?_;simp [-zg,-zd,↓Qb,↓Qa,go_sem];try first | (refine ⟨?_,?_⟩ <;> refine zA ?_) | (refine ⟨fun c11=>?_,fun c11=>?_⟩ <;> (try simp [B_iff,B_not] at c11))
 | (refine Qg (id:=0) (Qx (ι:=Nat) (fun i:Nat=>⟨(upd (upd (upd (upd (fun _=>.any) 1 (li cI bl)) 2 (.pd [li cP a,li cL b])) 5 (.fr 1 i (cat oL (keyF b bl i)))) 6 (.int .i64 i)),fun _=>none⟩) (fun i=>i ≤ bl.length) (fun i=>bl.length - i) (0) ?_ ?_ ?_);exact Nat.zero_le _;((repeat' (first | exact Qh (by assumption) | exact Qj | refine Qk ?_ ?_ | refine Qi ?_)) <;> simp [-zg,-zd,↓Qb,↓Qa,go_sem,keyF,Xl]);rintro i hi)
 | (refine ⟨i + 1,by omega,by first | omega | (simp;done) | (simp;omega),?_⟩;((repeat' (first | exact Qh (by assumption) | exact Qj | refine Qk ?_ ?_ | refine Qi ?_)) <;> simp [-zg,-zd,↓Qb,↓Qa,go_sem,e5]))
 | (refine Qg ?_)
 | (refine Qs ?_;simp [-zg,-zd,↓Qb,↓Qa,go_sem])
 | (refine Qr ?_;simp [-zg,-zd,↓Qb,↓Qa,go_sem])
 | (refine Qq ?_;simp [-zg,-zd,↓Qb,↓Qa,go_sem,Tryz.results13])
 | (intro hx;refine zA ?_)
 | (refine ⟨?_,?_⟩ <;> refine zA ?_)
 | (intro hx;constructor <;> intro hs)
 | (constructor <;> intro hs)
 | (refine ⟨?_,fun hs=>?_⟩;refine zA ?_)
 | (refine ⟨fun hs=>?_,?_⟩;rotate_left;refine zA ?_;rotate_left)))
@[go_sem] def zacg:Con:=.pure fun
  | [.st [.list n_a c_a,.list n_b c_b],.list n_bl c_bl]=>((Is cP n_a c_a) ∧ (Is cL n_b c_b) ∧ (Is cI n_bl c_bl) ∧ (RefOk (de cL c_b) (de cI c_bl).length) ∧ ((de cI c_bl).length ≤ 1048576),fr 1 cI (refE (de cL c_b) (de cI c_bl)))
  | _=>(False,.any)
theorem zady:ConOk Tryz.prog 13 zacg:=by
  refine ⟨Qo Tryz.func13 (by decide) rfl,fun args h=>?_⟩
  revert h
  dsimp only
  split
  · intro h
    obtain ⟨⟨a,rfl,rfl⟩,⟨b,rfl,rfl⟩,⟨bl,rfl,rfl⟩,hr,hn⟩:=h
    try simp only [Qm] at *
    exact ⟨l10Refine_pure a b bl hr hn,by simp [go_sem]⟩
  · intro h
    exact h.elim

theorem fine_named {K K2:List (List Int)} (hl:K2.length = K.length) (hf:∀ i j,i < K.length → j < K.length → nth K2 i = nth K2 j → nth K i = nth K j) :
    ∀ k,k ≤ K.length → (distK (K.take k)).length ≤ (distK (K2.take k)).length ∧ ((distK (K.take k)).length = (distK (K2.take k)).length → Qy K k = Qy K2 k)
  | 0,_=>by simp [distK,Qy]
  | k + 1,hk=>by
    obtain ⟨h1,h2⟩:=fine_named hl hf k (by omega)
    by_cases hn:∀ j,j < k → ¬ nth K j = nth K k
    · obtain ⟨a1,a2⟩:=zaev (xs:=K) (k:=k) (by omega) hn
      obtain ⟨b1,b2⟩:=zaev (xs:=K2) (k:=k) (by omega) (fun j hj e=>hn j hj (hf j k (by omega) (by omega) e))
      rw [a1,a2,b1,b2]
      simp only [List.length_append,List.length_cons,List.length_nil]
      refine ⟨by omega,fun e=>?_⟩
      have e2:(distK (K.take k)).length = (distK (K2.take k)).length:=by omega
      rw [h2 e2,e2]
    · have ho:∃ j,j < k ∧ nth K j = nth K k:=Classical.byContradiction fun hc=>hn fun j hj e=>hc ⟨j,hj,e⟩
      obtain ⟨j,hj,ej⟩:=ho
      obtain ⟨_,a2⟩:=zaeu (xs:=K) (k:=k) (by omega) hj ej
      by_cases hn2:∀ j,j < k → ¬ nth K2 j = nth K2 k
      · obtain ⟨b1,b2⟩:=zaev (xs:=K2) (k:=k) (by omega) hn2
        rw [a2,b2]
        simp only [List.length_append,List.length_cons,List.length_nil]
        exact ⟨by omega,fun e=>by omega⟩
      · have ho2:∃ j,j < k ∧ nth K2 j = nth K2 k:=Classical.byContradiction fun hc=>hn2 fun j hj e=>hc ⟨j,hj,e⟩
        obtain ⟨i,hi,ei⟩:=ho2
        have ei2:=hf i k (by omega) (by omega) ei
        obtain ⟨a1,_⟩:=zaeu (xs:=K) (k:=k) (by omega) hi ei2
        obtain ⟨b1,b2⟩:=zaeu (xs:=K2) (k:=k) (by omega) hi ei
        rw [a2,b2,a1,b1]
        exact ⟨h1,fun e=>by rw [h2 e]⟩
theorem numK_ker {K:List (List Int)} {i j:Nat} (hi:i < K.length) (hj:j < K.length) (e:nth (numK K) i = nth (numK K) j):nth K i = nth K j:=by
  rw [numK,Vj (Nat.le_refl _) hi,Vj (Nat.le_refl _) hj] at e
  have e2:(distK (K.take K.length)).idxOf (nth K i) = (distK (K.take K.length)).idxOf (nth K j):=by omega
  have m1:nth K i ∈ distK (K.take K.length):=by
    rw [Vn K _ (Nat.le_refl _),Zs];exact ⟨i,by simpa using hi,by rw [Wr hi]⟩
  have m2:nth K j ∈ distK (K.take K.length):=by
    rw [Vn K _ (Nat.le_refl _),Zs];exact ⟨j,by simpa using hj,by rw [Wr hj]⟩
  have l1:=List.idxOf_lt_length_of_mem m1
  have l2:=List.idxOf_lt_length_of_mem m2
  have g1:=List.getElem_idxOf l1
  have g2:=List.getElem_idxOf l2
  rw [← g1,← g2]
  simp only [e2]
theorem keyF_nth {nx:List (List Int)} {bl:List Int} {k i:Nat} (h:i < k):nth (keyF nx bl k) i = nth bl i :: aftE bl (nth nx i):=by
  rw [Xa (by rw [zagu];exact h)];simp [keyF]
def blkN (K:List (List Int)):Nat:=(distK (K.take K.length)).length
theorem blkN_le (K:List (List Int)):blkN K ≤ K.length:=zahw K _ (Nat.le_refl _)
theorem refE_more (nx K:List (List Int)) (hne:¬ refE nx (numK K) = numK K):K.length - blkN (keyF nx (numK K) K.length) < K.length - blkN K:=by
  have hl:(keyF nx (numK K) K.length).length = K.length:=zagu _ _ _
  have hf:∀ i j,i < K.length → j < K.length → nth (keyF nx (numK K) K.length) i = nth (keyF nx (numK K) K.length) j → nth K i = nth K j:=fun i j hi hj e=>by
    rw [keyF_nth hi,keyF_nth hj] at e
    exact numK_ker hi hj (List.cons.inj e).1
  obtain ⟨h1,h2⟩:=fine_named hl hf K.length (Nat.le_refl _)
  have hr:refE nx (numK K) = numK (keyF nx (numK K) K.length):=by rw [refE,Up]
  have hb:=blkN_le (keyF nx (numK K) K.length)
  unfold blkN at *
  rw [hl] at *
  have:¬ (distK (K.take K.length)).length = (distK ((keyF nx (numK K) K.length).take K.length)).length:=fun e=>hne (by rw [hr,show numK (keyF nx (numK K) K.length) = Qy (keyF nx (numK K) K.length) K.length by rw [numK,zagu]];exact (h2 e).symm)
  omega
theorem refE_num (nx K:List (List Int)):refE nx (numK K) = numK (keyF nx (numK K) K.length):=by rw [refE,Up]

end
end Go.Proofs.YtmiimodggpjkmaaGreat.Vm

