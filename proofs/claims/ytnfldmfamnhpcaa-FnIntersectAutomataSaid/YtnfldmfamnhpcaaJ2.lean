/-
  Components, plain: all nodes searched; numbers in the order of first occurrence. No conditions.
-/
import Derived.Test.YtnfldmfamnhpcaaJ1
import Derived.Test.YtnfldmfamnhpcaaB3
namespace Go.Proofs.Ytnfldmfamnhpcaa.Vm
open Go
set_option linter.unusedVariables false
set_option linter.unusedSimpArgs false
set_option maxRecDepth 200000

def tInit (n:Nat):TS:=⟨List.replicate n 0,List.replicate n 0,List.replicate n (-1),[],0,0⟩
def tAll (nx:List (List Int)):Nat → TS
  | 0=>tInit nx.length
  | k + 1=>if gt (tAll nx k).num (k:Int) = 0 then visit nx nx.length k (tAll nx k) else tAll nx k
def NoG (_:Int):Prop:=False
theorem nth_rep {v:Int} {n k:Nat} (h:k < n):nth (List.replicate n v) k = v:=by rw [Qy (by simpa using h)];simp
theorem Inv.start (nx:List (List Int)):Inv nx NoG (tInit nx.length):=by
  have h0:∀ x,Nd nx x → gt (tInit nx.length).num x = 0:=fun x h=>nth_rep (by have:=h.1;have:=h.2;omega)
  have h1:∀ x,Nd nx x → gt (tInit nx.length).part x = -1:=fun x h=>nth_rep (by have:=h.1;have:=h.2;omega)
  refine ⟨by simp [tInit],by simp [tInit],by simp [tInit],fun x h=>?_,fun x h=>?_,by simp [tInit],fun x h=>?_,?_,by simp [tInit],fun x=>?_,by simp [tInit],fun x h _=>?_,fun x h=>h.elim,fun x h q=>?_,fun x y h=>?_,fun x h=>?_,fun x h q=>?_,fun x y h _ q=>?_⟩
  · rw [h0 x h];simp [tInit]
  · rw [h1 x h];simp [tInit]
  · rw [h1 x h];simp
  · simp [tInit,wh_rep]
  · constructor
    · intro h;simp [tInit] at h
    · rintro ⟨q1,q2,_⟩;exact absurd (h0 x q1) q2
  · rw [h1 x h];simp
  · exact absurd (h0 x h) q
  · simp [tInit] at h
  · simp [tInit] at h
  · rw [h1 x h] at q;simp at q
  · rw [h1 x h] at q;simp at q
theorem Inv.wle {nx:List (List Int)} {G:Int → Prop} {s:TS} (h:Inv nx G s):wh s.num ≤ nx.length:=by
  have:=h.cw;have:=h.ps;have:=h.p1;omega
theorem tAll_ok {nx:List (List Int)} (hx:Xp nx):∀ k,k ≤ nx.length → Inv nx NoG (tAll nx k) ∧ ∀ j,j < k → ¬ gt (tAll nx k).num (j:Int) = 0
  | 0,_=>⟨Inv.start nx,fun j hj=>by omega⟩
  | k + 1,hk=>by
    obtain ⟨h1,h2⟩:=tAll_ok hx k (by omega)
    have hkd:Nd nx (k:Int):=⟨by omega,by omega⟩
    rw [tAll]
    split
    · rename_i h0
      have hV:=visit_ok hx nx.length k (tAll nx k) NoG ⟨h1,hkd,h0,fun x h=>h.elim⟩ h1.wle
      refine ⟨hV.inv,fun j hj=>?_⟩
      by_cases e:j = k
      · subst e;exact hV.at1
      · have hjd:Nd nx (j:Int):=⟨by omega,by omega⟩
        rw [hV.lt.kn _ hjd (h2 j (by omega))];exact h2 j (by omega)
    · rename_i h0
      refine ⟨h1,fun j hj=>?_⟩
      by_cases e:j = k
      · subst e;exact h0
      · exact h2 j (by omega)
theorem parts_ok {nx:List (List Int)} (hx:Xp nx) {x y:Int} (h:Nd nx x) (k:Nd nx y):0 ≤ gt (tAll nx nx.length).part x ∧ (gt (tAll nx nx.length).part x = gt (tAll nx nx.length).part y ↔ Rch nx x y ∧ Rch nx y x):=by
  obtain ⟨h1,h2⟩:=tAll_ok hx nx.length (Nat.le_refl _)
  have hp:0 ≤ gt (tAll nx nx.length).part x:=by
    rcases Int.lt_or_le (gt (tAll nx nx.length).part x) 0 with q | q
    · have hn:=h2 x.toNat (by have:=h.1;have:=h.2;omega)
      rw [Int.toNat_of_nonneg h.1] at hn
      obtain ⟨g,g1,_⟩:=h1.gr x ((h1.st x).2 ⟨h,hn,q⟩)
      exact g1.elim
    · exact q
  refine ⟨hp,?_⟩
  rw [← h1.sc x y h k hp]
  exact eq_comm

def dist (xs:List Int):List Int:=xs.foldl (fun d x=>if x ∈ d then d else d ++ [x]) []
theorem dist_snoc (xs:List Int) (x:Int):dist (xs ++ [x]) = if x ∈ dist xs then dist xs else dist xs ++ [x]:=by unfold dist;rw [List.foldl_append];rfl
theorem zaea {xs:List Int} {k:Nat} (h:k < xs.length):dist (xs.take (k + 1)) = if nth xs k ∈ dist (xs.take k) then dist (xs.take k) else dist (xs.take k) ++ [nth xs k]:=by
  rw [List.take_succ_eq_append_getElem h,← Qy h,dist_snoc]
theorem zahx (xs:List Int):∀ k,k ≤ xs.length → ∀ x,x ∈ dist (xs.take k) ↔ x ∈ xs.take k
  | 0,_,x=>by simp [dist]
  | k + 1,hk,x=>by
    rw [zaea (by omega)]
    have ih:=zahx xs k (by omega)
    have e:x ∈ xs.take (k + 1) ↔ x ∈ xs.take k ∨ x = nth xs k:=by
      rw [List.take_succ_eq_append_getElem (by omega),← Qy (by omega),List.mem_append,List.mem_singleton]
    rw [e]
    split
    · rename_i c
      rw [ih]
      constructor
      · exact .inl
      · rintro (q | q)
        · exact q
        · subst q;exact (ih _).1 c
    · rw [List.mem_append,List.mem_singleton,ih]
theorem dist_len (xs:List Int):∀ k,k ≤ xs.length → (dist (xs.take k)).length ≤ k
  | 0,_=>by simp [dist]
  | k + 1,hk=>by
    have ih:=dist_len xs k (by omega)
    rw [zaea (by omega)]
    split
    · omega
    · simp;omega
def named (xs:List Int) (k:Nat):List Int:=(xs.take k).map fun x=>((dist (xs.take k)).idxOf x:Int)
theorem zadq {xs:List Int} {k:Nat} (h:k ≤ xs.length):(named xs k).length = k:=by simp [named,h]
theorem zaky {xs:List Int} {k:Nat} (h:k < xs.length):named xs (k + 1) = named xs k ++ [((dist (xs.take (k + 1))).idxOf (nth xs k):Int)]:=by
  have e:xs.take (k + 1) = xs.take k ++ [nth xs k]:=by rw [List.take_succ_eq_append_getElem h,← Qy h]
  unfold named
  conv=>lhs;rw [show (fun x=>((dist (xs.take (k + 1))).idxOf x:Int)) = (fun x=>((dist (xs.take (k + 1))).idxOf x:Int)) from rfl]
  rw [e,List.map_append]
  congr 1
  apply List.map_congr_left
  intro x hx
  rw [dist_snoc]
  split
  · rfl
  · rw [List.idxOf_append,if_pos ((zahx xs k (by omega) x).2 hx)]
theorem zajq {xs:List Int} {k j:Nat} (h:k ≤ xs.length) (hj:j < k):nth (named xs k) j = ((dist (xs.take k)).idxOf (nth xs j):Int):=by
  rw [Qy (by rw [zadq h];exact hj)]
  simp [named,Qy (show j < xs.length by omega)]
theorem named_old {xs:List Int} {k j:Nat} (h:k < xs.length) (hj:j < k) (e:nth xs j = nth xs k):named xs (k + 1) = named xs k ++ [nth (named xs k) j] ∧ dist (xs.take (k + 1)) = dist (xs.take k):=by
  have hm:nth xs k ∈ dist (xs.take k):=by
    rw [zahx xs k (by omega),← e,Ww]
    exact ⟨j,by simp;omega,by rw [Vq hj]⟩
  have e2:dist (xs.take (k + 1)) = dist (xs.take k):=by rw [zaea h,if_pos hm]
  refine ⟨?_,e2⟩
  rw [zaky h,e2,zajq (by omega) hj,e]
theorem named_new {xs:List Int} {k:Nat} (h:k < xs.length) (hn:∀ j,j < k → ¬ nth xs j = nth xs k):named xs (k + 1) = named xs k ++ [((dist (xs.take k)).length:Int)] ∧ dist (xs.take (k + 1)) = dist (xs.take k) ++ [nth xs k]:=by
  have hm:¬ nth xs k ∈ dist (xs.take k):=by
    rw [zahx xs k (by omega),Ww]
    rintro ⟨j,q1,q2⟩
    rw [List.length_take] at q1
    rw [Vq (by omega)] at q2
    exact hn j (by omega) q2
  have e2:dist (xs.take (k + 1)) = dist (xs.take k) ++ [nth xs k]:=by rw [zaea h,if_neg hm]
  refine ⟨?_,e2⟩
  rw [zaky h,e2,List.idxOf_append,if_neg hm]
  simp
theorem named_rng {xs:List Int} {k j:Nat} (h:k ≤ xs.length) (hj:j < k):0 ≤ nth (named xs k) j ∧ nth (named xs k) j < k:=by
  rw [zajq h hj]
  have hm:nth xs j ∈ dist (xs.take k):=by
    rw [zahx xs k h,Ww]
    exact ⟨j,by simp;omega,by rw [Vq hj]⟩
  have:=List.idxOf_lt_length_of_mem hm
  have:=dist_len xs k h
  omega
def Zc (nx:List (List Int)):List Int:=named (tAll nx nx.length).part nx.length
theorem part_len {nx:List (List Int)} (hx:Xp nx):(tAll nx nx.length).part.length = nx.length:=(tAll_ok hx nx.length (Nat.le_refl _)).1.lp
theorem zami {nx:List (List Int)} (hx:Xp nx):(Zc nx).length = nx.length:=zadq (by rw [part_len hx];exact Nat.le_refl _)
end Go.Proofs.Ytnfldmfamnhpcaa.Vm

