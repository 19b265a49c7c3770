/-
  Components, plain: all nodes searched; numbers in the order of first occurrence. No conditions.
-/
import Derived.Test.YtnfldmfamnhpcaaDoorJ1
import Derived.Test.YtnfldmfamnhpcaaDoorB3
namespace Go.Proofs.YtnfldmfamnhpcaaDoor.Vm
open Go
set_option linter.unusedVariables false
set_option linter.unusedSimpArgs false
set_option maxRecDepth 200000

def tInit (n:Nat):TS:=⟨List.replicate n 0,List.replicate n 0,List.replicate n (-1),[],0,0⟩
def NoG (_:Int):Prop:=False
theorem nth_rep {v:Int} {n k:Nat} (h:k < n):nth (List.replicate n v) k = v:=by rw [nth_lt (by simpa using h)];simp
theorem Inv.start (nx:List (List Int)):Inv nx NoG (tInit nx.length):=by
  have h0:∀ x,Nd nx x → gt (tInit nx.length).num x = 0:=fun x h=>nth_rep (by have:=h.1;have:=h.2;omega)
  have h1:∀ x,Nd nx x → gt (tInit nx.length).part x = -1:=fun x h=>nth_rep (by have:=h.1;have:=h.2;omega)
  refine ⟨by simp [tInit],by simp [tInit],by simp [tInit],fun x h=>?_,fun x h=>?_,by simp [tInit],fun x h=>?_,?_,by simp [tInit],fun x=>?_,by simp [tInit],fun x h _=>?_,fun x h=>h.elim,fun x h q=>?_,fun x y h=>?_,fun x h=>?_,fun x h q=>?_,fun x y h _ q=>?_⟩
  · rw [h0 x h];simp [tInit]
  · rw [h1 x h];simp [tInit]
  · rw [h1 x h];simp
  · simp [tInit,wh_rep]
  · constructor
    · intro h;simp [tInit] at h
    · rintro ⟨q1,q2,_⟩;exact absurd (h0 x q1) q2
  · rw [h1 x h];simp
  · exact absurd (h0 x h) q
  · simp [tInit] at h
  · simp [tInit] at h
  · rw [h1 x h] at q;simp at q
  · rw [h1 x h] at q;simp at q
def dist (xs:List Int):List Int:=xs.foldl (fun d x=>if x ∈ d then d else d ++ [x]) []
theorem dist_snoc (xs:List Int) (x:Int):dist (xs ++ [x]) = if x ∈ dist xs then dist xs else dist xs ++ [x]:=by unfold dist;rw [List.foldl_append];rfl
theorem dist_succ {xs:List Int} {k:Nat} (h:k < xs.length):dist (xs.take (k + 1)) = if nth xs k ∈ dist (xs.take k) then dist (xs.take k) else dist (xs.take k) ++ [nth xs k]:=by
  rw [List.take_succ_eq_append_getElem h,← nth_lt h,dist_snoc]
theorem mem_dist (xs:List Int):∀ k,k ≤ xs.length → ∀ x,x ∈ dist (xs.take k) ↔ x ∈ xs.take k
  | 0,_,x=>by simp [dist]
  | k + 1,hk,x=>by
    rw [dist_succ (by omega)]
    have ih:=mem_dist xs k (by omega)
    have e:x ∈ xs.take (k + 1) ↔ x ∈ xs.take k ∨ x = nth xs k:=by
      rw [List.take_succ_eq_append_getElem (by omega),← nth_lt (by omega),List.mem_append,List.mem_singleton]
    rw [e]
    split
    · rename_i c
      rw [ih]
      constructor
      · exact .inl
      · rintro (q | q)
        · exact q
        · subst q;exact (ih _).1 c
    · rw [List.mem_append,List.mem_singleton,ih]
def named (xs:List Int) (k:Nat):List Int:=(xs.take k).map fun x=>((dist (xs.take k)).idxOf x:Int)
theorem named_len {xs:List Int} {k:Nat} (h:k ≤ xs.length):(named xs k).length = k:=by simp [named,h]
theorem named_succ {xs:List Int} {k:Nat} (h:k < xs.length):named xs (k + 1) = named xs k ++ [((dist (xs.take (k + 1))).idxOf (nth xs k):Int)]:=by
  have e:xs.take (k + 1) = xs.take k ++ [nth xs k]:=by rw [List.take_succ_eq_append_getElem h,← nth_lt h]
  unfold named
  conv=>lhs;rw [show (fun x=>((dist (xs.take (k + 1))).idxOf x:Int)) = (fun x=>((dist (xs.take (k + 1))).idxOf x:Int)) from rfl]
  rw [e,List.map_append]
  congr 1
  apply List.map_congr_left
  intro x hx
  rw [dist_snoc]
  split
  · rfl
  · rw [List.idxOf_append,if_pos ((mem_dist xs k (by omega) x).2 hx)]
theorem nth_named {xs:List Int} {k j:Nat} (h:k ≤ xs.length) (hj:j < k):nth (named xs k) j = ((dist (xs.take k)).idxOf (nth xs j):Int):=by
  rw [nth_lt (by rw [named_len h];exact hj)]
  simp [named,nth_lt (show j < xs.length by omega)]
theorem named_old {xs:List Int} {k j:Nat} (h:k < xs.length) (hj:j < k) (e:nth xs j = nth xs k):named xs (k + 1) = named xs k ++ [nth (named xs k) j] ∧ dist (xs.take (k + 1)) = dist (xs.take k):=by
  have hm:nth xs k ∈ dist (xs.take k):=by
    rw [mem_dist xs k (by omega),← e,mem_nth]
    exact ⟨j,by simp;omega,by rw [zain hj]⟩
  have e2:dist (xs.take (k + 1)) = dist (xs.take k):=by rw [dist_succ h,if_pos hm]
  refine ⟨?_,e2⟩
  rw [named_succ h,e2,nth_named (by omega) hj,e]
theorem named_new {xs:List Int} {k:Nat} (h:k < xs.length) (hn:∀ j,j < k → ¬ nth xs j = nth xs k):named xs (k + 1) = named xs k ++ [((dist (xs.take k)).length:Int)] ∧ dist (xs.take (k + 1)) = dist (xs.take k) ++ [nth xs k]:=by
  have hm:¬ nth xs k ∈ dist (xs.take k):=by
    rw [mem_dist xs k (by omega),mem_nth]
    rintro ⟨j,q1,q2⟩
    rw [List.length_take] at q1
    rw [zain (by omega)] at q2
    exact hn j (by omega) q2
  have e2:dist (xs.take (k + 1)) = dist (xs.take k) ++ [nth xs k]:=by rw [dist_succ h,if_neg hm]
  refine ⟨?_,e2⟩
  rw [named_succ h,e2,List.idxOf_append,if_neg hm]
  simp
end Go.Proofs.YtnfldmfamnhpcaaDoor.Vm

