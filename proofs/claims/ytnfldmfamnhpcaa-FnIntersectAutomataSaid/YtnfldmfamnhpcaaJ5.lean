/-
  impl.components: the map that names the numbers, and the loop that writes the names. No program in sight.
-/
import Derived.Test.YtnfldmfamnhpcaaJ4
import Derived.Test.YtnfldmfamnhpcaaJ2
namespace Go.Proofs.Ytnfldmfamnhpcaa.Vm
open Go
set_option linter.unusedVariables false
set_option linter.unusedSimpArgs false

def esN:Nat → List Int → List (List Int × Int)
  | _,[]=>[]
  | n,x :: d=>([x],(n:Int)) :: esN (n + 1) d
theorem esN_len:∀ (n:Nat) (d:List Int),(esN n d).length = d.length
  | _,[]=>rfl
  | n,x :: d=>by simp [esN,esN_len (n + 1) d]
theorem esN_one:∀ (n:Nat) (d:List Int),OneKey (esN n d)
  | _,[]=>fun e h=>by simp [esN] at h
  | n,x :: d=>fun e h=>by
    rw [esN,List.mem_cons] at h
    rcases h with rfl | h
    · rfl
    · exact esN_one (n + 1) d e h
theorem find_esN (x:Int):∀ (n:Nat) (d:List Int),findE x (esN n d) = if x ∈ d then some ((n + d.idxOf x:Nat):Int) else none
  | _,[]=>by simp [esN,findE]
  | n,y :: d=>by
    rw [esN,findE]
    by_cases c:y = x
    · subst c;simp
    · have c2:¬ ([y]:List Int) = [x]:=by simpa using c
      have c3:¬ x = y:=fun e=>c e.symm
      rw [if_neg c2,find_esN x (n + 1) d]
      by_cases q:x ∈ d
      · rw [if_pos q,if_pos (List.mem_cons_of_mem _ q),List.idxOf_cons]
        have:(y == x) = false:=by simpa using c
        rw [this];simp;omega
      · rw [if_neg q,if_neg (by simp [q,c3])]
theorem put_esN (x:Int):∀ (n:Nat) (d:List Int),¬ x ∈ d → putE x ((n + d.length:Nat):Int) (esN n d) = esN n (d ++ [x])
  | n,[],_=>by simp [esN,putE]
  | n,y :: d,h=>by
    have c:¬ ([y]:List Int) = [x]:=by
      intro e
      simp at e
      exact h (by simp [e])
    rw [esN,putE,if_neg c,List.cons_append,esN]
    have:=put_esN x (n + 1) d (fun q=>h (List.mem_cons_of_mem _ q))
    rw [show n + (y :: d).length = n + 1 + d.length by simp;omega,this]
def half (xs:List Int) (k:Nat):List Int:=named xs k ++ xs.drop k
theorem half_len {xs:List Int} {k:Nat} (h:k ≤ xs.length):(half xs k).length = xs.length:=by simp [half,zadq h];omega
theorem half_zero (xs:List Int):half xs 0 = xs:=by simp [half,named]
theorem half_end (xs:List Int):half xs xs.length = named xs xs.length:=by simp [half]
theorem half_nth {xs:List Int} {k:Nat} (h:k < xs.length):nth (half xs k) k = nth xs k:=by
  rw [Qy (by rw [half_len (by omega)];exact h),Qy h]
  unfold half
  rw [List.getElem_append_right (by rw [zadq (by omega)];exact Nat.le_refl _)]
  simp [zadq (show k ≤ xs.length by omega)]
theorem half_set {xs:List Int} {k:Nat} (h:k < xs.length):(half xs k).set k ((dist (xs.take (k + 1))).idxOf (nth xs k):Int) = half xs (k + 1):=by
  unfold half
  rw [zaky h,List.set_append_right _ _ (by rw [zadq (by omega)];exact Nat.le_refl _),zadq (by omega),Nat.sub_self,List.drop_eq_getElem_cons h,List.set_cons_zero,List.append_assoc]
  rfl
theorem es_old {xs:List Int} {k:Nat} (h:k < xs.length) (c:nth xs k ∈ dist (xs.take k)):esN 0 (dist (xs.take (k + 1))) = esN 0 (dist (xs.take k)):=by
  rw [zaea h,if_pos c]
theorem es_new {xs:List Int} {k:Nat} (h:k < xs.length) (c:¬ nth xs k ∈ dist (xs.take k)):putE (nth xs k) ((dist (xs.take k)).length:Int) (esN 0 (dist (xs.take k))) = esN 0 (dist (xs.take (k + 1))):=by
  have:=put_esN (nth xs k) 0 _ c
  rw [Nat.zero_add] at this
  rw [this,zaea h,if_neg c]
theorem es_find {xs:List Int} {k:Nat} (h:k < xs.length):findE (nth xs k) (esN 0 (dist (xs.take (k + 1)))) = some ((dist (xs.take (k + 1))).idxOf (nth xs k):Int):=by
  have hm:nth xs k ∈ dist (xs.take (k + 1)):=by
    rw [zaea h]
    split
    · assumption
    · simp
  rw [find_esN,if_pos hm,Nat.zero_add]
end Go.Proofs.Ytnfldmfamnhpcaa.Vm

