/-
  Numbers in the order of first occurrence, sorted insertion, what follows: plain. No conditions.
-/
import Derived.Test.YtmiimodggpjkmaaRow
namespace Go.Proofs.Ytmiimodggpjkmaa.Vm
open Go
set_option linter.unusedVariables false
set_option linter.unusedSimpArgs false
set_option maxRecDepth 200000

def distK (xs:List (List Int)):List (List Int):=xs.foldl (fun d x=>if x ∈ d then d else d ++ [x]) []
theorem distK_snoc (xs:List (List Int)) (x:List Int):distK (xs ++ [x]) = if x ∈ distK xs then distK xs else distK xs ++ [x]:=by unfold distK;rw [List.foldl_append];rfl
theorem zadv {xs:List (List Int)} {k:Nat} (h:k < xs.length):distK (xs.take (k + 1)) = if nth xs k ∈ distK (xs.take k) then distK (xs.take k) else distK (xs.take k) ++ [nth xs k]:=by
  rw [List.take_succ_eq_append_getElem h,← Qw h,distK_snoc]
theorem zaco (xs:List (List Int)):∀ k,k ≤ xs.length → ∀ x,x ∈ distK (xs.take k) ↔ x ∈ xs.take k
  | 0,_,x=>by simp [distK]
  | k + 1,hk,x=>by
    rw [zadv (by omega)]
    have ih:=zaco xs k (by omega)
    have e:x ∈ xs.take (k + 1) ↔ x ∈ xs.take k ∨ x = nth xs k:=by
      rw [List.take_succ_eq_append_getElem (by omega),← Qw (by omega),List.mem_append,List.mem_singleton]
    rw [e]
    split
    · rename_i c
      rw [ih]
      constructor
      · exact .inl
      · rintro (q | q)
        · exact q
        · subst q;exact (ih _).1 c
    · rw [List.mem_append,List.mem_singleton,ih]
theorem zafe (xs:List (List Int)):∀ k,k ≤ xs.length → (distK (xs.take k)).length ≤ k
  | 0,_=>by simp [distK]
  | k + 1,hk=>by
    have ih:=zafe xs k (by omega)
    rw [zadv (by omega)]
    split
    · omega
    · simp;omega
def Qy (xs:List (List Int)) (k:Nat):List Int:=(xs.take k).map fun x=>((distK (xs.take k)).idxOf x:Int)
theorem Za {xs:List (List Int)} {k:Nat} (h:k ≤ xs.length):(Qy xs k).length = k:=by simp [Qy,h]
theorem zaia {xs:List (List Int)} {k:Nat} (h:k < xs.length):Qy xs (k + 1) = Qy xs k ++ [((distK (xs.take (k + 1))).idxOf (nth xs k):Int)]:=by
  have e:xs.take (k + 1) = xs.take k ++ [nth xs k]:=by rw [List.take_succ_eq_append_getElem h,← Qw h]
  unfold Qy
  conv=>lhs;rw [show (fun x=>((distK (xs.take (k + 1))).idxOf x:Int)) = (fun x=>((distK (xs.take (k + 1))).idxOf x:Int)) from rfl]
  rw [e,List.map_append]
  congr 1
  apply List.map_congr_left
  intro x hx
  rw [distK_snoc]
  split
  · rfl
  · rw [List.idxOf_append,if_pos ((zaco xs k (by omega) x).2 hx)]
theorem zagj {xs:List (List Int)} {k j:Nat} (h:k ≤ xs.length) (hj:j < k):nth (Qy xs k) j = ((distK (xs.take k)).idxOf (nth xs j):Int):=by
  rw [Qw (by rw [Za h];exact hj)]
  simp [Qy,Qw (show j < xs.length by omega)]
theorem namedK_old {xs:List (List Int)} {k j:Nat} (h:k < xs.length) (hj:j < k) (e:nth xs j = nth xs k):Qy xs (k + 1) = Qy xs k ++ [nth (Qy xs k) j] ∧ distK (xs.take (k + 1)) = distK (xs.take k):=by
  have hm:nth xs k ∈ distK (xs.take k):=by
    rw [zaco xs k (by omega),← e,Zj]
    exact ⟨j,by simp;omega,by rw [zadz hj]⟩
  have e2:distK (xs.take (k + 1)) = distK (xs.take k):=by rw [zadv h,if_pos hm]
  refine ⟨?_,e2⟩
  rw [zaia h,e2,zagj (by omega) hj,e]
theorem namedK_new {xs:List (List Int)} {k:Nat} (h:k < xs.length) (hn:∀ j,j < k → ¬ nth xs j = nth xs k):Qy xs (k + 1) = Qy xs k ++ [((distK (xs.take k)).length:Int)] ∧ distK (xs.take (k + 1)) = distK (xs.take k) ++ [nth xs k]:=by
  have hm:¬ nth xs k ∈ distK (xs.take k):=by
    rw [zaco xs k (by omega),Zj]
    rintro ⟨j,q1,q2⟩
    rw [List.length_take] at q1
    rw [zadz (by omega)] at q2
    exact hn j (by omega) q2
  have e2:distK (xs.take (k + 1)) = distK (xs.take k) ++ [nth xs k]:=by rw [zadv h,if_neg hm]
  refine ⟨?_,e2⟩
  rw [zaia h,e2,List.idxOf_append,if_neg hm]
  simp
theorem namedK_rng {xs:List (List Int)} {k j:Nat} (h:k ≤ xs.length) (hj:j < k):0 ≤ nth (Qy xs k) j ∧ nth (Qy xs k) j < k:=by
  rw [zagj h hj]
  have hm:nth xs j ∈ distK (xs.take k):=by
    rw [zaco xs k h,Zj]
    exact ⟨j,by simp;omega,by rw [zadz hj]⟩
  have:=List.idxOf_lt_length_of_mem hm
  have:=zafe xs k h
  omega
def CfK (xs:List (List Int)) (i k:Nat) (c:Int):Prop:=(c = -1 ∧ ∀ j,j < k → ¬ nth xs j = nth xs i) ∨ (0 ≤ c ∧ ∃ j,j < i ∧ nth xs j = nth xs i ∧ c = nth (Qy xs i) j)
theorem CfK.zero (xs:List (List Int)) (i:Nat):CfK xs i 0 (-1):=.inl ⟨rfl,fun j hj=>by omega⟩
theorem CfK.hit {xs:List (List Int)} {i k:Nat} (h:k < i) (hi:i ≤ xs.length) (e:nth xs k = nth xs i):CfK xs i (k + 1) (nth (Qy xs i) k):=.inr ⟨(namedK_rng hi h).1,k,h,e,rfl⟩
theorem CfK.miss {xs:List (List Int)} {i k:Nat} {c:Int} (h:CfK xs i k c) (hc:c < 0) (e:¬ nth xs k = nth xs i):CfK xs i (k + 1) c:=by
  rcases h with ⟨rfl,h⟩ | ⟨h,_⟩
  · refine .inl ⟨rfl,fun j hj=>?_⟩
    by_cases q:j = k
    · subst q;exact e
    · exact h j (by omega)
  · omega
theorem CfK.new {xs:List (List Int)} {i:Nat} {c:Int} (h:CfK xs i i c) (hc:c < 0) (hi:i < xs.length):Qy xs (i + 1) = Qy xs i ++ [((distK (xs.take i)).length:Int)] ∧ (distK (xs.take (i + 1))).length = (distK (xs.take i)).length + 1:=by
  rcases h with ⟨rfl,h⟩ | ⟨h,_⟩
  · obtain ⟨h1,h2⟩:=namedK_new hi h
    exact ⟨h1,by rw [h2];simp⟩
  · omega
theorem CfK.old {xs:List (List Int)} {i k:Nat} {c:Int} (h:CfK xs i k c) (hc:¬ c < 0) (hi:i < xs.length):Qy xs (i + 1) = Qy xs i ++ [c] ∧ (distK (xs.take (i + 1))).length = (distK (xs.take i)).length:=by
  rcases h with ⟨rfl,h⟩ | ⟨_,j,h1,h2,h3⟩
  · omega
  · obtain ⟨g1,g2⟩:=namedK_old hi h1 h2
    exact ⟨by rw [g1,h3],by rw [g2]⟩
def numK (ks:List (List Int)):List Int:=Qy ks ks.length
theorem numK_len (ks:List (List Int)):(numK ks).length = ks.length:=Za (Nat.le_refl _)
def insS (n:Int) (s:List Int × Bool) (x:Int):List Int × Bool:=if n < x ∧ s.2 = false then (s.1 ++ [n] ++ [x],true) else (s.1 ++ [x],s.2)
def insF (l:List Int) (n:Int) (i:Nat):List Int × Bool:=(l.take i).foldl (insS n) ([],false)
theorem insF_zero (l:List Int) (n:Int):insF l n 0 = ([],false):=rfl
theorem insF_succ {l:List Int} {i:Nat} (h:i < l.length) (n:Int):insF l n (i + 1) = insS n (insF l n i) (nth l i):=by
  unfold insF;rw [List.take_succ_eq_append_getElem h,← Qw h,List.foldl_append];rfl
theorem insF_yes {l:List Int} {i:Nat} {n:Int} (h:i < l.length) (h1:n < nth l i) (h2:(insF l n i).2 = false):insF l n (i + 1) = ((insF l n i).1 ++ [n] ++ [nth l i],true):=by rw [insF_succ h,insS,if_pos ⟨h1,h2⟩]
theorem insF_no {l:List Int} {i:Nat} {n:Int} (h:i < l.length) (h1:n < nth l i → ¬ (insF l n i).2 = false):insF l n (i + 1) = ((insF l n i).1 ++ [nth l i],(insF l n i).2):=by rw [insF_succ h,insS,if_neg (fun q=>h1 q.1 q.2)]
theorem insF_no2 {l:List Int} {i:Nat} {n:Int} (h:i < l.length) (h2:(insF l n i).2 = true):insF l n (i + 1) = ((insF l n i).1 ++ [nth l i],true):=by rw [insF_no h (fun _=>by rw [h2];simp),h2]
theorem insF_no3 {l:List Int} {i:Nat} {n:Int} (h:i < l.length) (h1:nth l i ≤ n):insF l n (i + 1) = ((insF l n i).1 ++ [nth l i],(insF l n i).2):=insF_no h (fun q=>absurd q (by omega))
theorem insF_len (l:List Int) (n:Int):∀ i,i ≤ l.length → (insF l n i).1.length = i + if (insF l n i).2 then 1 else 0
  | 0,_=>rfl
  | i + 1,h=>by
    have ih:=insF_len l n i (by omega)
    rw [insF_succ (by omega),insS]
    split
    · rename_i q;rw [q.2] at ih;simp at ih ⊢;omega
    · simp only [List.length_append,List.length_cons,List.length_nil];omega
theorem insF_le {l:List Int} {n:Int} {i:Nat} (h:i ≤ l.length):(insF l n i).1.length ≤ i + 1:=by have:=insF_len l n i h;split at this <;> omega
def srtE (l:List Int) (n:Int):List Int:=if n ∈ l then l else if (insF l n l.length).2 = true then (insF l n l.length).1 else (insF l n l.length).1 ++ [n]
theorem srtE_len (l:List Int) (n:Int):(srtE l n).length ≤ l.length + 1:=by
  unfold srtE
  split
  · omega
  · have:=insF_len l n l.length (Nat.le_refl _)
    split
    · rename_i q;rw [q] at this;simp at this;omega
    · rename_i q;simp only [Bool.not_eq_true] at q;rw [q] at this;simp at this ⊢;omega
theorem srtE_mem {l:List Int} {n:Int} {i:Nat} (h:i < l.length) (e:nth l i = n):srtE l n = l:=by rw [srtE,if_pos (by rw [Zj];exact ⟨i,h,e⟩)]
theorem srtE_no {l:List Int} {n:Int} (h:NoneTill (fun k=>decide (nth l k = n)) l.length):srtE l n = if (insF l n l.length).2 = true then (insF l n l.length).1 else (insF l n l.length).1 ++ [n]:=by
  rw [srtE,if_neg]
  rw [Zj]
  rintro ⟨i,h1,h2⟩
  have:=h i h1
  simp at this
  exact this h2
theorem srtE_y {l:List Int} {n:Int} (h:NoneTill (fun k=>decide (nth l k = n)) l.length) (hd:(insF l n l.length).2 = true):srtE l n = (insF l n l.length).1:=by rw [srtE_no h,if_pos hd]
theorem srtE_n {l:List Int} {n:Int} (h:NoneTill (fun k=>decide (nth l k = n)) l.length) (hd:(insF l n l.length).2 = false):srtE l n = (insF l n l.length).1 ++ [n]:=by rw [srtE_no h,if_neg (by rw [hd];simp)]
def aftF (bl row:List Int) (k:Nat):List Int:=(row.take k).foldl (fun s x=>srtE s (nth bl x.toNat)) []
def aftE (bl row:List Int):List Int:=aftF bl row row.length
theorem aftF_zero (bl row:List Int):aftF bl row 0 = []:=rfl
theorem zafh {bl row:List Int} {k:Nat} (h:k < row.length):aftF bl row (k + 1) = srtE (aftF bl row k) (nth bl (nth row k).toNat):=by
  unfold aftF;rw [List.take_succ_eq_append_getElem h,← Qw h,List.foldl_append];rfl
theorem aftF_len (bl row:List Int):∀ k,k ≤ row.length → (aftF bl row k).length ≤ k
  | 0,_=>by simp [aftF]
  | k + 1,h=>by
    rw [zafh (by omega)]
    have:=srtE_len (aftF bl row k) (nth bl (nth row k).toNat)
    have:=aftF_len bl row k (by omega)
    omega
def keyF (nx:List (List Int)) (bl:List Int) (k:Nat):List (List Int):=(List.range k).map fun i=>nth bl i :: aftE bl (nth nx i)
theorem keyF_succ (nx:List (List Int)) (bl:List Int) (k:Nat):keyF nx bl (k + 1) = keyF nx bl k ++ [nth bl k :: aftE bl (nth nx k)]:=by simp [keyF,List.range_succ]
theorem keyF_len (nx:List (List Int)) (bl:List Int) (k:Nat):(keyF nx bl k).length = k:=by simp [keyF]
def RefOk (b:List (List Int)) (n:Nat):Prop:=b.length = n ∧ ∀ j,j < n → (nth b j).length ≤ 1048576 ∧ ∀ k,k < (nth b j).length → 0 ≤ nth (nth b j) k ∧ nth (nth b j) k < n
def refE (nx:List (List Int)) (bl:List Int):List Int:=numK (keyF nx bl bl.length)
theorem refE_len (nx:List (List Int)) (bl:List Int):(refE nx bl).length = bl.length:=by rw [refE,numK_len,keyF_len]

end Go.Proofs.Ytmiimodggpjkmaa.Vm

