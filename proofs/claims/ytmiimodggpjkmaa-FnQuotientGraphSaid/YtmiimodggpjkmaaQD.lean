/-
  A quotient is a valid graph; the first of each block. Plain; no conditions.
-/
import Derived.Test.YtmiimodggpjkmaaQB
namespace Go.Proofs.Ytmiimodggpjkmaa.Vm
open Go
set_option linter.unusedVariables false
set_option linter.unusedSimpArgs false
set_option maxRecDepth 200000

theorem fsN_pre (p:List Int) (i:Nat):∀ d,(fsN p (i + d)).take (fsN p i).length = fsN p i ∧ (fsN p i).length ≤ (fsN p (i + d)).length
  | 0=>⟨List.take_length,Nat.le_refl _⟩
  | d + 1=>by
    obtain ⟨h1,h2⟩:=fsN_pre p i d
    by_cases h:nth p (i + d) = ((fsN p (i + d)).length:Int)
    · rw [← Nat.add_assoc,zapn h]
      refine ⟨?_,by simp;omega⟩
      rw [List.take_append_of_le_length h2,h1]
    · rw [← Nat.add_assoc,fsN_no h];exact ⟨h1,h2⟩
theorem fsN_nth {p:List Int} {i n:Nat} (h:nth p i = ((fsN p i).length:Int)) (hin:i < n):(fsN p i).length < (fsN p n).length ∧ nth (fsN p n) (fsN p i).length = (i:Int):=by
  obtain ⟨d,rfl⟩:∃ d,n = i + 1 + d:=⟨n - (i + 1),by omega⟩
  obtain ⟨h1,h2⟩:=fsN_pre p (i + 1) d
  have e:=zapn h
  have hl:(fsN p (i + 1)).length = (fsN p i).length + 1:=by rw [e];simp
  refine ⟨by omega,?_⟩
  rw [← Jo (k:=(fsN p (i + 1)).length) (by omega),h1,e]
  simp [nth]
theorem nthqS2 {a:List Ints2} {p:List Int} {n k:Nat} (h:k < (fsN p n).length):nth (qS a p n) k = nth a (nth (fsN p n) k).toNat:=by
  rw [Qv (by rw [Vw];exact h),Qv h];simp [qS]
theorem nthqN2 {b:List (List Int)} {p:List Int} {n k:Nat} (h:k < (fsN p n).length):nth (qN b p n) k = qR b p (nth (fsN p n) k):=by
  rw [Qv (by rw [qN_len];exact h),Qv h];simp [qN]
theorem qS_first {a:List Ints2} {p:List Int} {i n:Nat} (h:nth p i = ((fsN p i).length:Int)) (hin:i < n):(fsN p i).length < (qS a p n).length ∧ nth (qS a p n) (fsN p i).length = nth a i:=by
  obtain ⟨h1,h2⟩:=fsN_nth h hin
  exact ⟨by rw [Vw];exact h1,by rw [nthqS2 h1,h2];rfl⟩
theorem ddN_pos (xs:List Int) {m:Nat} (h:1 ≤ m):1 ≤ (ddN xs m).length:=by
  induction m with
  | zero=>omega
  | succ m ih =>
    by_cases c:nth xs m ∈ ddN xs m
    · rw [ddN_in c];exact List.length_pos_of_mem c
    · rw [ddN_new c];simp
theorem Dist.snoc {xs:List Int} {n x:Int} (h:Dist xs n) (h0:0 ≤ x) (h1:x ≤ n - 1) (hn:¬ x ∈ xs):Dist (xs ++ [x]) n:=fun i hi=>by
  rw [List.length_append,List.length_singleton] at hi
  rcases Nat.lt_or_ge i xs.length with q | q
  · obtain ⟨a1,a2,a3⟩:=h i q
    have e:nth (xs ++ [x]) i = nth xs i:=by simp [nth,List.getD_eq_getElem?_getD,List.getElem?_append_left q]
    rw [e,List.take_append_of_le_length (by omega)]
    exact ⟨a1,a2,a3⟩
  · obtain rfl:i = xs.length:=by omega
    have e:nth (xs ++ [x]) xs.length = x:=by simp [nth]
    rw [e,List.take_left']
    · exact ⟨h0,h1,hn⟩
    · rfl
theorem ddN_dist {xs:List Int} {n:Int}:∀ m,(∀ k,k < m → 0 ≤ nth xs k ∧ nth xs k ≤ n - 1) → Dist (ddN xs m) n
  | 0,_=>fun i hi=>by simp [ddN] at hi
  | m + 1,h=>by
    have ih:=ddN_dist m fun k hk=>h k (by omega)
    by_cases c:nth xs m ∈ ddN xs m
    · rw [ddN_in c];exact ih
    · rw [ddN_new c];exact ih.snoc (h m (by omega)).1 (h m (by omega)).2 c
theorem QgOk.graph {a:List Ints2} {b:List (List Int)} {p:List Int} (h:QgOk a b p):GraphOk (qS a p p.length) (qN b p p.length):=by
  have hrow:=fun i (hi:i < p.length)=>h.row hi
  obtain ⟨⟨g1,g2,g3,g4,g5⟩,hP,e⟩:=h
  have hle:=fsN_le p p.length
  have hpl:∀ k,k < (fsN p p.length).length → 0 ≤ nth (fsN p p.length) k ∧ nth (fsN p p.length) k < p.length:=fsN_places rfl
  have h0:nth p 0 = ((fsN p 0).length:Int):=by
    have:=hP 0 (by omega)
    simp only [most] at this
    show nth p 0 = 0
    omega
  have hpos:=(fsN_nth (n:=p.length) h0 (by omega)).1
  refine ⟨by rw [Vw];omega,by rw [Vw];omega,by rw [qN_len,Vw],fun i hi=>?_,fun i hi=>?_⟩
  · rw [Vw] at hi
    rw [nthqS2 hi]
    have:=hpl i hi
    exact g4 _ (by omega)
  · rw [qN_len] at hi
    rw [nthqN2 hi,Vw]
    have hx:=hpl i hi
    have hxl:(nth (fsN p p.length) i).toNat < p.length:=by omega
    have hr:=g5 (nth (fsN p p.length) i).toNat (by omega)
    unfold qR
    refine ⟨ddN_pos _ hr.1,ddN_dist _ fun k hk=>?_⟩
    rw [nth_pickL hk]
    have hy:=(hrow _ hxl).1 k hk
    have hz:(nth (nth b (nth (fsN p p.length) i).toNat) k).toNat < p.length:=by omega
    have h1:=(hP _ hz).1
    have h2:=part_lt hP hz (Nat.le_refl _)
    have h3:=fsN_len p p.length
    omega

end Go.Proofs.Ytmiimodggpjkmaa.Vm

