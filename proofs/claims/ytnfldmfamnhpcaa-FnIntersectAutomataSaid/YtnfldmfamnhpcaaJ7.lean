/-
  spec.l4Components, cycles and what is reached: plain. No conditions.
-/
import Derived.Test.YtnfldmfamnhpcaaJ5
namespace Go.Proofs.Ytnfldmfamnhpcaa.Vm
open Go
set_option linter.unusedVariables false
set_option linter.unusedSimpArgs false
set_option maxRecDepth 200000

def Cf (xs:List Int) (i k:Nat) (c:Int):Prop:=(c = -1 ∧ ∀ j,j < k → ¬ nth xs j = nth xs i) ∨ (0 ≤ c ∧ ∃ j,j < i ∧ nth xs j = nth xs i ∧ c = nth (named xs i) j)
theorem Cf.zero (xs:List Int) (i:Nat):Cf xs i 0 (-1):=.inl ⟨rfl,fun j hj=>by omega⟩
theorem Cf.new {xs:List Int} {i:Nat} {c:Int} (h:Cf xs i i c) (hc:c < 0) (hi:i < xs.length):named xs (i + 1) = named xs i ++ [((dist (xs.take i)).length:Int)] ∧ (dist (xs.take (i + 1))).length = (dist (xs.take i)).length + 1:=by
  rcases h with ⟨rfl,h⟩ | ⟨h,_⟩
  · obtain ⟨h1,h2⟩:=named_new hi h
    exact ⟨h1,by rw [h2];simp⟩
  · omega
theorem Cf.old {xs:List Int} {i k:Nat} {c:Int} (h:Cf xs i k c) (hc:¬ c < 0) (hi:i < xs.length):named xs (i + 1) = named xs i ++ [c] ∧ (dist (xs.take (i + 1))).length = (dist (xs.take i)).length:=by
  rcases h with ⟨rfl,h⟩ | ⟨_,j,h1,h2,h3⟩
  · omega
  · obtain ⟨g1,g2⟩:=named_old hi h1 h2
    exact ⟨by rw [g1,h3],by rw [g2]⟩
def Cyc (nx:List (List Int)) (x:Int):Prop:=∃ y,y ∈ nth nx x.toNat ∧ Rch nx y x
noncomputable def cycL (nx:List (List Int)):List Bool:=(List.range nx.length).map fun i:Nat=>Vm.B (Cyc nx (i:Int))
theorem cycL_len (nx:List (List Int)):(cycL nx).length = nx.length:=by simp [cycL]
theorem nth_cycL {nx:List (List Int)} {i:Nat} (h:i < nx.length):nth (cycL nx) i = Vm.B (Cyc nx (i:Int)):=by
  rw [Qy (by rw [cycL_len];exact h)];simp [cycL]
theorem Rch.cases' {nx:List (List Int)} {x y:Int} (h:Rch nx x y):x = y ∨ ∃ z,z ∈ nth nx x.toNat ∧ Rch nx z y:=by
  cases h with
  | refl=>exact .inl rfl
  | step e k=>exact .inr ⟨_,e,k⟩
def SameN (nx my:List (List Int)):Prop:=nx.length = my.length ∧ ∀ i,i < nx.length → ∀ y,y ∈ nth nx i ↔ y ∈ nth my i
theorem SameN.symm {nx my:List (List Int)} (h:SameN nx my):SameN my nx:=⟨h.1.symm,fun i hi y=>(h.2 i (by rw [h.1];exact hi) y).symm⟩
theorem idxOf_inj' {l:List Int} {x y:Int} (hx:x ∈ l) (hy:y ∈ l) (e:l.idxOf x = l.idxOf y):x = y:=by
  have h1:=List.idxOf_lt_length_of_mem hx
  have h2:=List.idxOf_lt_length_of_mem hy
  rw [← List.getElem_idxOf h1,← List.getElem_idxOf h2]
  congr 1
theorem named_same {xs:List Int} {k i j:Nat} (h:k ≤ xs.length) (hi:i < k) (hj:j < k):nth (named xs k) i = nth (named xs k) j ↔ nth xs i = nth xs j:=by
  have hm:∀ i,i < k → nth xs i ∈ dist (xs.take k):=fun i hi=>by
    rw [zahx xs k h,Ww]
    exact ⟨i,by simp;omega,by rw [Vq hi]⟩
  rw [zajq h hi,zajq h hj]
  constructor
  · intro e
    exact idxOf_inj' (hm i hi) (hm j hj) (by omega)
  · intro e;rw [e]
theorem zaol {nx:List (List Int)} (hx:Xp nx) {i j:Nat} (hi:i < nx.length) (hj:j < nx.length):nth (Zc nx) i = nth (Zc nx) j ↔ Rch nx (i:Int) (j:Int) ∧ Rch nx (j:Int) (i:Int):=by
  unfold Zc
  rw [named_same (by rw [part_len hx];exact Nat.le_refl _) hi hj]
  have:=(parts_ok hx (x:=(i:Int)) (y:=(j:Int)) ⟨by omega,by omega⟩ ⟨by omega,by omega⟩).2
  simpa only [gt,Int.toNat_natCast] using this
theorem compsL_rng {nx:List (List Int)} (hx:Xp nx) {i:Nat} (hi:i < nx.length):0 ≤ nth (Zc nx) i ∧ nth (Zc nx) i < nx.length:=named_rng (by rw [part_len hx];exact Nat.le_refl _) hi
def cnts (ps:List Int) (n k:Nat):List Int:=(List.range n).map fun p:Nat=>(((ps.take k).filter (fun x=>decide (x = (p:Int)))).length:Int)
theorem zaiq (ps:List Int) (n k:Nat):(cnts ps n k).length = n:=by simp [cnts]
theorem cnts_zero (ps:List Int) (n:Nat):cnts ps n 0 = List.replicate n 0:=by
  apply List.ext_getElem (by simp [cnts])
  intro i h1 h2
  simp [cnts]
theorem zakx {ps:List Int} {n k p:Nat} (h:p < n):nth (cnts ps n k) p = (((ps.take k).filter (fun x=>decide (x = (p:Int)))).length:Int):=by
  rw [Qy (by rw [zaiq];exact h)];simp [cnts]
theorem cnts_le {ps:List Int} {n k p:Nat} (h:p < n):0 ≤ nth (cnts ps n k) p ∧ nth (cnts ps n k) p ≤ ps.length:=by
  rw [zakx h]
  have:=List.length_filter_le (fun x=>decide (x = (p:Int))) (ps.take k)
  rw [List.length_take] at this
  omega
theorem cnts_succ {ps:List Int} {n k:Nat} (h:k < ps.length) (h0:0 ≤ nth ps k) (h1:nth ps k < n):(cnts ps n k).set (nth ps k).toNat (nth (cnts ps n k) (nth ps k).toNat + 1) = cnts ps n (k + 1):=by
  apply List.ext_getElem (by simp [cnts])
  intro i h2 h3
  rw [zaiq] at h3
  rw [← Qy h2,← Qy (by rw [zaiq];exact h3),zakx h3,List.take_succ_eq_append_getElem h,← Qy h,List.filter_append,List.length_append]
  by_cases e:(nth ps k).toNat = i
  · subst e
    rw [Wf (by rw [zaiq];exact h3),zakx h3]
    have:nth ps k = ((nth ps k).toNat:Int):=by omega
    rw [List.filter_cons,if_pos (by simpa using this)];simp
  · rw [Wi e,zakx h3]
    have:¬ nth ps k = (i:Int):=by omega
    rw [List.filter_cons,if_neg (by simpa using this)];simp
theorem many_iff {ps:List Int} {i:Nat} (h:i < ps.length):1 < (ps.filter (fun x=>decide (x = nth ps i))).length ↔ ∃ j,j < ps.length ∧ ¬ j = i ∧ nth ps j = nth ps i:=by
  have e:ps = ps.take i ++ nth ps i :: ps.drop (i + 1):=by
    rw [Qy h]
    have:=List.take_append_drop i ps
    rw [List.drop_eq_getElem_cons h] at this
    exact this.symm
  have e2:(ps.filter (fun x=>decide (x = nth ps i))).length = ((ps.take i).filter (fun x=>decide (x = nth ps i))).length + 1 + ((ps.drop (i + 1)).filter (fun x=>decide (x = nth ps i))).length:=by
    conv=>lhs;rw [show List.filter (fun x=>decide (x = nth ps i)) ps = List.filter (fun x=>decide (x = nth ps i)) (ps.take i ++ nth ps i :: ps.drop (i + 1)) from congrArg _ e]
    rw [List.filter_append,List.filter_cons,if_pos (by simp),List.length_append,List.length_cons];omega
  rw [e2]
  constructor
  · intro q
    rcases Nat.eq_zero_or_pos ((ps.take i).filter (fun x=>decide (x = nth ps i))).length with z | z
    · have z2:0 < ((ps.drop (i + 1)).filter (fun x=>decide (x = nth ps i))).length:=by omega
      obtain ⟨x,hx⟩:=List.exists_mem_of_length_pos z2
      rw [List.mem_filter] at hx
      obtain ⟨j,hj,e3⟩:=List.getElem_of_mem hx.1
      simp only [List.length_drop] at hj
      refine ⟨i + 1 + j,by omega,by omega,?_⟩
      rw [Qy (show i + 1 + j < ps.length by omega)]
      rw [List.getElem_drop] at e3
      rw [e3];simpa using hx.2
    · obtain ⟨x,hx⟩:=List.exists_mem_of_length_pos z
      rw [List.mem_filter] at hx
      obtain ⟨j,hj,e3⟩:=List.getElem_of_mem hx.1
      simp only [List.length_take] at hj
      refine ⟨j,by omega,by omega,?_⟩
      rw [Qy (show j < ps.length by omega)]
      rw [List.getElem_take] at e3
      rw [e3];simpa using hx.2
  · rintro ⟨j,j1,j2,j3⟩
    rcases Nat.lt_or_ge j i with q | q
    · have:nth ps j ∈ (ps.take i).filter (fun x=>decide (x = nth ps i)):=by
        rw [List.mem_filter]
        refine ⟨?_,by simpa using j3⟩
        rw [List.mem_take_iff_getElem]
        exact ⟨j,by omega,by rw [Qy j1]⟩
      have:=List.length_pos_of_mem this
      omega
    · have:nth ps j ∈ (ps.drop (i + 1)).filter (fun x=>decide (x = nth ps i)):=by
        rw [List.mem_filter]
        refine ⟨?_,by simpa using j3⟩
        rw [List.mem_drop_iff_getElem]
        exact ⟨j - (i + 1),by omega,by rw [Qy j1];congr 1;omega⟩
      have:=List.length_pos_of_mem this
      omega
theorem cyc_iff {nx:List (List Int)} (hx:Xp nx) {i:Nat} (hi:i < nx.length):(1 < nth (cnts (Zc nx) nx.length nx.length) (nth (Zc nx) i).toNat ∨ (i:Int) ∈ nth nx i) ↔ Cyc nx (i:Int):=by
  have hr:=compsL_rng hx hi
  have hl:=zami hx
  have hnd:Nd nx (i:Int):=⟨by omega,by omega⟩
  have e:nth (cnts (Zc nx) nx.length nx.length) (nth (Zc nx) i).toNat = (((Zc nx).filter (fun x=>decide (x = nth (Zc nx) i))).length:Int):=by
    rw [zakx (by omega)]
    rw [List.take_of_length_le (by omega),Int.toNat_of_nonneg hr.1]
  rw [e]
  have hm:=many_iff (ps:=Zc nx) (i:=i) (by omega)
  constructor
  · rintro (q | q)
    · obtain ⟨j,j1,j2,j3⟩:=hm.1 (by omega)
      rw [hl] at j1
      obtain ⟨r1,r2⟩:=(zaol hx j1 hi).1 j3
      rcases r2.cases' with z | ⟨z,z1,z2⟩
      · omega
      · exact ⟨z,z1,z2.trans r1⟩
    · exact ⟨(i:Int),by simpa using q,.refl _⟩
  · rintro ⟨y,y1,y2⟩
    by_cases q:y = (i:Int)
    · subst q;right;simpa using y1
    · left
      have hy:=Jg hx hnd y1
      have hyl:y.toNat < nx.length:=by have:=hy.1;have:=hy.2;omega
      have:1 < ((Zc nx).filter (fun x=>decide (x = nth (Zc nx) i))).length:=hm.2 ⟨y.toNat,by omega,(fun e=>q (by have:=hy.1;omega)),(zaol hx hyl hi).2 (by rw [Int.toNat_of_nonneg hy.1];exact ⟨y2,.edge y1⟩)⟩
      omega

def RchS (nx:List (List Int)) (ss:List Int) (x:Int):Prop:=∃ s,s ∈ ss ∧ Rch nx s x
noncomputable def rchL (nx:List (List Int)) (ss:List Int):List Bool:=(List.range nx.length).map fun i:Nat=>Vm.B (RchS nx ss (i:Int))
theorem zahs (nx:List (List Int)) (ss:List Int):(rchL nx ss).length = nx.length:=by simp [rchL]
theorem nth_rchL {nx:List (List Int)} {ss:List Int} {i:Nat} (h:i < nx.length):nth (rchL nx ss) i = Vm.B (RchS nx ss (i:Int)):=by
  rw [Qy (by rw [zahs];exact h)];simp [rchL]
def mkd (m:List Bool) (x:Int):Prop:=nth m x.toNat = true
def un (m:List Bool):Nat:=(m.filter (fun x=>!x)).length
theorem un_set:∀ {m:List Bool} {k:Nat},k < m.length → nth m k = false → un (m.set k true) + 1 = un m
  | [],k,h,_=>by simp at h
  | x :: P,0,h,hx=>by
    have:x = false:=hx
    subst this
    simp [un]
  | x :: P,k + 1,h,hx=>by
    have ih:=un_set (m:=P) (k:=k) (by simpa using h) hx
    unfold un at ih ⊢
    rw [List.set_cons_succ,List.filter_cons,List.filter_cons]
    split <;> (try simp only [List.length_cons]) <;> omega
theorem un_le (m:List Bool):un m ≤ m.length:=List.length_filter_le ..
theorem mk_set {nx:List (List Int)} {m:List Bool} {x y:Int} (hl:m.length = nx.length) (hx:Nd nx x) (hy:Nd nx y):mkd (m.set x.toNat true) y ↔ x = y ∨ mkd m y:=by
  obtain ⟨h1,h2⟩:=hx
  obtain ⟨h3,h4⟩:=hy
  unfold mkd
  by_cases e:x.toNat = y.toNat
  · have:x = y:=by omega
    subst this
    rw [Wf (by omega)];simp
  · rw [Wi e]
    have:¬ x = y:=fun q=>e (by rw [q])
    simp [this]
end Go.Proofs.Ytnfldmfamnhpcaa.Vm

