/-
  Refining, plain: sorted and compacted lists, groups, what a refinement keeps. No conditions.
-/
import Derived.Test.YtmiimodggpjkmaaGreatRD
import Derived.Test.YtmiimodggpjkmaaGreatQ1
import Derived.Test.YtmiimodggpjkmaaGreatB1
import Derived.Lib.SlicesCompact
namespace Go.Proofs.YtmiimodggpjkmaaGreat.Vm
open Go
open List renaming replicate → zrP
set_option linter.unusedVariables false
set_option linter.unusedSimpArgs false
set_option maxRecDepth 200000

theorem asc_ext:∀ {l1 l2:List Int},l1.Pairwise (· < ·) → l2.Pairwise (· < ·) → (∀ x,x ∈ l1 ↔ x ∈ l2) → l1 = l2
  | [],[],_,_,_=>rfl
  | [],y :: l2,_,_,h=>by have:=(h y).2 (by simp);cases this
  | x :: l1,[],_,_,h=>by have:=(h x).1 (by simp);cases this
  | x :: l1,y :: l2,h1,h2,h=>by
    rw [List.pairwise_cons] at h1 h2
    have e:x = y:=by
      have q1:x ∈ y :: l2:=(h x).1 (by simp)
      have q2:y ∈ x :: l1:=(h y).2 (by simp)
      rcases List.mem_cons.1 q1 with q1 | q1
      · exact q1
      · rcases List.mem_cons.1 q2 with q2 | q2
        · exact q2.symm
        · have:=h2.1 x q1;have:=h1.1 y q2;omega
    subst e
    rw [asc_ext h1.2 h2.2 fun z=>?_]
    have hz:=h z
    simp only [List.mem_cons] at hz
    constructor
    · intro q
      rcases hz.1 (.inr q) with r | r
      · subst r;have:=h1.1 z q;omega
      · exact r
    · intro q
      rcases hz.2 (.inr q) with r | r
      · subst r;have:=h2.1 z q;omega
      · exact r
def insL (n:Int):List Int → List Int
  | []=>[n]
  | x :: xs=>if n < x then n :: x :: xs else x :: insL n xs
def finS (n:Int) (s:List Int × Bool):List Int:=if s.2 = true then s.1 else s.1 ++ [n]
theorem insS_true (n:Int):∀ (l acc:List Int),l.foldl (insS n) (acc,true) = (acc ++ l,true)
  | [],acc=>by simp
  | x :: l,acc=>by simp [List.foldl_cons,insS,insS_true n l]
theorem finS_fold (n:Int):∀ (l acc:List Int),finS n (l.foldl (insS n) (acc,false)) = acc ++ insL n l
  | [],acc=>by simp [finS,insL]
  | x :: l,acc=>by
    rw [List.foldl_cons,insL]
    by_cases h:n < x
    · simp only [insS,h,and_self,if_true,insS_true,finS];simp
    · simp only [insS,h,false_and,if_false,finS_fold n l];simp
theorem insL_mem (n:Int):∀ (l:List Int) (x:Int),x ∈ insL n l ↔ x = n ∨ x ∈ l
  | [],x=>by simp [insL]
  | y :: l,x=>by
    rw [insL]
    split
    · simp
    · simp only [List.mem_cons,insL_mem n l]
      constructor
      · rintro (h | h | h)
        · exact .inr (.inl h)
        · exact .inl h
        · exact .inr (.inr h)
      · rintro (h | h | h)
        · exact .inr (.inl h)
        · exact .inl h
        · exact .inr (.inr h)
theorem insL_asc (n:Int):∀ {l:List Int},l.Pairwise (· < ·) → ¬ n ∈ l → (insL n l).Pairwise (· < ·)
  | [],_,_=>by simp [insL]
  | y :: l,h,hn=>by
    rw [List.pairwise_cons] at h
    simp only [List.mem_cons,not_or] at hn
    rw [insL]
    split
    · rename_i c
      rw [List.pairwise_cons,List.pairwise_cons]
      refine ⟨fun z hz=>?_,h⟩
      rcases List.mem_cons.1 hz with e | e
      · rw [e];exact c
      · have:=h.1 z e;omega
    · rename_i c
      rw [List.pairwise_cons]
      refine ⟨fun z hz=>?_,insL_asc n h.2 hn.2⟩
      rcases (insL_mem n l z).1 hz with e | e
      · rw [e];have:=hn.1;omega
      · exact h.1 z e
theorem srtE_eq (l:List Int) (n:Int):srtE l n = if n ∈ l then l else insL n l:=by
  unfold srtE
  split
  · rfl
  · have h:=finS_fold n l []
    have e:insF l n l.length = l.foldl (insS n) ([],false):=by unfold insF;rw [List.take_length]
    rw [e]
    simpa [finS] using h
theorem srtE_asc {l:List Int} (h:l.Pairwise (· < ·)) (n:Int):(srtE l n).Pairwise (· < ·):=by
  rw [srtE_eq]
  split
  · exact h
  · exact insL_asc n h (by assumption)
theorem mem_srtE (l:List Int) (n x:Int):x ∈ srtE l n ↔ x = n ∨ x ∈ l:=by
  rw [srtE_eq]
  split
  · rename_i c
    constructor
    · exact .inr
    · rintro (e | e)
      · rw [e];exact c
      · exact e
  · exact insL_mem n l x
theorem aftF_asc (bl row:List Int):∀ k,k ≤ row.length → (aftF bl row k).Pairwise (· < ·)
  | 0,_=>by simp [aftF]
  | k + 1,h=>by rw [zake (by omega)];exact srtE_asc (aftF_asc bl row k (by omega)) _
theorem mem_aftF (bl row:List Int):∀ k,k ≤ row.length → ∀ x,x ∈ aftF bl row k ↔ ∃ j,j < k ∧ nth bl (nth row j).toNat = x
  | 0,_,x=>by simp [aftF]
  | k + 1,h,x=>by
    rw [zake (by omega),mem_srtE,mem_aftF bl row k (by omega)]
    constructor
    · rintro (e | ⟨j,hj,e⟩)
      · exact ⟨k,by omega,e.symm⟩
      · exact ⟨j,by omega,e⟩
    · rintro ⟨j,hj,e⟩
      by_cases q:j = k
      · subst q;exact .inl e.symm
      · exact .inr ⟨j,by omega,e⟩
theorem aftE_asc (bl row:List Int):(aftE bl row).Pairwise (· < ·):=aftF_asc bl row _ (Nat.le_refl _)
theorem zagl (bl row:List Int) (x:Int):x ∈ aftE bl row ↔ ∃ j,j < row.length ∧ nth bl (nth row j).toNat = x:=mem_aftF bl row _ (Nat.le_refl _) x
theorem cmp_ok (d:Array Int) (hs:∀ i j,i ≤ j → j < d.size → d[i]! ≤ d[j]!):∀ m,m ≤ d.size → (Lib.compactUpTo d m).Pairwise (· < ·) ∧ ∀ x,x ∈ Lib.compactUpTo d m ↔ ∃ j,j < m ∧ d[j]! = x
  | 0,_=>by simp [Lib.compactUpTo]
  | m + 1,h=>by
    obtain ⟨h1,h2⟩:=cmp_ok d hs m (by omega)
    rw [Lib.compactUpTo_succ]
    by_cases hk:Lib.keeps d m = true
    · rw [if_pos hk]
      have hk2:m = 0 ∨ d[m]! ≠ d[m - 1]!:=by simpa [Lib.keeps] using hk
      refine ⟨?_,fun x=>?_⟩
      · rw [List.pairwise_append]
        refine ⟨h1,by simp,fun a ha b hb=>?_⟩
        simp at hb;subst hb
        obtain ⟨j,hj,e⟩:=(h2 a).1 ha
        rcases hk2 with q | q
        · omega
        · have:=hs j (m - 1) (by omega) (by omega)
          have:=hs (m - 1) m (by omega) (by omega)
          omega
      · rw [List.mem_append,h2]
        constructor
        · rintro (⟨j,hj,e⟩ | e)
          · exact ⟨j,by omega,e⟩
          · simp at e;exact ⟨m,by omega,e.symm⟩
        · rintro ⟨j,hj,e⟩
          by_cases q:j = m
          · subst q;right;simp [e]
          · exact .inl ⟨j,by omega,e⟩
    · rw [if_neg hk,List.append_nil]
      have hk2:¬ (m = 0 ∨ d[m]! ≠ d[m - 1]!):=by simpa [Lib.keeps] using hk
      refine ⟨h1,fun x=>?_⟩
      rw [h2]
      constructor
      · rintro ⟨j,hj,e⟩;exact ⟨j,by omega,e⟩
      · rintro ⟨j,hj,e⟩
        by_cases q:j = m
        · subst q
          have q1:¬ j = 0:=fun z=>hk2 (.inl z)
          have q2:d[j]! = d[j - 1]!:=Classical.byContradiction fun z=>hk2 (.inr z)
          exact ⟨j - 1,by omega,by rw [← q2];exact e⟩
        · exact ⟨j,by omega,e⟩
def srtL (xs:List Int):List Int:=xs.mergeSort fun x y=>decide (x ≤ y)
theorem srtL_perm (xs:List Int):(srtL xs).Perm xs:=List.mergeSort_perm _ _
theorem srtL_len (xs:List Int):(srtL xs).length = xs.length:=(srtL_perm xs).length_eq
theorem srtL_asc (xs:List Int):(srtL xs).Pairwise (· ≤ ·):=by
  have h:=List.pairwise_mergeSort (le:=fun (x y:Int)=>decide (x ≤ y)) (fun a b c h1 h2=>by simp at *;omega) (fun a b=>by simp;omega) xs
  simpa [srtL] using h
def cmpE (xs:List Int):List Int:=Lib.compact (srtL xs)
theorem cmpE_spec (xs:List Int):(cmpE xs).Pairwise (· < ·) ∧ ∀ x,x ∈ cmpE xs ↔ x ∈ xs:=by
  have hs:∀ i j,i ≤ j → j < (srtL xs).toArray.size → (srtL xs).toArray[i]! ≤ (srtL xs).toArray[j]!:=by
    intro i j hij hj
    have hj':j < (srtL xs).length:=by simpa using hj
    have hi':i < (srtL xs).length:=by omega
    rw [getElem!_pos _ _ (by simpa using hi'),getElem!_pos _ _ (by simpa using hj')]
    by_cases e:i = j
    · subst e;exact Int.le_refl _
    · exact List.pairwise_iff_getElem.1 (srtL_asc xs) i j hi' hj' (by omega)
  obtain ⟨h1,h2⟩:=cmp_ok (srtL xs).toArray hs (srtL xs).length (by simp)
  refine ⟨h1,fun x=>?_⟩
  rw [← (srtL_perm xs).mem_iff]
  refine (h2 x).trans ?_
  constructor
  · rintro ⟨j,hj,e⟩
    rw [← e,getElem!_pos _ _ (by simpa using hj)]
    simp
  · intro h
    obtain ⟨j,hj,e⟩:=List.getElem_of_mem h
    exact ⟨j,hj,by rw [getElem!_pos _ _ (by simpa using hj)];simpa using e⟩
theorem cmpE_aft (bl row:List Int):cmpE (pickL bl row) = aftE bl row:=by
  obtain ⟨h1,h2⟩:=cmpE_spec (pickL bl row)
  refine asc_ext h1 (aftE_asc bl row) fun x=>?_
  rw [h2,zagl,pickL,List.mem_map]
  constructor
  · rintro ⟨y,hy,e⟩
    obtain ⟨j,hj,rfl⟩:=List.getElem_of_mem hy
    exact ⟨j,hj,by rw [Xa hj];exact e⟩
  · rintro ⟨j,hj,e⟩
    exact ⟨nth row j,Zk hj,e⟩
def setsF (nx:List (List Int)) (bl:List Int) (k:Nat):List (List Int):=(List.range k).map fun i=>aftE bl (nth nx i)
theorem setsF_len (nx:List (List Int)) (bl:List Int) (k:Nat):(setsF nx bl k).length = k:=by simp [setsF]
theorem setsF_nth {nx:List (List Int)} {bl:List Int} {k i:Nat} (h:i < k):nth (setsF nx bl k) i = aftE bl (nth nx i):=by
  rw [Xa (by rw [setsF_len];exact h)];simp [setsF]
def grpZ (ks:List (List Int)) (n i:Nat):List Int:=Qy ks i ++ zrP (n - i) 0
theorem grpZ_len {ks:List (List Int)} {n i:Nat} (h:i ≤ n) (hn:n ≤ ks.length):(grpZ ks n i).length = n:=by
  rw [grpZ,List.length_append,Zq (by omega)];simp;omega
theorem grpZ_set {ks:List (List Int)} {n i:Nat} (h:i < n) (hn:n ≤ ks.length) (c:Int):(grpZ ks n i).set i c = Qy ks i ++ c :: zrP (n - i - 1) 0:=by
  obtain ⟨m,e⟩:∃ m,n - i = m + 1:=⟨n - i - 1,by omega⟩
  rw [grpZ,e,List.replicate_succ,List.set_append_right _ _ (by rw [Zq (by omega)];exact Nat.le_refl _),Zq (by omega),Nat.sub_self,List.set_cons_zero]
  simp
theorem grpZ_zero (ks:List (List Int)) (n:Nat):grpZ ks n 0 = zrP n 0:=by simp [grpZ,Qy]
theorem grpZ_all {ks:List (List Int)}:grpZ ks ks.length ks.length = numK ks:=by simp [grpZ,numK]
def grpC (ks:List (List Int)) (n i:Nat) (c:Int):List Int:=Qy ks i ++ c :: zrP (n - i - 1) 0
theorem zamb {ks:List (List Int)} {n i:Nat} (h:i < n) (hn:n ≤ ks.length) (c:Int):(grpC ks n i c).length = n:=by
  rw [grpC,List.length_append,Zq (by omega)];simp;omega
theorem grpC_set {ks:List (List Int)} {n i:Nat} (h:i < n) (hn:n ≤ ks.length) (c d:Int):(grpC ks n i c).set i d = grpC ks n i d:=by
  rw [grpC,List.set_append_right _ _ (by rw [Zq (by omega)];exact Nat.le_refl _),Zq (by omega),Nat.sub_self,List.set_cons_zero,grpC]
theorem grpC_at {ks:List (List Int)} {n i:Nat} (h:i < n) (hn:n ≤ ks.length) (c:Int):nth (grpC ks n i c) i = c:=by
  have hl:=zamb h hn c
  have e:(grpC ks n i c)[i]? = some c:=by
    rw [grpC,List.getElem?_append_right (by rw [Zq (by omega)];exact Nat.le_refl _),Zq (by omega),Nat.sub_self];rfl
  rw [Xa (by omega)]
  rw [List.getElem?_eq_getElem (by omega)] at e
  exact Option.some.inj e
theorem grpC_lo {ks:List (List Int)} {n i k:Nat} (h:i < n) (hn:n ≤ ks.length) (hk:k < i) (c:Int):nth (grpC ks n i c) k = nth (Qy ks i) k:=by
  have hl:=zamb h hn c
  have hl2:=Zq (xs:=ks) (k:=i) (by omega)
  rw [Xa (by omega),Xa (by omega)]
  simp only [grpC]
  exact List.getElem_append_left (by omega)
theorem grpC_new {ks:List (List Int)} {n i:Nat} (h:i < n) (hn:n ≤ ks.length) (ht:NoneTill (fun j=>decide (nth ks i = nth ks j)) i):grpC ks n i ((distK (ks.take i)).length:Int) = grpZ ks n (i + 1) ∧ (distK (ks.take (i + 1))).length = (distK (ks.take i)).length + 1:=by
  obtain ⟨h1,h2⟩:=zaev (xs:=ks) (k:=i) (by omega) (fun j hj e=>by have:=ht j hj;simp [e] at this)
  refine ⟨?_,by rw [h2];simp⟩
  rw [grpC,grpZ,h1,List.append_assoc,show n - (i + 1) = n - i - 1 by omega];rfl
theorem grpC_old {ks:List (List Int)} {n i k:Nat} (h:i < n) (hn:n ≤ ks.length) (hk:k < i) (e:nth ks i = nth ks k):grpC ks n i (nth (Qy ks i) k) = grpZ ks n (i + 1) ∧ (distK (ks.take (i + 1))).length = (distK (ks.take i)).length ∧ ¬ nth (Qy ks i) k = ((distK (ks.take i)).length:Int):=by
  obtain ⟨h1,h2⟩:=zaeu (xs:=ks) (k:=i) (by omega) hk e.symm
  refine ⟨?_,by rw [h2],?_⟩
  · rw [grpC,grpZ,h1,List.append_assoc,show n - (i + 1) = n - i - 1 by omega];rfl
  · rw [Vj (by omega) hk]
    have hm:nth ks k ∈ distK (ks.take i):=by
      rw [Vn ks i (by omega),Zs]
      exact ⟨k,by simp;omega,by rw [Wr hk]⟩
    have:=List.idxOf_lt_length_of_mem hm
    omega
theorem zahk (ks:List (List Int)):∀ k,k ≤ ks.length → most (numK ks) k = ((distK (ks.take k)).length:Int)
  | 0,_=>by simp [most,distK]
  | k + 1,h=>by
    have ih:=zahk ks k (by omega)
    rw [most,ih]
    have hv:nth (numK ks) k = ((distK (ks.take ks.length)).idxOf (nth ks k):Int):=Vj (Nat.le_refl _) (by omega)
    -- the name does not depend on what comes later
    have hv2:nth (numK ks) k = nth (Qy ks (k + 1)) k:=by
      have key:∀ m,k + 1 ≤ m → m ≤ ks.length → nth (Qy ks m) k = nth (Qy ks (k + 1)) k:=by
        intro m
        induction m with
        | zero=>intro h1 _;omega
        | succ m ihm =>
          intro h1 h2
          by_cases e:m = k
          · subst e;rfl
          · rw [zaij (by omega)]
            have hl:=Zq (xs:=ks) (k:=m) (by omega)
            have e2:nth (Qy ks m ++ [((distK (ks.take (m + 1))).idxOf (nth ks m):Int)]) k = nth (Qy ks m) k:=by
              exact zalb (by omega)
            rw [e2]
            exact ihm (by omega) (by omega)
      exact key ks.length (by omega) (Nat.le_refl _)
    rw [hv2,Vj (by omega) (by omega)]
    by_cases hm:nth ks k ∈ distK (ks.take k)
    · have e:=Wk (xs:=ks) (k:=k) (by omega)
      rw [if_pos hm] at e
      rw [e]
      have:=List.idxOf_lt_length_of_mem hm
      rw [if_neg (by omega)]
    · have e:=Wk (xs:=ks) (k:=k) (by omega)
      rw [if_neg hm] at e
      rw [e,List.idxOf_append,if_neg hm]
      simp
theorem numK_part (ks:List (List Int)):Xt (numK ks):=by
  intro i hi
  rw [Up] at hi
  rw [zahk ks i (by omega)]
  have hv:nth (numK ks) i = ((distK (ks.take ks.length)).idxOf (nth ks i):Int):=Vj (Nat.le_refl _) hi
  refine ⟨by omega,?_⟩
  have h1:=zahk ks (i + 1) (by omega)
  have h2:=zahk ks i (by omega)
  rw [most,h2] at h1
  split at h1
  · rename_i c;omega
  · rename_i c
    -- the name is an old one
    have e:=Wk (xs:=ks) (k:=i) hi
    by_cases hm:nth ks i ∈ distK (ks.take i)
    · have pre:∀ m,i ≤ m → m ≤ ks.length → (distK (ks.take m)).idxOf (nth ks i) = (distK (ks.take i)).idxOf (nth ks i):=by
        intro m
        induction m with
        | zero => intro q1 _;have:i = 0:=by omega
                  subst this;rfl
        | succ m ihm =>
          intro q1 q2
          by_cases e3:i = m + 1
          · rw [← e3]
          · have ih2:=ihm (by omega) (by omega)
            rw [Wk (by omega)]
            split
            · exact ih2
            · rw [List.idxOf_append,if_pos]
              · exact ih2
              · have hml:=(Vn ks i (by omega) (nth ks i)).1 hm
                refine (Vn ks m (by omega) (nth ks i)).2 ?_
                rw [show ks.take i = (ks.take m).take i by rw [List.take_take,Nat.min_eq_left (by omega)]] at hml
                exact List.mem_of_mem_take hml
      rw [hv,pre ks.length (by omega) (Nat.le_refl _)]
      have:=List.idxOf_lt_length_of_mem hm
      omega
    · rw [if_neg hm] at e
      rw [e] at h1
      simp at h1
      omega
theorem refE_part (nx:List (List Int)) (bl:List Int):Xt (refE nx bl):=numK_part _
theorem refE_iff {nx:List (List Int)} {bl:List Int} {i k:Nat} (hi:i < bl.length) (hk:k < bl.length):nth (refE nx bl) i = nth (refE nx bl) k ↔ nth bl i = nth bl k ∧ aftE bl (nth nx i) = aftE bl (nth nx k):=by
  have hl:=zagu nx bl bl.length
  have e1:=keyF_nth (nx:=nx) (bl:=bl) hi
  have e2:=keyF_nth (nx:=nx) (bl:=bl) hk
  constructor
  · intro h
    have:=numK_ker (K:=keyF nx bl bl.length) (by rw [hl];exact hi) (by rw [hl];exact hk) h
    rw [e1,e2] at this
    exact ⟨(List.cons.inj this).1,(List.cons.inj this).2⟩
  · rintro ⟨h1,h2⟩
    unfold refE numK
    rw [Vj (Nat.le_refl _) (by rw [hl];exact hi),Vj (Nat.le_refl _) (by rw [hl];exact hk),e1,e2,h1,h2]
def CovP (bl r1 r2:List Int):Prop:=∀ k,k < r1.length → ∃ m,m < r2.length ∧ nth bl (nth r1 k).toNat = nth bl (nth r2 m).toNat
theorem cov_iff (bl r1 r2:List Int):aftE bl r1 = aftE bl r2 ↔ CovP bl r1 r2 ∧ CovP bl r2 r1:=by
  constructor
  · intro h
    refine ⟨fun k hk=>?_,fun k hk=>?_⟩
    · have:=(zagl bl r2 (nth bl (nth r1 k).toNat)).1 (by rw [← h];exact (zagl ..).2 ⟨k,hk,rfl⟩)
      obtain ⟨m,hm,e⟩:=this
      exact ⟨m,hm,e.symm⟩
    · have:=(zagl bl r1 (nth bl (nth r2 k).toNat)).1 (by rw [h];exact (zagl ..).2 ⟨k,hk,rfl⟩)
      obtain ⟨m,hm,e⟩:=this
      exact ⟨m,hm,e.symm⟩
  · rintro ⟨h1,h2⟩
    refine asc_ext (aftE_asc ..) (aftE_asc ..) fun x=>?_
    rw [zagl,zagl]
    constructor
    · rintro ⟨k,hk,e⟩
      obtain ⟨m,hm,e2⟩:=h1 k hk
      exact ⟨m,hm,by rw [← e2];exact e⟩
    · rintro ⟨k,hk,e⟩
      obtain ⟨m,hm,e2⟩:=h2 k hk
      exact ⟨m,hm,by rw [← e2];exact e⟩
end Go.Proofs.YtmiimodggpjkmaaGreat.Vm

