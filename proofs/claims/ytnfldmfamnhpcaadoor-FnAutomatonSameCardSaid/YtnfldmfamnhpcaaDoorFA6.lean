/-
  The text of an automaton tells it. Plain lemmas; no conditions.
-/
import Derived.Test.YtnfldmfamnhpcaaDoorFA3
namespace Go.Proofs.YtnfldmfamnhpcaaDoor
open Go.RowKit Go.Deep
open Vm (Tr4 AutOk Zc AU accT)
set_option linter.unusedVariables false

theorem cut_eq {c:UInt8}:∀ {x x' r r':List UInt8},c ∉ x → c ∉ x' → x ++ c :: r = x' ++ c :: r' → x = x' ∧ r = r'
  | [],[],r,r',_,_,h=>by simpa using h
  | [],y :: x',r,r',_,h2,h=>by
    simp only [List.nil_append,List.cons_append,List.cons.injEq] at h
    exact absurd (by rw [h.1];exact List.mem_cons_self ..) h2
  | y :: x,[],r,r',h1,_,h=>by
    simp only [List.nil_append,List.cons_append,List.cons.injEq] at h
    exact absurd (by rw [← h.1];exact List.mem_cons_self ..) h1
  | y :: x,y' :: x',r,r',h1,h2,h=>by
    simp only [List.cons_append,List.cons.injEq] at h
    obtain ⟨rfl,h⟩:=h
    obtain ⟨rfl,e⟩:=cut_eq (fun k=>h1 (List.mem_cons_of_mem _ k)) (fun k=>h2 (List.mem_cons_of_mem _ k)) h
    exact ⟨rfl,e⟩
theorem digB_nat (k:Nat) (h:k ≤ 9):(digB (k:Int)).toNat = 48 + k:=by
  unfold digB;simp [UInt8.toNat_ofNat];omega
theorem decN_digit (n:Nat):∀ b ∈ decN n,48 ≤ b.toNat ∧ b.toNat ≤ 57:=by
  induction n using Nat.strongRecOn with
  | _ n ih =>
    intro b hb
    by_cases h:n ≤ 9
    · rw [zakm h] at hb
      obtain rfl:b = digB n:=by simpa using hb
      rw [digB_nat n h];omega
    · rw [decN_gt (by omega),List.mem_append] at hb
      rcases hb with hb | hb
      · exact ih (n / 10) (by omega) b hb
      · obtain rfl:b = digB (n % 10:Nat):=by simpa using hb
        rw [digB_nat (n % 10) (by omega)];omega
theorem decN_no {n:Nat} {c:UInt8} (h:c.toNat < 48):c ∉ decN n:=fun k=>by have:=decN_digit n c k;omega
def valD (l:List UInt8):Nat:=l.foldl (fun v b=>v * 10 + (b.toNat - 48)) 0
theorem valD_snoc (l:List UInt8) (b:UInt8):valD (l ++ [b]) = valD l * 10 + (b.toNat - 48):=by simp [valD]
theorem valD_dec (n:Nat):valD (decN n) = n:=by
  induction n using Nat.strongRecOn with
  | _ n ih =>
    by_cases h:n ≤ 9
    · rw [zakm h];show 0 * 10 + ((digB n).toNat - 48) = n;rw [digB_nat n h];omega
    · rw [decN_gt (by omega),valD_snoc,ih (n / 10) (by omega),digB_nat (n % 10) (by omega)];omega
theorem decN_inj {n m:Nat} (h:decN n = decN m):n = m:=by rw [← valD_dec n,h,valD_dec]
theorem nums_inj:∀ {x y:List Int},NumOk x → NumOk y → numsT x = numsT y → x = y
  | [],[],_,_,_=>rfl
  | [],n :: y,_,_,h=>by simp [numsT] at h
  | n :: x,[],_,_,h=>by simp [numsT] at h
  | n :: x,m :: y,hx,hy,h=>by
    have hn:=hx 0 (by simp)
    have hm:=hy 0 (by simp)
    have hx':NumOk x:=fun i hi=>hx (i + 1) (by simpa using hi)
    have hy':NumOk y:=fun i hi=>hy (i + 1) (by simpa using hi)
    have h2:decN n.toNat ++ numsT x = decN m.toNat ++ numsT y:=by simpa [numsT] using h
    have key:decN n.toNat = decN m.toNat ∧ numsT x = numsT y:=by
      have shape:∀ z:List Int,numsT z = [] ∨ ∃ r,numsT z = 32 :: r:=fun z=>by cases z <;> simp [numsT]
      rcases shape x with ex | ⟨r,ex⟩ <;> rcases shape y with ey | ⟨r',ey⟩
      · rw [ex,ey] at h2 ⊢;simpa using h2
      · rw [ex,ey,List.append_nil] at h2
        exact absurd (by rw [h2];simp) (decN_no (n:=n.toNat) (c:=32) (by decide))
      · rw [ex,ey,List.append_nil] at h2
        exact absurd (by rw [← h2];simp) (decN_no (n:=m.toNat) (c:=32) (by decide))
      · rw [ex,ey] at h2 ⊢
        obtain ⟨e1,e2⟩:=cut_eq (decN_no (by decide)) (decN_no (by decide)) h2
        exact ⟨e1,by rw [e2]⟩
    have e:=decN_inj key.1
    have e2:n = m:=by
      have a1:0 ≤ n:=hn.1
      have a2:0 ≤ m:=hm.1
      omega
    rw [e2,nums_inj hx' hy' key.2]
theorem numsT_no:∀ (x:List Int),(10:UInt8) ∉ numsT x
  | [],h=>by simp [numsT] at h
  | n :: x,h=>by
    have e:numsT (n :: x) = 32 :: (decN n.toNat ++ numsT x):=by simp [numsT]
    rw [e,List.mem_cons,List.mem_append] at h
    rcases h with h | h | h
    · exact absurd h (by decide)
    · exact decN_no (by decide) h
    · exact numsT_no x h
theorem line_inj {wd:List UInt8} (hw:(10:UInt8) ∉ wd) {x y:List Int} (hx:NumOk x) (hy:NumOk y) {r r':List UInt8} (h:Xa wd x ++ r = Xa wd y ++ r'):x = y ∧ r = r':=by
  have e:∀ (z:List Int) (s:List UInt8),Xa wd z ++ s = (wd ++ numsT z) ++ 10 :: s:=fun z s=>by simp [Xa,numsT]
  rw [e,e] at h
  have hno:∀ z:List Int,(10:UInt8) ∉ wd ++ numsT z:=fun z k=>by
    rcases List.mem_append.1 k with k | k
    · exact hw k
    · exact numsT_no z k
  obtain ⟨e1,e2⟩:=cut_eq (hno x) (hno y) h
  exact ⟨nums_inj hx hy (List.append_cancel_left e1),e2⟩
theorem edgeT_ne (e:Tr4) (r:List UInt8):edgeT e ++ r ≠ []:=by simp [edgeT,Xa]
theorem edgeL_inj {e e':Tr4} (h:edgeL e = edgeL e'):e = e':=by
  obtain ⟨p,q,r,s⟩:=e
  obtain ⟨p',q',r',s'⟩:=e'
  simp only [edgeL,List.cons.injEq,and_true] at h
  obtain ⟨rfl,rfl,rfl,rfl⟩:=h
  rfl
theorem edges_inj:∀ {x y:List Tr4},(∀ e ∈ x,NumOk (edgeL e)) → (∀ e ∈ y,NumOk (edgeL e)) → x.flatMap edgeT = y.flatMap edgeT → x = y
  | [],[],_,_,_=>rfl
  | [],e :: y,_,_,h=>by
    rw [List.flatMap_nil,List.flatMap_cons] at h
    exact absurd h.symm (edgeT_ne e _)
  | e :: x,[],_,_,h=>by
    rw [List.flatMap_nil,List.flatMap_cons] at h
    exact absurd h (edgeT_ne e _)
  | e :: x,e' :: y,hx,hy,h=>by
    rw [List.flatMap_cons,List.flatMap_cons,edgeT,edgeT] at h
    obtain ⟨h1,h2⟩:=line_inj (wd:=wEdge) (by decide) (hx e (List.mem_cons_self ..)) (hy e' (List.mem_cons_self ..)) h
    rw [edgeL_inj h1,edges_inj (fun z hz=>hx z (List.mem_cons_of_mem _ hz)) (fun z hz=>hy z (List.mem_cons_of_mem _ hz)) h2]
theorem accT_mem {b:List Bool}:∀ {k i:Nat},(i:Int) ∈ accT b k ↔ i < k ∧ Vm.nth b i = true
  | 0,i=>by simp [accT]
  | k + 1,i=>by
    rw [accT,List.mem_append,accT_mem (k:=k)]
    by_cases hk:Vm.nth b k = true
    · simp only [hk,if_true,List.mem_singleton]
      constructor
      · rintro (⟨h1,h2⟩ | h)
        · exact ⟨by omega,h2⟩
        · obtain rfl:i = k:=by omega
          exact ⟨by omega,hk⟩
      · rintro ⟨h1,h2⟩
        by_cases h:i = k
        · exact .inr (by omega)
        · exact .inl ⟨by omega,h2⟩
    · simp only [hk]
      constructor
      · rintro (⟨h1,h2⟩ | h)
        · exact ⟨by omega,h2⟩
        · simp at h
      · rintro ⟨h1,h2⟩
        by_cases h:i = k
        · subst h;exact absurd h2 hk
        · exact .inl ⟨by omega,h2⟩
theorem accT_inj {b b':List Bool} (hl:b.length = b'.length) (h:accT b b.length = accT b' b'.length):b = b':=by
  apply List.ext_getElem hl
  intro i h1 h2
  have k1:=accT_mem (b:=b) (k:=b.length) (i:=i)
  have k2:=accT_mem (b:=b') (k:=b'.length) (i:=i)
  rw [h,k2,Vm.nth_lt h1,Vm.nth_lt h2] at k1
  cases e1:b[i] <;> cases e2:b'[i] <;> simp_all
theorem autT_inj {a a':List Int} {b b':List Bool} {c c':List Tr4} (h:AutOk a b.length c) (h':AutOk a' b'.length c') (e:autT a b c = autT a' b' c'):a = a' ∧ b = b' ∧ c = c':=by
  have n:=autN h
  have n':=autN h'
  rw [autT_yes (Vm.B_yes h),autT_yes (Vm.B_yes h'),Ja,Ja,List.take_length,List.take_length,headT,headT,List.append_assoc,List.append_assoc,List.append_assoc,List.append_assoc] at e
  obtain ⟨e1,e⟩:=line_inj (wd:=wAut) (by decide) (num_one n.lb) (num_one n'.lb) e
  obtain ⟨e2,e⟩:=line_inj (wd:=wIni) (by decide) n.na n'.na e
  obtain ⟨e3,e⟩:=line_inj (wd:=wAcc) (by decide) (num_acc n.lb (Nat.le_refl _)) (num_acc n'.lb (Nat.le_refl _)) e
  have hb:b.length = b'.length:=by
    have e9:(b.length:Int) = b'.length:=by simpa using e1
    omega
  refine ⟨e2,accT_inj hb e3,edges_inj (fun z hz=>?_) (fun z hz=>?_) e⟩
  · obtain ⟨i,hi,rfl⟩:=List.getElem_of_mem hz
    have:=n.ne i hi
    rwa [Vm.nth_lt hi] at this
  · obtain ⟨i,hi,rfl⟩:=List.getElem_of_mem hz
    have:=n'.ne i hi
    rwa [Vm.nth_lt hi] at this
theorem autT_law (a a':List Int) (b b':List Bool) (c c':List Tr4):autT a b c = [] ∨ autT a' b' c' = [] ∨ ((a = a' ∧ b = b' ∧ c = c') ↔ autT a b c = autT a' b' c'):=by
  cases hv:Vm.B (AutOk a b.length c) with
  | false=>exact .inl (autT_no hv)
  | true =>
    cases hv2:Vm.B (AutOk a' b'.length c') with
    | false=>exact .inr (.inl (autT_no hv2))
    | true =>
      rw [Vm.B_iff] at hv hv2
      refine .inr (.inr ⟨?_,autT_inj hv hv2⟩)
      rintro ⟨rfl,rfl,rfl⟩
      rfl
end Go.Proofs.YtnfldmfamnhpcaaDoor

