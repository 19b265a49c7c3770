import Derived.Test.YtnfldmfamnhpcaaK4
import Derived.Test.YtnfldmfamnhpcaaN9
/-
  Runs of automata over words without end: plain. No conditions.
-/
namespace Go.Proofs.Ytnfldmfamnhpcaa.Vm
open Go
set_option linter.unusedVariables false
set_option linter.unusedSimpArgs false
set_option maxRecDepth 200000

theorem memG {α:Type} [Inhabited α] {xs:List α} {e:α} (h:e ∈ xs):∃ i,i < xs.length ∧ nth xs i = e:=by
  obtain ⟨i,hi,e2⟩:=List.getElem_of_mem h
  exact ⟨i,hi,by rw [Qy hi,e2]⟩
def plc (a b:List Int):Nat → Nat
  | 0=>0
  | t + 1=>nxI a b (plc a b t)
def ltr (a b:List Int) (t:Nat):Int:=nth (a ++ b) (plc a b t)
theorem plc_lt {a b:List Int} (h:0 < b.length):∀ t,plc a b t < a.length + b.length
  | 0=>by simp only [plc];omega
  | t + 1=>by simp only [plc];exact nxI_lt h (plc_lt h t)
def Run (es:List Tr4) (w:Nat → Int) (r:Nat → Int):Prop:=∀ t,∃ e,e ∈ es ∧ e.1 = r t ∧ e.2.2.2 = r (t + 1) ∧ tk (w t) e = true
def Oft (p:Nat → Prop):Prop:=∀ N,∃ t,N ≤ t ∧ p t
def SAcc (acc:List Bool) (ss:List Int) (es:List Tr4) (w:Nat → Int):Prop:=∃ r:Nat → Int,r 0 ∈ ss ∧ Run es w r ∧ Oft fun t=>nth acc (r t).toNat = true
theorem Oft.mono {p q:Nat → Prop} (h:Oft p) (k:∀ t,p t → q t):Oft q:=fun N=>by obtain ⟨t,h1,h2⟩:=h N;exact ⟨t,h1,k t h2⟩
theorem Oft.shift {p:Nat → Prop} (h:Oft p):Oft fun t=>p (t + 1):=fun N=>by
  obtain ⟨t,h1,h2⟩:=h (N + 1)
  exact ⟨t - 1,by omega,by show p (t - 1 + 1);rw [show t - 1 + 1 = t by omega];exact h2⟩
theorem Oft.back {p:Nat → Prop} (h:Oft fun t=>p (t + 1)):Oft p:=fun N=>by
  obtain ⟨t,h1,h2⟩:=h N
  exact ⟨t + 1,by omega,h2⟩
theorem Oft.pigeon {f:Nat → Nat}:∀ (M:Nat) {p:Nat → Prop},Oft p → (∀ t,p t → f t < M) → ∃ x,Oft fun t=>p t ∧ f t = x
  | 0,p,h,k=>by obtain ⟨t,_,h2⟩:=h 0;exact absurd (k t h2) (by omega)
  | M + 1,p,h,k=>by
    by_cases q:Oft fun t=>p t ∧ f t = M
    · exact ⟨M,q⟩
    · obtain ⟨N0,hN⟩:∃ N0,∀ t,N0 ≤ t → ¬ (p t ∧ f t = M):=by
        apply Classical.byContradiction
        intro h3
        apply q
        intro N
        apply Classical.byContradiction
        intro h4
        exact h3 ⟨N,fun t ht hp=>h4 ⟨t,ht,hp⟩⟩
      have h5:Oft fun t=>p t ∧ N0 ≤ t:=fun N=>by
        obtain ⟨t,h1,h2⟩:=h (max N N0)
        exact ⟨t,by omega,h2,by omega⟩
      obtain ⟨x,hx⟩:=Oft.pigeon (f:=f) M (p:=fun t=>p t ∧ N0 ≤ t) h5 (fun t ht=>by
        have h6:=k t ht.1
        have h7:=hN t ht.2
        have:¬ f t = M:=fun e=>h7 ⟨ht.1,e⟩
        omega)
      exact ⟨x,hx.mono fun t ht=>⟨ht.1.1,ht.2⟩⟩

def Rk (nx:List (List Int)) (x:Int):Nat → Int → Prop
  | 0,y=>y = x
  | k + 1,y=>∃ z,z ∈ nth nx y.toNat ∧ Rk nx x k z
theorem Rk.of {nx:List (List Int)} {x y:Int} (h:Rch nx y x):∃ k,Rk nx x k y:=by
  induction h with
  | refl=>exact ⟨0,rfl⟩
  | step e _ ih=>obtain ⟨k,hk⟩:=ih;exact ⟨k + 1,_,e,hk⟩
theorem path_step {nx:List (List Int)} {x:Int} (hc:Cyc nx x) (p:{p:Int × Nat // Rk nx x p.2 p.1}):∃ q:{p:Int × Nat // Rk nx x p.2 p.1},q.1.1 ∈ nth nx p.1.1.toNat ∧ (p.1.2 = 0 ∨ q.1.2 + 1 = p.1.2):=by
  obtain ⟨⟨y,k⟩,hk⟩:=p
  cases k with
  | zero =>
    obtain ⟨z,z1,z2⟩:=hc
    obtain ⟨k,hk2⟩:=Rk.of z2
    have e:y = x:=hk
    subst e
    exact ⟨⟨(z,k),hk2⟩,z1,.inl rfl⟩
  | succ k =>
    obtain ⟨z,z1,z2⟩:=hk
    exact ⟨⟨(z,k),z2⟩,z1,.inr rfl⟩
theorem path_end {nx:List (List Int)} {s x:Int} (h:Rch nx s x) (hc:Cyc nx x):∃ r:Nat → Int,r 0 = s ∧ (∀ t,r (t + 1) ∈ nth nx (r t).toNat) ∧ Oft fun t=>r t = x:=by
  obtain ⟨k0,hk0⟩:=Rk.of h
  let nxt:=fun p=>Classical.choose (path_step hc p)
  have hn:=fun p=>Classical.choose_spec (path_step hc p)
  let st:Nat → {p:Int × Nat // Rk nx x p.2 p.1}:=fun t=>Nat.rec (motive:=fun _=>{p:Int × Nat // Rk nx x p.2 p.1}) ⟨(s,k0),hk0⟩ (fun _ p=>nxt p) t
  refine ⟨fun t=>(st t).1.1,rfl,fun t=>(hn (st t)).1,fun N=>?_⟩
  have key:∀ (k N:Nat),(st N).1.2 = k → ∃ t,N ≤ t ∧ (st t).1.1 = x:=by
    intro k
    induction k with
    | zero =>
      intro N e
      have:=(st N).2
      rw [e] at this
      exact ⟨N,Nat.le_refl _,this⟩
    | succ k ih =>
      intro N e
      have h1:(st N).1.2 = 0 ∨ (nxt (st N)).1.2 + 1 = (st N).1.2:=(hn (st N)).2
      have h2:(nxt (st N)).1.2 = k:=by omega
      have h2:(st (N + 1)).1.2 = k:=h2
      obtain ⟨t,t1,t2⟩:=ih (N + 1) h2
      exact ⟨t,by omega,t2⟩
  exact key _ N rfl
theorem path_rch {nx:List (List Int)} {r:Nat → Int} (h:∀ t,r (t + 1) ∈ nth nx (r t).toNat) (i:Nat):∀ k,Rch nx (r i) (r (i + k))
  | 0=>.refl _
  | k + 1=>(path_rch h i k).trans (.step (h (i + k)) (.refl _))

theorem aStep_len {n:Nat} {x:Int} {P Q:Nat} {r:List (List Int)} {e:Tr4}:(aStep n x P Q r e).length = r.length:=by
  unfold aStep;split
  · exact addE_len ..
  · rfl
theorem aIn_len {n:Nat} {es:List Tr4} {x:Int} {P Q:Nat} {r:List (List Int)}:∀ k,k ≤ es.length → (aIn n es x P Q r k).length = r.length
  | 0,_=>by rw [aIn_zero]
  | k + 1,h=>by rw [zamq (by omega),aStep_len,aIn_len k (by omega)]
theorem mem_aIn {n N:Nat} {es:List Tr4} (hr:InRng n es) {x:Int} {P Q:Nat} {r:List (List Int)} (hl:r.length = N) (hP:P + n ≤ N) (j:Nat) (y:Int):∀ k,k ≤ es.length → (y ∈ nth (aIn n es x P Q r k) j ↔ y ∈ nth r j ∨ ∃ i,i < k ∧ tk x (nth es i) = true ∧ (j:Int) = (P:Int) + (nth es i).1 ∧ y = (Q:Int) + (nth es i).2.2.2)
  | 0,_=>by rw [aIn_zero];simp
  | k + 1,h=>by
    have ih:=mem_aIn hr (x:=x) (Q:=Q) hl hP j y k (by omega)
    obtain ⟨⟨g1,g2⟩,g3,g4⟩:=hr k (by omega)
    rw [zamq (by omega)]
    unfold aStep
    split
    · rename_i ht
      rw [mem_addE (by rw [aIn_len k (by omega),hl];omega),ih]
      constructor
      · rintro ((q | ⟨i,i1,i2,i3,i4⟩) | ⟨q1,q2⟩)
        · exact .inl q
        · exact .inr ⟨i,by omega,i2,i3,i4⟩
        · exact .inr ⟨k,by omega,ht,by omega,q2⟩
      · rintro (q | ⟨i,i1,i2,i3,i4⟩)
        · exact .inl (.inl q)
        · by_cases e:i = k
          · subst e;exact .inr ⟨by omega,i4⟩
          · exact .inl (.inr ⟨i,by omega,i2,i3,i4⟩)
    · rename_i ht
      rw [ih]
      constructor
      · rintro (q | ⟨i,i1,i2,i3,i4⟩)
        · exact .inl q
        · exact .inr ⟨i,by omega,i2,i3,i4⟩
      · rintro (q | ⟨i,i1,i2,i3,i4⟩)
        · exact .inl q
        · by_cases e:i = k
          · subst e;exact absurd i2 ht
          · exact .inr ⟨i,by omega,i2,i3,i4⟩
theorem aRow_len {n:Nat} {es:List Tr4} {a b:List Int}:∀ i,(aRow n es a b i).length = (a.length + b.length) * n
  | 0=>by simp [aRow]
  | i + 1=>by simp only [aRow];rw [aIn_len _ (Nat.le_refl _),aRow_len i]
theorem mem_aRow {n:Nat} {es:List Tr4} (hr:InRng n es) {a b:List Int} (j:Nat) (y:Int):∀ i,i ≤ a.length + b.length → (y ∈ nth (aRow n es a b i) j ↔ ∃ p,p < i ∧ ∃ e,e ∈ es ∧ tk (nth (a ++ b) p) e = true ∧ (j:Int) = ((p * n:Nat):Int) + e.1 ∧ y = ((nxI a b p * n:Nat):Int) + e.2.2.2)
  | 0,_=>by
    constructor
    · intro h
      exfalso
      simp only [aRow,nth,List.getD_eq_getElem?_getD] at h
      rcases Nat.lt_or_ge j ((a.length + b.length) * n) with q | q
      · simp [q] at h
      · rw [List.getElem?_eq_none (by simpa using q)] at h;simp [default] at h
    · rintro ⟨p,h,_⟩;omega
  | i + 1,hi=>by
    have ih:=mem_aRow hr (a:=a) (b:=b) j y i (by omega)
    simp only [aRow]
    rw [mem_aIn hr (aRow_len i) (Uu (n:=n) (show i < a.length + b.length by omega)) j y _ (Nat.le_refl _),ih]
    constructor
    · rintro (⟨p,p1,p2⟩ | ⟨k,k1,k2,k3,k4⟩)
      · exact ⟨p,by omega,p2⟩
      · exact ⟨i,by omega,nth es k,Xl k1,k2,k3,k4⟩
    · rintro ⟨p,p1,e,e1,e2,e3,e4⟩
      by_cases q:p = i
      · subst q
        obtain ⟨k,k1,k2⟩:=memG e1
        exact .inr ⟨k,k1,by rw [k2];exact e2,by rw [k2];exact e3,by rw [k2];exact e4⟩
      · exact .inl ⟨p,by omega,e,e1,e2,e3,e4⟩
theorem InRng.mem {n:Nat} {es:List Tr4} (hr:InRng n es) {e:Tr4} (h:e ∈ es):(0 ≤ e.1 ∧ e.1 < n) ∧ 0 ≤ e.2.2.2 ∧ e.2.2.2 < n:=by
  obtain ⟨k,k1,k2⟩:=memG h
  have:=hr k k1
  rwa [k2] at this
theorem mem_aAll {n:Nat} {es:List Tr4} (hr:InRng n es) {a b:List Int} {p:Nat} {q y:Int} (hp:p < a.length + b.length) (h0:0 ≤ q) (h1:q < n):y ∈ nth (aAll n es a b) (((p * n:Nat):Int) + q).toNat ↔ ∃ e,e ∈ es ∧ e.1 = q ∧ tk (nth (a ++ b) p) e = true ∧ y = ((nxI a b p * n:Nat):Int) + e.2.2.2:=by
  unfold aAll
  rw [mem_aRow hr _ _ _ (Nat.le_refl _)]
  have hj:((((p * n:Nat):Int) + q).toNat:Int) = ((p * n:Nat):Int) + q:=by omega
  constructor
  · rintro ⟨p',p1,e,e1,e2,e3,e4⟩
    rw [hj] at e3
    obtain ⟨⟨g1,g2⟩,_⟩:=hr.mem e1
    have hpp:p' = p:=by
      rcases Nat.lt_trichotomy p' p with c | c | c
      · have:=Uu (n:=n) c;omega
      · exact c
      · have:=Uu (n:=n) c;omega
    subst hpp
    exact ⟨e,e1,by omega,e2,e4⟩
  · rintro ⟨e,e1,e2,e3,e4⟩
    exact ⟨p,hp,e,e1,e3,by rw [hj,e2],e4⟩
theorem acp_sem {n:Nat} {es:List Tr4} (hr:InRng n es) (hn:1 ≤ n) {a b:List Int} (hb:0 < b.length) {acc:List Bool} {ss:List Int} (hs:∀ s,s ∈ ss → 0 ≤ s ∧ s < n):Acp n acc ss (aAll n es a b) ↔ SAcc acc ss es (ltr a b):=by
  have hmod:∀ (p:Nat) (q:Int),0 ≤ q → q < n → (((p * n:Nat):Int) + q).toNat % n = q.toNat:=fun p q h0 h1=>by
    have e:(((p * n:Nat):Int) + q).toNat = p * n + q.toNat:=by omega
    rw [e,Nat.add_comm,Nat.add_mul_mod_self_right,Nat.mod_eq_of_lt (by omega)]
  constructor
  · rintro ⟨x,x1,⟨s,s1,s2⟩,x3,x4⟩
    obtain ⟨r,r0,r1,r2⟩:=path_end s2 x3
    obtain ⟨s3,s4⟩:=hs s s1
    have inv:∀ t,∃ q,r t = ((plc a b t * n:Nat):Int) + q ∧ 0 ≤ q ∧ q < n:=by
      intro t
      induction t with
      | zero=>exact ⟨s,by rw [r0];simp [plc],s3,s4⟩
      | succ t ih =>
        obtain ⟨q,q1,q2,q3⟩:=ih
        have:=r1 t
        rw [q1,mem_aAll hr (plc_lt hb t) q2 q3] at this
        obtain ⟨e,e1,e2,e3,e4⟩:=this
        obtain ⟨_,g3,g4⟩:=hr.mem e1
        exact ⟨e.2.2.2,by rw [e4];rfl,g3,g4⟩
    have inv2:∀ t,(r t - ((plc a b t * n:Nat):Int)) = (r t).toNat % n:=fun t=>by
      obtain ⟨q,q1,q2,q3⟩:=inv t
      have:=hmod (plc a b t) q q2 q3
      rw [q1]
      omega
    refine ⟨fun t=>r t - ((plc a b t * n:Nat):Int),?_,fun t=>?_,?_⟩
    · simp only [plc,r0];simpa using s1
    · obtain ⟨q,q1,q2,q3⟩:=inv t
      have h:=r1 t
      rw [q1,mem_aAll hr (plc_lt hb t) q2 q3] at h
      obtain ⟨e,e1,e2,e3,e4⟩:=h
      have e5:nxI a b (plc a b t) = plc a b (t + 1):=rfl
      rw [e5] at e4
      exact ⟨e,e1,by show e.1 = r t - ((plc a b t * n:Nat):Int);rw [e2,q1];omega,by show e.2.2.2 = r (t + 1) - ((plc a b (t + 1) * n:Nat):Int);rw [e4];omega,e3⟩
    · refine r2.mono fun t ht=>?_
      show nth acc (r t - ((plc a b t * n:Nat):Int)).toNat = true
      rw [inv2 t,ht]
      have e9:(((x:Int).toNat:Int) % (n:Int)).toNat = x % n:=by rw [Int.toNat_natCast,← Int.natCast_emod,Int.toNat_natCast]
      rw [e9];exact x4
  · rintro ⟨r,r0,r1,r2⟩
    have rng:∀ t,0 ≤ r t ∧ r t < n:=fun t=>by
      cases t with
      | zero=>exact hs _ r0
      | succ t =>
        obtain ⟨e,e1,e2,e3,e4⟩:=r1 t
        obtain ⟨_,g3,g4⟩:=hr.mem e1
        rw [← e3];exact ⟨g3,g4⟩
    let nd:Nat → Int:=fun t=>((plc a b t * n:Nat):Int) + r t
    have hstep:∀ t,nd (t + 1) ∈ nth (aAll n es a b) (nd t).toNat:=fun t=>by
      rw [mem_aAll hr (plc_lt hb t) (rng t).1 (rng t).2]
      obtain ⟨e,e1,e2,e3,e4⟩:=r1 t
      exact ⟨e,e1,e2,e4,by rw [e3];rfl⟩
    have hlen:(aAll n es a b).length = (a.length + b.length) * n:=aRow_len _
    have hlt:∀ t,(nd t).toNat < (a.length + b.length) * n:=fun t=>by
      have:=Uu (n:=n) (plc_lt hb t (a:=a))
      have:=rng t
      show (((plc a b t * n:Nat):Int) + r t).toNat < _
      omega
    obtain ⟨x,hx⟩:=Oft.pigeon (f:=fun t=>(nd t).toNat) _ r2 (fun t _=>hlt t)
    obtain ⟨t1,-,a1,e1⟩:=hx 0
    obtain ⟨t2,h2,a2,e2⟩:=hx (t1 + 1)
    have hnn:∀ t,0 ≤ nd t:=fun t=>by have:=rng t;show 0 ≤ ((plc a b t * n:Nat):Int) + r t;omega
    have n1:nd t1 = (x:Int):=by have:=hnn t1;have:(nd t1).toNat = x:=e1;omega
    have n2:nd t2 = (x:Int):=by have:=hnn t2;have:(nd t2).toNat = x:=e2;omega
    refine ⟨x,by rw [hlen,← e1];exact hlt t1,⟨r 0,r0,?_⟩,⟨nd (t1 + 1),?_,?_⟩,?_⟩
    · have:=path_rch hstep 0 t1
      rw [Nat.zero_add,n1] at this
      have e:nd 0 = r 0:=by show ((plc a b 0 * n:Nat):Int) + r 0 = r 0;simp [plc]
      rwa [e] at this
    · have:=hstep t1
      rwa [n1] at this
    · have:=path_rch hstep (t1 + 1) (t2 - (t1 + 1))
      rw [show t1 + 1 + (t2 - (t1 + 1)) = t2 by omega,n2] at this
      exact this
    · have h:=hmod (plc a b t1) (r t1) (rng t1).1 (rng t1).2
      have:(nd t1).toNat % n = (r t1).toNat:=h
      rw [e1] at this
      rw [this]
      exact a1



theorem acR_sem {a:List Int} {b:List Bool} {c:List Tr4} {s l:List Int} (hA:AutOk a b.length c) (hL:LasOk s l):acR a b c s l = B (SAcc b a c (ltr s l)):=by
  rw [acR_yes ⟨hA,hL⟩,Bool.eq_iff_iff,B_iff,B_iff]
  exact acp_sem hA.rng hA.1 (by have:=hL.2.2.2.1;omega) (hA.starts (Nat.le_refl _)).1
theorem acR_las {a:List Int} {b:List Bool} {c:List Tr4} {s l:List Int} (hL:¬ LasOk s l):acR a b c s l = false:=acR_no fun h=>hL h.2
theorem ask_las {a:List Int} {b:List Bool} {c:List Tr4} {s l:List Int} (hA:AutOk a b.length c):B (AcAsk a b c s l) = B (LasOk s l):=by
  rw [Bool.eq_iff_iff,B_iff,B_iff];exact ⟨fun h=>h.2,fun h=>⟨hA,h⟩⟩
end Go.Proofs.Ytnfldmfamnhpcaa.Vm

