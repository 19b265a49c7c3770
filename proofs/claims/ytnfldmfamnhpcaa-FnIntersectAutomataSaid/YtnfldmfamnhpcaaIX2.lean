/-
  Intersections accept what both accept: plain. No conditions.
-/
import Derived.Test.YtnfldmfamnhpcaaSM4
import Derived.Test.YtnfldmfamnhpcaaIX1
namespace Go.Proofs.Ytnfldmfamnhpcaa.Vm
open Go
set_option linter.unusedVariables false
set_option linter.unusedSimpArgs false
set_option maxRecDepth 200000

theorem tk_fit {e f:Tr4} {n n':Int} (he:EdgeOk e n) (hf:EdgeOk f n') {x:Int} (hx:Oct x) (ph:Int) (i j:Int):(fitE e f = true ∧ tk x (i,(mvE ph e f).1,(mvE ph e f).2.1,j) = true) ↔ (tk x e = true ∧ tk x f = true):=by
  obtain ⟨c,v,hc,hv,c8,v8,cv⟩:=he.oct
  obtain ⟨c',v',hc',hv',c8',v8',cv'⟩:=hf.oct
  obtain ⟨w,rfl⟩:=Int.eq_ofNat_of_zero_le hx.1
  have w8:w < 8:=by have:=hx.2;omega
  have q1:=(Uf v8 v8').2.2
  have q2:=(Uf (xor_lt8 v8 v8') c8).1
  have q3:=(Uf (and_le7 (y:=c) (xor_lt8 v8 v8')) c8').1
  have q4:=(Uf c8 c8').2.1
  have q5:=(Uf v8 v8').2.1
  have q6:=(Uf w8 (or_lt8 c8 c8')).1
  have q7:=(Uf w8 c8).1
  have q8:=(Uf w8 c8').1
  have key:=bits_fit (w:=w) cv cv'
  simp only [fitE,tk,mvE,hc,hv,hc',hv',q1,q2,q3,q4,q5,q6,q7,q8,decide_eq_true_eq]
  constructor
  · rintro ⟨x1,x2⟩
    obtain ⟨y1,y2⟩:=key.1 ⟨by omega,by omega⟩
    exact ⟨by omega,by omega⟩
  · rintro ⟨x1,x2⟩
    obtain ⟨y1,y2⟩:=key.2 ⟨by omega,by omega⟩
    exact ⟨by omega,by omega⟩

theorem idx_pre {L r:List (List Int)} {t:List Int} (h:t ∈ L):(L ++ r).idxOf t = L.idxOf t:=by rw [List.idxOf_append,if_pos h]
theorem mem_ixRun {i:Nat} {e:Tr4}:∀ (ms:List Mv5) (s:List (List Int) × List Tr4),(∀ m ∈ ms,mvT m ∈ (ixRun i s ms).1) ∧ (e ∈ (ixRun i s ms).2 ↔ e ∈ s.2 ∨ ∃ m,m ∈ ms ∧ e = ((i:Int),m.1,m.2.1,((ixRun i s ms).1.idxOf (mvT m):Int)))
  | [],s=>by simp [ixRun]
  | m :: ms,s=>by
    obtain ⟨h1,h2⟩:=mem_ixRun ms (Xw i s m) (i:=i) (e:=e)
    obtain ⟨⟨r,hr⟩,_⟩:=ixRun_pre i ms (Xw i s m)
    have hm:mvT m ∈ (Xw i s m).1:=by simp only [Xw];exact mem_addT.2 (.inr rfl)
    have e0:ixRun i s (m :: ms) = ixRun i (Xw i s m) ms:=rfl
    rw [e0]
    have hidx:(ixRun i (Xw i s m) ms).1.idxOf (mvT m) = (addT s.1 (mvT m)).idxOf (mvT m):=by rw [hr,idx_pre hm];rfl
    refine ⟨fun x hx=>?_,?_⟩
    · rcases List.mem_cons.1 hx with rfl | hx
      · rw [hr];exact List.mem_append_left _ hm
      · exact h1 x hx
    · rw [h2]
      constructor
      · rintro (q | ⟨m2,q1,q2⟩)
        · simp only [Xw] at q
          rcases List.mem_append.1 q with q | q
          · exact .inl q
          · simp only [List.mem_singleton] at q
            exact .inr ⟨m,by simp,by rw [q,hidx]⟩
        · exact .inr ⟨m2,by simp [q1],q2⟩
      · rintro (q | ⟨m2,q1,q2⟩)
        · exact .inl (by simp only [Xw];exact List.mem_append_left _ q)
        · rcases List.mem_cons.1 q1 with rfl | q1
          · refine .inl ?_
            simp only [Xw]
            rw [q2,hidx]
            simp
          · exact .inr ⟨m2,q1,q2⟩
theorem ixE_mem {X:IxP} (hX:X.Ok):∀ N,IxUp X N → (∀ i,i < N → ∀ m,m ∈ mvs X (nth (ixE X N).l i) → mvT m ∈ (ixE X N).l) ∧ (∀ e,e ∈ (ixE X N).e ↔ ∃ i,i < N ∧ ∃ m,m ∈ mvs X (nth (ixE X N).l i) ∧ e = ((i:Int),m.1,m.2.1,((ixE X N).l.idxOf (mvT m):Int))) ∧ ∀ i,i < N → nth (ixE X N).a i = mvAc X (nth (ixE X N).l i)
  | 0,_=>⟨fun i h=>by omega,fun e=>by simp [ixE],fun i h=>by omega⟩
  | N + 1,hU=>by
    have hU0:IxUp X N:=fun j hj=>hU j (by omega)
    obtain ⟨h1,h2,h3⟩:=ixE_mem hX N hU0
    have hN:=hU N (by omega)
    obtain ⟨r,hr⟩:=(ixE_pre X N).1
    have hlow:∀ i,i ≤ N → nth (ixE X (N + 1)).l i = nth (ixE X N).l i:=fun i hi=>by
      have hi2:∀ j,j < N → j < (ixE X N).l.length:=fun j hj=>by omega
      rw [hr];exact Vg (by omega)
    have hrun:=fun e=>mem_ixRun (i:=N) (e:=e) (mvs X (nth (ixE X N).l N)) ((ixE X N).l,(ixE X N).e)
    refine ⟨fun i hi m hm=>?_,fun e=>?_,fun i hi=>?_⟩
    · rw [hlow i (by omega)] at hm
      by_cases q:i = N
      · subst q;exact (hrun (0,0,0,0)).1 m hm
      · rw [hr];exact List.mem_append_left _ (h1 i (by omega) m hm)
    · have:=(hrun e).2
      refine this.trans ?_
      dsimp only
      rw [h2]
      constructor
      · rintro (⟨i,i1,m,m1,m2⟩ | ⟨m,m1,m2⟩)
        · refine ⟨i,by omega,m,by rw [hlow i (by omega)];exact m1,?_⟩
          rw [m2,hr,idx_pre (h1 i i1 m m1)]
        · exact ⟨N,by omega,m,by rw [hlow N (Nat.le_refl _)];exact m1,m2⟩
      · rintro ⟨i,i1,m,m1,m2⟩
        rw [hlow i (by omega)] at m1
        by_cases q:i = N
        · subst q;exact .inr ⟨m,m1,m2⟩
        · refine .inl ⟨i,by omega,m,m1,?_⟩
          rw [m2,hr,idx_pre (h1 i (by omega) m m1)]
    · rw [hlow i (by omega)]
      have hl:=zaly X N
      show nth ((ixE X N).a ++ [mvAc X (nth (ixE X N).l N)]) i = _
      by_cases q:i = N
      · subst q;rw [nth_app hl.symm];rfl
      · rw [Vg (by omega)];exact h3 i (by omega)

theorem oft_and {p q:Nat → Prop} (hp:Oft p):(∀ t,p t → ∃ s,t ≤ s ∧ q s) → Oft q:=fun h N=>by
  obtain ⟨t,h1,h2⟩:=hp N
  obtain ⟨s,h3,h4⟩:=h t h2
  exact ⟨s,by omega,h4⟩
theorem sacc_ixE {X:IxP} (hX:X.Ok) {w:Nat → Int} (hw:∀ t,Oct (w t)):SAcc (ixE X (ixN X)).a (ups (ixI X).length) (ixE X (ixN X)).e w ↔ SAcc X.b X.a X.c w ∧ SAcc X.b' X.a' X.c' w:=by
  obtain ⟨hU,_⟩:=ixN_spec hX
  have hN:=ixN_len hX
  obtain ⟨m1,m2,m3⟩:=ixE_mem hX (ixN X) hU
  have hok:=ixE_ok hX (ixN X) hU
  obtain ⟨r0,hr0⟩:=(ixE_preN X 0 (ixN X)).1
  rw [Nat.zero_add] at hr0
  generalize hLL:(ixE X (ixN X)).l = L at *
  generalize hEE:(ixE X (ixN X)).e = E at *
  generalize hAA:(ixE X (ixN X)).a = A at *
  generalize hNN:ixN X = N at *
  have hI:(ixE X 0).l = ixI X:=rfl
  rw [hI] at hr0
  have hiI:∀ i,i < (ixI X).length → nth L i = nth (ixI X) i:=fun i hi=>by rw [hr0];exact Vg hi
  have hIl:(ixI X).length ≤ N:=by rw [← hN,hr0];simp
  have hmI:∀ t,t ∈ ixI X ↔ ∃ p q,p ∈ X.a ∧ q ∈ X.a' ∧ t = [p,q,0]:=fun t=>by
    simp only [ixI,ixIk,ixIin,List.take_length,List.mem_flatMap,List.mem_map]
    constructor
    · rintro ⟨p,hp,q,hq,rfl⟩;exact ⟨p,q,hp,hq,rfl⟩
    · rintro ⟨p,q,hp,hq,rfl⟩;exact ⟨p,hp,q,hq,rfl⟩
  constructor
  · rintro ⟨r,s0,s1,s2⟩
    -- the states
    have hr:∀ t,∃ i:Nat,r t = (i:Int) ∧ i < N:=fun t=>by
      cases t with
      | zero =>
        simp only [ups,List.mem_map,List.mem_range] at s0
        obtain ⟨i,hi,e⟩:=s0
        exact ⟨i,e.symm,by omega⟩
      | succ t =>
        obtain ⟨e,e1,e2,e3,e4⟩:=s1 t
        obtain ⟨i,i1,m,h1,h2⟩:=(m2 e).1 e1
        refine ⟨L.idxOf (mvT m),by rw [← e3,h2],?_⟩
        rw [← hN]
        exact List.idxOf_lt_length_of_mem (m1 i i1 m h1)
    have step:∀ t,∃ e f,e ∈ X.c ∧ f ∈ X.c' ∧ mvOn (nth L (r t).toNat) e f = true ∧ nth L (r (t + 1)).toNat = mvT (mvE (mvPh X (nth L (r t).toNat)) e f) ∧ tk (w t) e = true ∧ tk (w t) f = true:=fun t=>by
      obtain ⟨d,e1,e2,e3,e4⟩:=s1 t
      obtain ⟨i,i1,m,h1,h2⟩:=(m2 d).1 e1
      obtain ⟨e,f,k1,k2,k3,k4⟩:=mem_mvs.1 h1
      have hi:(r t).toNat = i:=by rw [← e2,h2];simp
      have hj:(r (t + 1)).toNat = L.idxOf (mvT m):=by rw [← e3,h2];simp
      have hmem:=m1 i i1 m h1
      rw [hi,hj]
      have hk3:=k3
      simp only [mvOn,Bool.and_eq_true,decide_eq_true_eq] at hk3
      have htk:=(tk_fit ((Jt hX.1).2.2 e k1) ((Jt hX.2).2.2 f k2) (hw t) (mvPh X (nth L i)) (i:Int) (L.idxOf (mvT m):Int)).1 ⟨hk3.2.2,by rw [h2,k4] at e4;rw [k4];exact e4⟩
      refine ⟨e,f,k1,k2,k3,?_,htk⟩
      rw [Qy (List.idxOf_lt_length_of_mem hmem),List.getElem_idxOf,k4]
    let ra:Nat → Int:=fun t=>nth (nth L (r t).toNat) 0
    let rb:Nat → Int:=fun t=>nth (nth L (r t).toNat) 1
    let ph:Nat → Int:=fun t=>nth (nth L (r t).toNat) 2
    have h01:∀ t,ph t = 0 ∨ ph t = 1:=fun t=>by
      obtain ⟨i,hi,hi2⟩:=hr t
      obtain ⟨p,q,f,e,_,_,hf⟩:=hok.2 (nth L (r t).toNat) (Xl (by rw [hi,hN];simpa using hi2))
      show nth (nth L (r t).toNat) 2 = 0 ∨ nth (nth L (r t).toNat) 2 = 1
      rw [e];exact hf
    have hph:∀ t,ph (t + 1) = mvPh X (nth L (r t).toNat):=fun t=>by
      obtain ⟨e,f,_,_,_,h,_⟩:=step t
      show nth (nth L (r (t + 1)).toNat) 2 = _
      rw [h];rfl
    have hacc:∀ t,nth A (r t).toNat = true → ph t = 1 ∧ nth X.b' (rb t).toNat = true:=fun t h=>by
      obtain ⟨i,hi,hi2⟩:=hr t
      rw [m3 _ (by rw [hi];simpa using hi2)] at h
      simpa [mvAc] using h
    have hst:r 0 ∈ ups (ixI X).length:=s0
    obtain ⟨i0,hi0,hi0'⟩:∃ i:Nat,r 0 = (i:Int) ∧ i < (ixI X).length:=by
      simp only [ups,List.mem_map,List.mem_range] at s0
      obtain ⟨i,hi,e⟩:=s0
      exact ⟨i,e.symm,hi⟩
    have hin:nth L (r 0).toNat ∈ ixI X:=by rw [hi0,Int.toNat_natCast,hiI i0 hi0'];exact Xl hi0'
    obtain ⟨p0,q0,hp0,hq0,e0⟩:=(hmI _).1 hin
    refine ⟨⟨ra,?_,fun t=>?_,?_⟩,rb,?_,fun t=>?_,?_⟩
    · show nth (nth L (r 0).toNat) 0 ∈ X.a
      rw [e0];exact hp0
    · obtain ⟨e,f,k1,k2,k3,k4,k5,k6⟩:=step t
      simp only [mvOn,Bool.and_eq_true,decide_eq_true_eq] at k3
      refine ⟨e,k1,k3.1,?_,k5⟩
      show e.2.2.2 = nth (nth L (r (t + 1)).toNat) 0
      rw [k4];rfl
    · refine oft_and s2 fun t ht=>?_
      obtain ⟨f1,hb⟩:=hacc t ht
      -- behind t the phase is 0, and later 1 again
      have f0:ph (t + 1) = 0:=by
        rw [hph t]
        unfold mvPh
        have g1:nth (nth L (r t).toNat) 2 = 1:=f1
        have g2:nth X.b' (nth (nth L (r t).toNat) 1).toNat = true:=hb
        rw [if_neg (by rw [g1];omega),if_pos ⟨g1,g2⟩]
      obtain ⟨t2,ht2,hacc2⟩:=s2 (t + 1)
      obtain ⟨g1,_⟩:=hacc t2 hacc2
      have turn:∀ d,ph (t + 1 + d) = 1 → ∃ s,t + 1 ≤ s ∧ nth X.b (ra s).toNat = true:=by
        intro d
        induction d with
        | zero=>intro h;rw [Nat.add_zero,f0] at h;omega
        | succ d ih =>
          intro h
          rcases h01 (t + 1 + d) with q | q
          · refine ⟨t + 1 + d,by omega,?_⟩
            have h2:=hph (t + 1 + d)
            rw [show t + 1 + (d + 1) = t + 1 + d + 1 from rfl,h2] at h
            unfold mvPh at h
            have q':nth (nth L (r (t + 1 + d)).toNat) 2 = 0:=q
            by_cases c:nth X.b (nth (nth L (r (t + 1 + d)).toNat) 0).toNat = true
            · exact c
            · rw [if_neg (fun z=>c z.2),if_neg (fun z=>by rw [q'] at z;exact absurd z.1 (by omega)),q'] at h
              omega
          · exact ih q
      obtain ⟨s,hs1,hs2⟩:=turn (t2 - (t + 1)) (by rw [show t + 1 + (t2 - (t + 1)) = t2 by omega];exact g1)
      exact ⟨s,by omega,hs2⟩
    · show nth (nth L (r 0).toNat) 1 ∈ X.a'
      rw [e0];exact hq0
    · obtain ⟨e,f,k1,k2,k3,k4,k5,k6⟩:=step t
      simp only [mvOn,Bool.and_eq_true,decide_eq_true_eq] at k3
      refine ⟨f,k2,k3.2.1,?_,k6⟩
      show f.2.2.2 = nth (nth L (r (t + 1)).toNat) 1
      rw [k4];rfl
    · exact s2.mono fun t ht=>(hacc t ht).2
  · rintro ⟨⟨ra,a0,a1,a2⟩,rb,b0,b1,b2⟩
    let ph:Nat → Int:=fun t=>Nat.rec (motive:=fun _=>Int) 0 (fun t f=>mvPh X [ra t,rb t,f]) t
    have hph:∀ t,ph (t + 1) = mvPh X [ra t,rb t,ph t]:=fun t=>rfl
    let T:Nat → List Int:=fun t=>[ra t,rb t,ph t]
    have move:∀ t,∃ e f,e ∈ X.c ∧ f ∈ X.c' ∧ mvOn (T t) e f = true ∧ T (t + 1) = mvT (mvE (mvPh X (T t)) e f) ∧ tk (w t) e = true ∧ tk (w t) f = true ∧ fitE e f = true:=fun t=>by
      obtain ⟨e,e1,e2,e3,e4⟩:=a1 t
      obtain ⟨f,f1,f2,f3,f4⟩:=b1 t
      have hfit:=((tk_fit ((Jt hX.1).2.2 e e1) ((Jt hX.2).2.2 f f1) (hw t) 0 0 0).2 ⟨e4,f4⟩).1
      refine ⟨e,f,e1,f1,?_,?_,e4,f4,hfit⟩
      · simp only [mvOn,Bool.and_eq_true,decide_eq_true_eq];exact ⟨e2,f2,hfit⟩
      · show [ra (t + 1),rb (t + 1),ph (t + 1)] = [e.2.2.2,f.2.2.2,mvPh X (T t)]
        rw [e3,f3]
    have hT:∀ t,T t ∈ L:=by
      intro t
      induction t with
      | zero =>
        rw [hr0]
        exact List.mem_append_left _ ((hmI _).2 ⟨ra 0,rb 0,a0,b0,rfl⟩)
      | succ t ih =>
        obtain ⟨e,f,k1,k2,k3,k4,_⟩:=move t
        have hlt:=List.idxOf_lt_length_of_mem ih
        have hnt:nth L (L.idxOf (T t)) = T t:=by rw [Qy hlt,List.getElem_idxOf]
        rw [k4]
        exact m1 (L.idxOf (T t)) (by omega) _ (by rw [hnt];exact mem_mvs.2 ⟨e,f,k1,k2,k3,rfl⟩)
    have hidx:∀ t,L.idxOf (T t) < N ∧ nth L (L.idxOf (T t)) = T t:=fun t=>by
      have hlt:=List.idxOf_lt_length_of_mem (hT t)
      exact ⟨by omega,by rw [Qy hlt,List.getElem_idxOf]⟩
    have h01:∀ t,ph t = 0 ∨ ph t = 1:=by
      intro t
      cases t with
      | zero=>exact .inl rfl
      | succ t =>
        rw [hph]
        induction t with
        | zero=>exact mvPh_01 (.inl rfl)
        | succ t ih=>exact mvPh_01 (by rw [show nth [ra (t + 1),rb (t + 1),ph (t + 1)] 2 = ph (t + 1) from rfl,hph];exact ih)
    refine ⟨fun t=>(L.idxOf (T t):Int),?_,fun t=>?_,?_⟩
    · show (L.idxOf (T 0):Int) ∈ ups (ixI X).length
      have hm:T 0 ∈ ixI X:=(hmI _).2 ⟨ra 0,rb 0,a0,b0,rfl⟩
      have hl:=List.idxOf_lt_length_of_mem hm
      have e:L.idxOf (T 0) = (ixI X).idxOf (T 0):=by rw [hr0,idx_pre hm]
      rw [e]
      simp only [ups,List.mem_map,List.mem_range]
      exact ⟨_,hl,rfl⟩
    · obtain ⟨e,f,k1,k2,k3,k4,k5,k6,k7⟩:=move t
      obtain ⟨i1,i2⟩:=hidx t
      refine ⟨((L.idxOf (T t):Int),(mvE (mvPh X (T t)) e f).1,(mvE (mvPh X (T t)) e f).2.1,(L.idxOf (T (t + 1)):Int)),?_,rfl,rfl,?_⟩
      · exact (m2 _).2 ⟨L.idxOf (T t),i1,mvE (mvPh X (T t)) e f,by rw [i2];exact mem_mvs.2 ⟨e,f,k1,k2,k3,rfl⟩,by rw [k4]⟩
      · exact ((tk_fit ((Jt hX.1).2.2 e k1) ((Jt hX.2).2.2 f k2) (hw t) (mvPh X (T t)) _ _).2 ⟨k5,k6⟩).2
    · have key:∀ t,nth A (L.idxOf (T t)) = true ↔ ph t = 1 ∧ nth X.b' (rb t).toNat = true:=fun t=>by
        rw [m3 _ (hidx t).1,(hidx t).2]
        simp [mvAc,T,nth]
      have one:Oft fun t=>ph t = 1:=oft_and a2 fun t ht=>by
        rcases h01 t with q | q
        · refine ⟨t + 1,by omega,?_⟩
          show ph (t + 1) = 1
          rw [hph]
          unfold mvPh
          rw [if_pos ⟨q,ht⟩]
        · exact ⟨t,Nat.le_refl _,q⟩
      refine Oft.mono (p:=fun t=>ph t = 1 ∧ nth X.b' (rb t).toNat = true) ?_ fun t ht=>by
        show nth A ((L.idxOf (T t):Int)).toNat = true
        rw [Int.toNat_natCast];exact (key t).2 ht
      refine oft_and one fun s hs=>?_
      obtain ⟨t,ht1,ht2⟩:=b2 s
      have run:∀ d,(∃ u,s ≤ u ∧ ph u = 1 ∧ nth X.b' (rb u).toNat = true) ∨ ph (s + d) = 1:=by
        intro d
        induction d with
        | zero=>exact .inr hs
        | succ d ih =>
          rcases ih with q | q
          · exact .inl q
          · by_cases c:nth X.b' (rb (s + d)).toNat = true
            · exact .inl ⟨s + d,by omega,q,c⟩
            · right
              rw [show s + (d + 1) = s + d + 1 from rfl,hph]
              unfold mvPh
              have e2:nth [ra (s + d),rb (s + d),ph (s + d)] 2 = ph (s + d):=rfl
              have e1:nth [ra (s + d),rb (s + d),ph (s + d)] 1 = rb (s + d):=rfl
              rw [e2,e1,if_neg (fun z=>by rw [q] at z;exact absurd z.1 (by omega)),if_neg (fun z=>c z.2)]
              exact q
      rcases run (t - s) with ⟨u,u1,u2⟩ | q
      · exact ⟨u,u1,u2⟩
      · rw [show s + (t - s) = t by omega] at q
        exact ⟨t,ht1,q,ht2⟩
theorem acR_ix {X:IxP} (hX:X.Ok) (hG:Zd X) (s l:List Int):acR (ups (ixI X).length) (ixF X).a (ixF X).e s l = (acR X.a X.b X.c s l && acR X.a' X.b' X.c' s l):=by
  by_cases hL:LasOk s l
  · have hw:∀ t,Oct (ltr s l t):=fun t=>by
      have hp:=plc_lt (a:=s) (b:=l) (by have:=hL.2.2.2.1;omega) t
      show Oct (nth (s ++ l) (plc s l t))
      rcases Nat.lt_or_ge (plc s l t) s.length with q | q
      · rw [Vg q];exact hL.1 _ q
      · rw [nth_appK q];exact hL.2.1 _ (by omega)
    rw [acR_sem hG hL,acR_sem hX.1 hL,acR_sem hX.2 hL,Bool.eq_iff_iff,B_iff,Bool.and_eq_true,B_iff,B_iff,← sacc_ixE hX hw]
    by_cases hI:ixI X = []
    · obtain ⟨e1,_,e2⟩:=ix_none hX hI
      rw [e1,e2,hI]
      constructor
      · rintro ⟨r,r0,_⟩;simp [ups] at r0
      · rintro ⟨r,r0,_⟩;simp [ups] at r0
    · rw [show ixF X = ixE X (ixN X) from if_neg hI]
  · rw [acR_las hL,acR_las hL,acR_las hL];rfl
end Go.Proofs.Ytnfldmfamnhpcaa.Vm

