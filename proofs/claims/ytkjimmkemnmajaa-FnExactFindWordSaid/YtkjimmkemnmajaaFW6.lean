import Derived.Test.YtkjimmkemnmajaaFW3
/-
  FindWord, plain: the search's tree read back; what follows a state on a cycle. No conditions.
-/
namespace Go.Proofs.Ytkjimmkemnmajaa.Vm
open Go
open Nat renaming sub_pos_of_lt → zsP
open List renaming getD_eq_getElem?_getD → zg,drop_one → zd,replicate → zrP
open Ne renaming symm → zS
noncomputable section
set_option linter.unusedVariables false
set_option linter.unusedSimpArgs false
set_option maxRecDepth 200000

theorem via_tree {n:Nat} {es:List Tr4} (hr:InRng n es) {ss:List Int} (hS:Starts n ss):∀ m,m < (bfsE (nxE n es es.length) ss).2.length → ∀ f d,m + 2 ≤ f → m ≤ d →
    Dn es (viaP es (bfsE (nxE n es es.length) ss).1) d (nth (bfsE (nxE n es es.length) ss).2 m) ∧ bk es (viaP es (bfsE (nxE n es es.length) ss).1) d (nth (bfsE (nxE n es es.length) ss).2 m) = vals es (up (bfsE (nxE n es es.length) ss).1 f (nth (bfsE (nxE n es es.length) ss).2 m)).reverse:=by
  have hn:=Xr n es es.length (Nat.le_refl _)
  have hx:=Zk hr
  have hS':Starts (nxE n es es.length).length ss:=by rw [hn];exact hS
  have hB:=Zi hx hS'
  obtain ⟨dd,hd⟩:=bfsE_dp hx hS'
  have hfo:=fun (f t:Int) (q1:Nd (nxE n es es.length) f) (q2:t ∈ nth (nxE n es es.length) f.toNat)=>firstE_ok hr q1 q2
  obtain ⟨nx,hnx⟩:∃ nx,nxE n es es.length = nx:=⟨_,rfl⟩
  simp only [hnx] at hn hx hS' hB hd hfo ⊢
  obtain ⟨⟨P,Q⟩,hPQ⟩:∃ s,bfsE nx ss = s:=⟨_,rfl⟩
  rw [hPQ] at hB hd
  simp only [hPQ]
  intro m
  induction m using Nat.strongRecOn with
  | _ m ih =>
  intro hm f d hf hd'
  obtain ⟨x0,x1⟩:=hB.rng m hm
  have hPl:=hB.len
  dsimp only at x0 x1 hPl hm
  have hxt:(nth Q m).toNat < P.length:=by omega
  have hv:=nth_viaP (es:=es) (P:=P) hxt
  have hvl:=Ja es P
  rcases Nat.lt_or_ge m ss.length with e | e
  · have h0:=hB.par0 m e
    dsimp only at h0
    rw [if_pos (by omega)] at hv
    refine ⟨?_,?_⟩
    · cases d with
      | zero=>exact ⟨⟨x0,by omega⟩,by omega⟩
      | succ d=>exact ⟨⟨x0,by omega⟩,fun q=>by omega⟩
    · obtain ⟨f,rfl⟩:∃ x,f = x + 1:=⟨f - 1,by omega⟩
      rw [bk_root (by omega),vals_root es x0 (by omega)]
  · obtain ⟨k,q1,q2,q3,q4⟩:=hd.dp m e hm
    dsimp only at q2 q4
    obtain ⟨u0,u1⟩:=hB.rng k (by dsimp only;omega)
    dsimp only at u0 u1
    obtain ⟨c1,c2,c3,c4⟩:=hfo (nth Q k) (nth Q m) ⟨u0,u1⟩ q4
    rw [q2,if_neg (by omega),Int.toNat_of_nonneg x0] at hv
    obtain ⟨d,rfl⟩:∃ y,d = y + 1:=⟨d - 1,by omega⟩
    obtain ⟨f,rfl⟩:∃ y,f = y + 2:=⟨f - 2,by omega⟩
    obtain ⟨i1,i2⟩:=ih k q1 (by omega) (f + 1) d (by omega) (by omega)
    refine ⟨⟨⟨x0,by omega⟩,fun q=>⟨by rw [hv];omega,by rw [hv,c3];exact i1⟩⟩,?_⟩
    rw [bk,if_neg (by omega),hv,c3,vals_up es x0 (by rw [q2];exact u0),q2,← i2]
    rfl
theorem via_back {n:Nat} {es:List Tr4} (hr:InRng n es) {ss:List Int} (hS:Starts n ss) {m:Nat} (hm:m < (bfsE (nxE n es es.length) ss).2.length) :
    (viaP es (bfsE (nxE n es es.length) ss).1).length = n ∧ Dn es (viaP es (bfsE (nxE n es es.length) ss).1) (viaP es (bfsE (nxE n es es.length) ss).1).length (nth (bfsE (nxE n es es.length) ss).2 m) ∧ bk es (viaP es (bfsE (nxE n es es.length) ss).1) (viaP es (bfsE (nxE n es es.length) ss).1).length (nth (bfsE (nxE n es es.length) ss).2 m) = vals es (up (bfsE (nxE n es es.length) ss).1 ((nxE n es es.length).length + 1) (nth (bfsE (nxE n es es.length) ss).2 m)).reverse:=by
  have hn:=Xr n es es.length (Nat.le_refl _)
  have hS':Starts (nxE n es es.length).length ss:=by rw [hn];exact hS
  have hB:=Zi (Zk hr) hS'
  have hl:=Ja es (bfsE (nxE n es es.length) ss).1
  have hl2:=hB.len
  have hle:=hB.le
  refine ⟨by omega,via_tree hr hS m hm _ _ (by omega) (by omega)⟩
def arG (nx:List (List Int)) (s:Int) (n:Int):Bool:=!decide (n = s) && decide (s ∈ nth nx n.toNat)
def arL (nx:List (List Int)) (s:Int):List Int:=if s ∈ nth nx s.toNat then [s] else shW nx [s] (arG nx s)
theorem Rch.last {nx:List (List Int)} {x y:Int} (h:Rch nx x y):x = y ∨ ∃ q,Rch nx x q ∧ y ∈ nth nx q.toNat:=by
  induction h with
  | refl x=>exact .inl rfl
  | step h k ih =>
    rcases ih with rfl | ⟨q,q1,q2⟩
    · exact .inr ⟨_,.refl _,h⟩
    · exact .inr ⟨q,.step h q1,q2⟩
theorem shW_ne {nx:List (List Int)} (hx:Qz nx) {ss:List Int} (hS:Starts nx.length ss) {g:Int → Bool}:¬ shW nx ss g = [] ↔ ∃ m,m < (bfsE nx ss).2.length ∧ g (nth (bfsE nx ss).2 m) = true ∧ NoneTill (fun i=>g (nth (bfsE nx ss).2 i)) m:=by
  have hB:=Zi hx hS
  constructor
  · intro h
    have h0:0 ≤ findI g (bfsE nx ss).2:=Classical.byContradiction fun q=>h (by rw [shW,if_pos (by omega)])
    unfold findI at h0
    split at h0
    · rename_i i hi
      rw [List.findIdx?_eq_some_iff_getElem] at hi
      obtain ⟨q1,q2,q3⟩:=hi
      exact ⟨i,q1,by rw [Qm q1];exact q2,fun j hj=>by
        have:=q3 j hj
        dsimp only
        rw [Qm (by omega)];simpa using this⟩
    · omega
  · rintro ⟨m,m1,m2,m3⟩
    rw [shW_at m3 m1 m2]
    exact up_ne (hB.rng m m1).1
theorem Starts.one' {n:Nat} {x:Int} (h0:0 ≤ x) (h1:x < n):Starts n [x]:=⟨by intro y hy;simp at hy;subst hy;exact ⟨h0,h1⟩,by simp⟩
theorem arL_cyc {nx:List (List Int)} (hx:Qz nx) {s:Int} (hs:Nd nx s):¬ arL nx s = [] ↔ Cyc nx s:=by
  have hS:=Starts.one' hs.1 hs.2
  unfold arL
  by_cases e:s ∈ nth nx s.toNat
  · rw [if_pos e]
    exact ⟨fun _=>⟨s,e,.refl _⟩,fun _=>by simp⟩
  · rw [if_neg e,shW_ne hx hS]
    constructor
    · rintro ⟨m,m1,m2,m3⟩
      have hr:RchS nx [s] (nth (bfsE nx [s]).2 m):=(bfs_rchS hx hS).1 (Xl m1)
      obtain ⟨z,z1,z2⟩:=hr
      simp at z1
      subst z1
      simp only [arG,Bool.and_eq_true,Bool.not_eq_true',decide_eq_false_iff_not,decide_eq_true_eq] at m2
      rcases z2.cases' with q | ⟨w,w1,w2⟩
      · exact absurd q.symm m2.1
      · exact ⟨w,w1,w2.trans (Rch.edge m2.2)⟩
    · rintro ⟨y,y1,y2⟩
      rcases y2.last with rfl | ⟨q,q1,q2⟩
      · exact absurd y1 e
      · have hq:q ∈ (bfsE nx [s]).2:=(bfs_rchS hx hS).2 ⟨s,by simp,.step y1 q1⟩
        have hne:¬ q = s:=fun h=>e (h ▸ q2)
        have h0:0 ≤ findI (arG nx s) (bfsE nx [s]).2:=by
          obtain ⟨i,i1,i2⟩:=Jv hq
          rw [zahk];exact ⟨i,i1,by rw [i2];simp [arG,hne,q2]⟩
        unfold findI at h0
        split at h0
        · rename_i i hi
          rw [List.findIdx?_eq_some_iff_getElem] at hi
          obtain ⟨q1,q2,q3⟩:=hi
          exact ⟨i,q1,by rw [Qm q1];exact q2,fun j hj=>by
            have:=q3 j hj
            dsimp only
            rw [Qm (by omega)];simpa using this⟩
        · omega
theorem arL_one {nx:List (List Int)} {s:Int} (e:s ∈ nth nx s.toNat):arL nx s = [s]:=by rw [arL,if_pos e]
theorem arG_no {nx:List (List Int)} {s:Int} (e:¬ s ∈ nth nx s.toNat) (n:Int):arG nx s n = decide (s ∈ nth nx n.toNat):=by
  by_cases h:n = s
  · subst h;simp [arG,e]
  · simp [arG,h]
theorem vals_pair (es:List Tr4) (s:Int):vals es [s,s] = [valE es s s]:=rfl
theorem has_edge {n:Nat} {es:List Tr4} (hr:InRng n es) {q s:Int} (hq:Nd (nxE n es es.length) q):s ∈ nth (nxE n es es.length) q.toNat ↔ ∃ k,k < es.length ∧ isE q s (nth es k) = true:=by
  have hn:=Xr n es es.length (Nat.le_refl _)
  have h0:=hq.1
  have h1:=hq.2
  rw [nxE_mem hr es.length (Nat.le_refl _) q.toNat (by omega)]
  constructor
  · rintro ⟨j,j1,j2,j3⟩
    exact ⟨j,j1,by simp [isE,j3];omega⟩
  · rintro ⟨j,j1,j2⟩
    simp [isE] at j2
    exact ⟨j,j1,by omega,j2.2⟩
theorem valE_at {es:List Tr4} {q s:Int} {k:Nat} (hk:k < es.length) (hn:NoneTill (fun i=>isE q s (nth es i)) k) (he:isE q s (nth es k) = true):valE es q s = (nth es k).2.2.1:=by
  unfold valE Jd
  rw [zadr hn hk he];simp
theorem vals_arL {es:List Tr4} {nx:List (List Int)} {s:Int} {P:List Int} {f:Nat} {q:Int} (h0:0 ≤ q) (h:shW nx [s] (arG nx s) = (up P (f + 1) q).reverse) (e:¬ s ∈ nth nx s.toNat):vals es (arL nx s ++ [s]) = vals es (up P (f + 1) q).reverse ++ [valE es q s]:=by
  have e1:arL nx s = (up P (f + 1) q).reverse:=by rw [arL,if_neg e,h]
  rw [e1]
  have e2:=up_cons (P:=P) (f:=f) h0
  have hl:0 < (up P (f + 1) q).reverse.length:=by rw [e2];simp
  rw [vals_snoc es hl]
  congr 3
  rw [e2,List.reverse_cons,List.length_append,List.length_singleton,Nat.add_sub_cancel,Zx]
def fwG (nx:List (List Int)) (acc:List Bool) (x:Int):Bool:=nth acc x.toNat && Vm.B (Cyc nx x)
def fwI (nx:List (List Int)) (acc:List Bool) (ss:List Int):Int:=findI (fwG nx acc) (bfsE nx ss).2
def fwT (nx:List (List Int)) (acc:List Bool) (ss:List Int):Int:=nth (bfsE nx ss).2 (fwI nx acc ss).toNat
def fwS (es:List Tr4) (nx:List (List Int)) (acc:List Bool) (ss:List Int):List Int:=if fwI nx acc ss < 0 then [] else vals es (shW nx ss (fun z=>decide (z = fwT nx acc ss)))
def fwL (es:List Tr4) (nx:List (List Int)) (acc:List Bool) (ss:List Int):List Int:=if fwI nx acc ss < 0 then [] else vals es (arL nx (fwT nx acc ss) ++ [fwT nx acc ss])
theorem fwI_at {nx:List (List Int)} {acc:List Bool} {ss:List Int} {k:Nat} (hk:k < (bfsE nx ss).2.length) (hn:NoneTill (fun i=>fwG nx acc (nth (bfsE nx ss).2 i)) k) (he:fwG nx acc (nth (bfsE nx ss).2 k) = true):fwI nx acc ss = (k:Int) ∧ fwT nx acc ss = nth (bfsE nx ss).2 k:=by
  have h:fwI nx acc ss = (k:Int):=zadr hn hk he
  exact ⟨h,by rw [fwT,h,Int.toNat_natCast]⟩
theorem fwI_none {nx:List (List Int)} {acc:List Bool} {ss:List Int} {k:Nat} (hk:(bfsE nx ss).2.length ≤ k) (hn:NoneTill (fun i=>fwG nx acc (nth (bfsE nx ss).2 i)) k):fwI nx acc ss < 0:=by
  have h:fwI nx acc ss = -1:=zacc hn hk
  omega
theorem shW_to {nx:List (List Int)} (hx:Qz nx) {ss:List Int} (hS:Starts nx.length ss) {m:Nat} (hm:m < (bfsE nx ss).2.length):∃ k,k < (bfsE nx ss).2.length ∧ nth (bfsE nx ss).2 k = nth (bfsE nx ss).2 m ∧ shW nx ss (fun z=>decide (z = nth (bfsE nx ss).2 m)) = (up (bfsE nx ss).1 (nx.length + 1) (nth (bfsE nx ss).2 k)).reverse:=by
  have h:¬ shW nx ss (fun z=>decide (z = nth (bfsE nx ss).2 m)) = []:=by
    have h0:0 ≤ findI (fun z=>decide (z = nth (bfsE nx ss).2 m)) (bfsE nx ss).2:=by
      rw [zahk];exact ⟨m,hm,by simp⟩
    have hB:=Zi hx hS
    unfold findI at h0
    split at h0
    · rename_i i hi
      rw [List.findIdx?_eq_some_iff_getElem] at hi
      obtain ⟨q1,q2,q3⟩:=hi
      exact (shW_ne hx hS).2 ⟨i,q1,by rw [Qm q1];exact q2,fun j hj=>by
        have:=q3 j hj
        dsimp only
        rw [Qm (by omega)];simpa using this⟩
    · omega
  obtain ⟨k,k1,k2,k3⟩:=(shW_ne hx hS).1 h
  exact ⟨k,k1,by simpa using k2,shW_at k3 k1 k2⟩

def cyA (es:List Tr4) (nx:List (List Int)) (s:Int):List Int:=if arL nx s = [] then [] else vals es (arL nx s ++ [s])
theorem isE_no {f t:Int} {e:Tr4} (h:¬ e.1 = f ∨ ¬ e.2.2.2 = t):isE f t e = false:=by
  unfold isE
  rw [Bool.and_eq_false_iff,decide_eq_false_iff_not,decide_eq_false_iff_not];exact h
theorem isE_yes {f t:Int} {e:Tr4} (h1:e.1 = f) (h2:e.2.2.2 = t):isE f t e = true:=by simp [isE,h1,h2]
theorem no_edge {n:Nat} {es:List Tr4} (hr:InRng n es) {q s:Int} (hq:Nd (nxE n es es.length) q) {k:Nat} (hk:es.length ≤ k) (hn:NoneTill (fun j=>isE q s (nth es j)) k):¬ s ∈ nth (nxE n es es.length) q.toNat:=fun h=>by
  obtain ⟨j,j1,j2⟩:=(has_edge hr hq).1 h
  have:=hn j (by omega)
  dsimp only at this
  rw [this] at j2;cases j2
theorem cyA_one {n:Nat} {es:List Tr4} (hr:InRng n es) {s:Int} (hs:Nd (nxE n es es.length) s) {k:Nat} (hk:k < es.length) (hn:NoneTill (fun j=>isE s s (nth es j)) k) (h1:(nth es k).1 = s) (h2:(nth es k).2.2.2 = s):cyA es (nxE n es es.length) s = [(nth es k).2.2.1]:=by
  have he:=isE_yes h1 h2
  have hm:=(has_edge hr hs).2 ⟨k,hk,he⟩
  unfold cyA
  rw [arL_one hm,if_neg (by simp)]
  show vals es [s,s] = _
  rw [vals_pair,valE_at hk hn he]
theorem cyA_no {n:Nat} {es:List Tr4} (hr:InRng n es) {s:Int} (hs:Nd (nxE n es es.length) s) {k i:Nat} (hk:es.length ≤ k) (hn:NoneTill (fun j=>isE s s (nth es j)) k) (hi:(bfsE (nxE n es es.length) [s]).2.length ≤ i) (hg:NoneTill (fun j=>arG (nxE n es es.length) s (nth (bfsE (nxE n es es.length) [s]).2 j)) i):cyA es (nxE n es es.length) s = []:=by
  have h:=no_edge hr hs hk hn
  unfold cyA
  rw [arL,if_neg h,zagn hg hi,if_pos rfl]
theorem cyA_two {n:Nat} {es:List Tr4} (hr:InRng n es) {s:Int} (hs:Nd (nxE n es es.length) s) {k i j:Nat} (hk:es.length ≤ k) (hn:NoneTill (fun j=>isE s s (nth es j)) k) (hi:i < (bfsE (nxE n es es.length) [s]).2.length) (hg:NoneTill (fun j=>arG (nxE n es es.length) s (nth (bfsE (nxE n es es.length) [s]).2 j)) i)
    (hj:j < es.length) (hm:NoneTill (fun k=>isE (nth (bfsE (nxE n es es.length) [s]).2 i) s (nth es k)) j) (h1:(nth es j).1 = nth (bfsE (nxE n es es.length) [s]).2 i) (h2:(nth es j).2.2.2 = s) :
    cyA es (nxE n es es.length) s = bk es (viaP es (bfsE (nxE n es es.length) [s]).1) (viaP es (bfsE (nxE n es es.length) [s]).1).length (nth (bfsE (nxE n es es.length) [s]).2 i) ++ [(nth es j).2.2.1]:=by
  have h:=no_edge hr hs hk hn
  have hnl:=Xr n es es.length (Nat.le_refl _)
  have hS:=Starts.one' hs.1 hs.2
  have hB:=Zi (Zk hr) hS
  have hq:=hB.rng i hi
  have he:=isE_yes h1 h2
  have hmem:=(has_edge hr (q:=nth (bfsE (nxE n es es.length) [s]).2 i) hq).2 ⟨j,hj,he⟩
  have hgt:arG (nxE n es es.length) s (nth (bfsE (nxE n es es.length) [s]).2 i) = true:=by rw [arG_no h];simpa using hmem
  have hsh:=shW_at hg hi hgt
  have hv:=vals_arL (es:=es) hq.1 hsh h
  have hne:¬ arL (nxE n es es.length) s = []:=by
    rw [arL,if_neg h,hsh];exact up_ne hq.1
  obtain ⟨v1,v2,v3⟩:=via_back hr (ss:=[s]) (by rw [← hnl];exact hS) hi
  unfold cyA
  rw [if_neg hne,hv,v3,valE_at hj hm he]
theorem cyA_len {n:Nat} {es:List Tr4} (hr:InRng n es) {s:Int} (hs:Nd (nxE n es es.length) s):(cyA es (nxE n es es.length) s).length ≤ n:=by
  have hnl:=Xr n es es.length (Nat.le_refl _)
  unfold cyA
  split
  · simp
  · rename_i h
    have hc:=(arL_cyc (Zk hr) hs).1 h
    have hS:=Starts.one' hs.1 hs.2
    rw [Zo,List.length_append,List.length_singleton,Nat.add_sub_cancel]
    unfold arL at h ⊢
    split
    · have:=hs.1;have:=hs.2;simp;omega
    · rename_i h2
      rw [if_neg h2] at h
      obtain ⟨m,m1,m2,m3⟩:=(shW_ne (Zk hr) hS).1 h
      rw [shW_at m3 m1 m2,List.length_reverse]
      have hB:=Zi (Zk hr) hS
      have:=up_len hB m m1 ((nxE n es es.length).length + 1)
      have:=hB.le
      omega
theorem arG_at {n:Nat} {es:List Tr4} (hr:InRng n es) {s q:Int} (hs:Nd (nxE n es es.length) s) (hq:Nd (nxE n es es.length) q) {k:Nat} (hk:es.length ≤ k) (hm:NoneTill (fun j=>isE q s (nth es j)) k):arG (nxE n es es.length) s q = false:=by
  have h:=no_edge hr hq hk hm
  unfold arG
  rw [Bool.and_eq_false_iff];right;simpa using h
set_option maxHeartbeats 4000000 in

theorem l7Cycle_pure (a:List Int) (b:List Bool) (c:List Tr4) (s:Int) (hr:InRng b.length c) (hb:b.length ≤ 1048576) (hc:c.length ≤ 1048576) (h0:0 ≤ s) (h1:s < b.length):Pure Try.prog 71 [.st [li cI a,li cB b,li cT c],.int .i64 s] (fr 1 cI (cyA c (nxE b.length c c.length) s)):=by
  refine Pure.of_walk Try.func71 rfl (by simp [Try.f71]) (by simp [-zd,go_sem]) fun B hK=>?_
  have hnl:=Xr b.length c c.length (Nat.le_refl _);have hs:Nd (nxE b.length c c.length) s:=⟨h0,by omega⟩;have hS1:Starts b.length [s]:=Starts.one' h0 h1
  all_goals (repeat' (first
 | refine Qq ?_
 | refine Qc (id:=0) Zg [] (by kernel_rfl) ?_;simp [-zg,-zd,↓Qb,↓Qa,go_sem];try (refine Xa hK 2 ?_;simp [go_sem])
 | refine Qc (id:=1) Zg [] (by kernel_rfl) ?_;simp [-zg,-zd,↓Qb,↓Qa,go_sem]
 | refine Qc (id:=2) Zg [] (by kernel_rfl) ?_;simp [-zg,-zd,↓Qb,↓Qa,go_sem]
 | refine Qc (id:=4) Zg [25] (by kernel_rfl) ?_;simp [-zg,-zd,↓Qb,↓Qa,go_sem,c14,Qk c14,zsP c14];try (refine ⟨fun s4a=>?_,fun s4a=>?_⟩ <;> (try simp [B_iff,B_not] at s4a) <;> try (refine ⟨fun s4b=>?_,fun s4b=>?_⟩ <;> (try simp [B_iff,B_not] at s4b)))
 | ((have hfin:cyA c (nxE b.length c c.length) s = [(nth c k).2.2.1]:=cyA_one hr hs c14 ht (by assumption) (by assumption)));refine Qc (id:=5) Zg [] (by kernel_rfl) ?_;simp [-zg,-zd,↓Qb,↓Qa,go_sem,c14,Qk c14,zsP c14,hfin]
 | refine Qc (id:=3) Zg [] (by kernel_rfl) ?_;simp [-zg,-zd,↓Qb,↓Qa,go_sem,wrapS (k:=k) (by omega)]
 | ((obtain rfl:k = c.length:=by omega);(obtain ⟨Q,hQ⟩:∃ Q,(bfsE (nxE b.length c c.length) [s]).2 = Q:=⟨_,rfl⟩);(obtain ⟨V,hV⟩:∃ V,viaP c (bfsE (nxE b.length c c.length) [s]).1 = V:=⟨_,rfl⟩);(have hback:=fun m hm=>via_back hr hS1 (m:=m) hm);(have hB:=Zi (Zk hr) (Starts.one' hs.1 hs.2));(have hrg:=hB.rng);(have hQl:=hB.le);(have htwo:=fun i j hi hg hj hm h1 h2=>cyA_two hr hs (Nat.le_refl _) ht (i:=i) (j:=j) hi hg hj hm h1 h2);(have hno:=fun i hi hg=>cyA_no hr hs (Nat.le_refl _) ht (i:=i) hi hg);(simp only [hQ,hV] at hback hrg hQl htwo hno);(have hVl:V.length = b.length:=(by rw [← hV,Ja,hB.len,hnl])));refine Qc (id:=6) Zg [] (by kernel_rfl) ?_;simp [-zg,-zd,↓Qb,↓Qa,go_sem,(show Is cI 1 [D.int .i64 s] ↔ True by rw [one_cI,is_cat];simp),(show de cI [D.int .i64 s] = [s] by rw [one_cI,Qw]),hr,hb,hc,hS1,(show 1 ≤ b.length by omega),hQ,hV];try ((refine Xa hK 6 ?_);(refine Xa hK 7 ?_);(simp [go_sem]))
 | refine Qc (id:=7) Zg [] (by kernel_rfl) ?_;simp [-zg,-zd,↓Qb,↓Qa,go_sem]
 | refine Qc (id:=8) Zg [] (by kernel_rfl) ?_;simp [-zg,-zd,↓Qb,↓Qa,go_sem]
 | refine Qc (id:=10) Zg [] (by kernel_rfl) ?_;simp [-zg,-zd,↓Qb,↓Qa,go_sem]
 | refine Qc (id:=11) Zg [] (by kernel_rfl) ?_;simp [-zg,-zd,↓Qb,↓Qa,go_sem]
 | refine Xp (id:=13) Zg mixed [73] [] (by kernel_rfl) (by kernel_rfl) (by simp [-zg,-zd,↓Qb,↓Qa,go_sem,c59,Qk c59,zsP c59,c52,Qk c52,zsP c52]) ?_;simp [-zg,-zd,↓Qb,↓Qa,go_sem,c59,Qk c59,zsP c59,c52,Qk c52,zsP c52];try (refine ⟨fun s13a=>?_,fun s13a=>?_⟩ <;> (try simp [B_iff,B_not] at s13a) <;> try (refine ⟨fun s13b=>?_,fun s13b=>?_⟩ <;> (try simp [B_iff,B_not] at s13b)))
 | ((obtain ⟨v1,v2,v3⟩:=hback i c52);(have hfin:=htwo i k c52 hg c59 hu (by assumption) (by assumption));(have hol:=bk_len c V V.length (nth Q i));(rw [hVl] at v2 hfin hol);(obtain ⟨o,ho⟩:∃ o,bk c V b.length (nth Q i) = o:=⟨_,rfl⟩);(rw [ho] at hfin hol));refine Xp (id:=14) Zg mixed [] [2] (by kernel_rfl) (by kernel_rfl) (by simp [-zg,-zd,↓Qb,↓Qa,go_sem,c59,Qk c59,zsP c59,c52,Qk c52,zsP c52,v2,hVl,hb,ho,hfin,(show V.length ≤ 1048576 by omega),(show o.length + 1 ≤ 9223372036854775807 by omega),(show 2 * (o.length + 1) * 8 ≤ 281474976710656 by omega),(show o.length ≤ 9223372036854775806 by omega)]) ?_;simp [-zg,-zd,↓Qb,↓Qa,go_sem,c59,Qk c59,zsP c59,c52,Qk c52,zsP c52,v2,hVl,hb,ho,hfin,(show V.length ≤ 1048576 by omega),(show o.length + 1 ≤ 9223372036854775807 by omega),(show 2 * (o.length + 1) * 8 ≤ 281474976710656 by omega),(show o.length ≤ 9223372036854775806 by omega)]
 | refine Qc (id:=12) Zg [] (by kernel_rfl) ?_;simp [-zg,-zd,↓Qb,↓Qa,go_sem,wrapS (k:=k) (by omega)]
 | refine Qc (id:=9) Zg [] (by kernel_rfl) ?_;simp [-zg,-zd,↓Qb,↓Qa,go_sem,wrapS (k:=i) (by omega)]
 | ((have hfin:=hno i (by omega) hg));refine Qc (id:=15) Zg [] (by kernel_rfl) ?_;simp [-zg,-zd,↓Qb,↓Qa,go_sem,hfin]
 | refine Qd (c:=.tmp 14) ?_;simp [-zg,-zd,↓Qb,↓Qa,go_sem];try first | (refine ⟨?_,?_⟩ <;> refine zA ?_) | (refine ⟨fun c14=>?_,fun c14=>?_⟩ <;> (try simp [B_iff,B_not] at c14))
 | refine Qd (c:=.tmp 34) ?_;simp [-zg,-zd,↓Qb,↓Qa,go_sem];try first | (refine ⟨?_,?_⟩ <;> refine zA ?_) | (refine ⟨fun c34=>?_,fun c34=>?_⟩ <;> (try simp [B_iff,B_not] at c34))
 | refine Qd (c:=.tmp 52) ?_;simp [-zg,-zd,↓Qb,↓Qa,go_sem];try first | (refine ⟨?_,?_⟩ <;> refine zA ?_) | (refine ⟨fun c52=>?_,fun c52=>?_⟩ <;> (try simp [B_iff,B_not] at c52))
 | refine Qd (c:=.tmp 59) ?_;simp [-zg,-zd,↓Qb,↓Qa,go_sem];try first | (refine ⟨?_,?_⟩ <;> refine zA ?_) | (refine ⟨fun c59=>?_,fun c59=>?_⟩ <;> (try simp [B_iff,B_not] at c59))
 | refine Qd (c:=.tmp 82) ?_;simp [-zg,-zd,↓Qb,↓Qa,go_sem];try first | (refine ⟨?_,?_⟩ <;> refine zA ?_) | (refine ⟨fun c82=>?_,fun c82=>?_⟩ <;> (try simp [B_iff,B_not] at c82))
 | (refine Qf (id:=0) (Qv (ι:=Nat) (fun k:Nat=>⟨(upd (upd (upd (fun _=>.any) 1 (.int .i64 s)) 2 (.pd [li cI a,li cB b,li cT c])) 5 (.int .i64 k)),fun _=>none⟩) (fun k=>k ≤ c.length ∧ NoneTill (fun j=>isE s s (nth c j)) k) (fun k=>c.length - k) (0) ?_ ?_ ?_);exact ⟨Nat.zero_le _,.zero _⟩;((repeat' (first | exact Qg (by assumption) | exact Qi | refine Qj ?_ ?_ | refine Qh ?_)) <;> simp [-zg,-zd,↓Qb,↓Qa,go_sem]);rintro k ⟨hk,ht⟩)
 | (refine ⟨k + 1,⟨by omega,ht.succ (isE_no (by first | (left;assumption) | (right;assumption)))⟩,by first | omega | (simp;done) | (simp;omega),?_⟩;((repeat' (first | exact Qg (by assumption) | exact Qi | refine Qj ?_ ?_ | refine Qh ?_)) <;> simp [-zg,-zd,↓Qb,↓Qa,go_sem]))
 | (refine Qf (id:=2) (Qv (ι:=Nat) (fun i:Nat=>⟨(upd (upd (upd (upd (upd (fun _=>.any) 1 (.int .i64 s)) 2 (.pd [li cI a,li cB b,li cT c])) 6 (li cI V)) 7 (li cI Q)) 8 (.int .i64 i)),fun _=>none⟩) (fun i=>i ≤ Q.length ∧ NoneTill (fun j=>arG (nxE b.length c c.length) s (nth Q j)) i) (fun i=>Q.length - i) (0) ?_ ?_ ?_);exact ⟨Nat.zero_le _,.zero _⟩;((repeat' (first | exact Qg (by assumption) | exact Qi | refine Qj ?_ ?_ | refine Qh ?_)) <;> simp [-zg,-zd,↓Qb,↓Qa,go_sem]);rintro i ⟨hi,hg⟩)
 | (refine ⟨i + 1,⟨by omega,hg.succ (arG_at hr hs (hrg i (by omega)) (by omega) hu)⟩,by first | omega | (simp;done) | (simp;omega),?_⟩;((repeat' (first | exact Qg (by assumption) | exact Qi | refine Qj ?_ ?_ | refine Qh ?_)) <;> simp [-zg,-zd,↓Qb,↓Qa,go_sem]))
 | (refine Qf (id:=4) (Qv (ι:=Nat) (fun k:Nat=>⟨(upd (upd (upd (upd (upd (upd (fun _=>.any) 1 (.int .i64 s)) 2 (.pd [li cI a,li cB b,li cT c])) 6 (li cI V)) 7 (li cI Q)) 8 (.int .i64 i)) 9 (.int .i64 k)),fun _=>none⟩) (fun k=>k ≤ c.length ∧ NoneTill (fun j=>isE (nth Q i) s (nth c j)) k) (fun k=>c.length - k) (0) ?_ ?_ ?_);exact ⟨Nat.zero_le _,.zero _⟩;((repeat' (first | exact Qg (by assumption) | exact Qi | refine Qj ?_ ?_ | refine Qh ?_)) <;> simp [-zg,-zd,↓Qb,↓Qa,go_sem]);rintro k ⟨hk,hu⟩)
 | (refine ⟨k + 1,⟨by omega,hu.succ (isE_no (by first | (left;assumption) | (right;assumption)))⟩,by first | omega | (simp;done) | (simp;omega),?_⟩;((repeat' (first | exact Qg (by assumption) | exact Qi | refine Qj ?_ ?_ | refine Qh ?_)) <;> simp [-zg,-zd,↓Qb,↓Qa,go_sem]))
 | (refine Qf ?_)
 | (refine Qo ?_;simp [-zg,-zd,↓Qb,↓Qa,go_sem])
 | (refine Qn ?_;simp [-zg,-zd,↓Qb,↓Qa,go_sem])
 | (refine Qr ?_;simp [-zg,-zd,↓Qb,↓Qa,go_sem,Try.results71])
 | (intro hx;refine zA ?_)
 | (refine ⟨?_,?_⟩ <;> refine zA ?_)
 | (intro hx;constructor <;> intro hs)
 | (constructor <;> intro hs)
 | (refine ⟨?_,fun hs=>?_⟩;refine zA ?_)
 | (refine ⟨fun hs=>?_,?_⟩;rotate_left;refine zA ?_;rotate_left)))
  all_goals (first
 | (rw [hfin];exact ⟨rfl,rfl⟩)
 | (rw [hfin];simp [fr];done)
 | (rw [hfin])
 | rfl
 | exact Zv _ _
 | skip)
@[go_sem] def zaca:Con:=.pure fun
  | [.st [.list n_a c_a,.list n_b c_b,.list n_c c_c],.int .i64 s]=>((Is cI n_a c_a) ∧ (Is cB n_b c_b) ∧ (Is cT n_c c_c) ∧ (InRng (de cB c_b).length (de cT c_c)) ∧ ((de cB c_b).length ≤ 1048576) ∧ ((de cT c_c).length ≤ 1048576) ∧ (0 ≤ s) ∧ (s < (de cB c_b).length),fr 1 cI (cyA (de cT c_c) (nxE (de cB c_b).length (de cT c_c) (de cT c_c).length) s))
  | _=>(False,.any)
theorem zahe:ConOk Try.prog 71 zaca:=by
  refine ⟨Qs Try.func71 (by decide) rfl,fun args h=>?_⟩
  revert h
  dsimp only
  split
  · intro h
    obtain ⟨⟨a,rfl,rfl⟩,⟨b,rfl,rfl⟩,⟨c,rfl,rfl⟩,hr,hb,hc,h0,h1⟩:=h
    try simp only [Qw] at *
    exact ⟨l7Cycle_pure a b c _ hr hb hc h0 h1,by simp [go_sem]⟩
  · intro h
    exact h.elim
@[go_sem] def Γw3:FuncId → Con:=ext Γw2 71 zaca
theorem Γw3_ok:∀ g,ConOk Try.prog g (Γw3 g):=Qp Zg zahe


section
variable {P:Program} {B:Base} {n:Nat} {S:St}
theorem zagp {sz:Nat} {μ:Nat → Nat} {I:Nat → Prop} {w:World} {v:Value} {f:List Nat} (h:Rep μ I w .nil v f):Rep μ I w (.fr sz 0 []) v f:=by
  simp only [Rep] at h ⊢
  exact ⟨Nat.zero_le _,by simp,.inl ⟨trivial,h.1,h.2⟩⟩
theorem AW_boxNilS {c:Code} {Q:Exit → St → Prop} (t sz:Nat) (hT:S.T t = .box [.nil]) (h:AW P B n c Q ⟨upd S.T t (.box [.fr sz 0 []]),S.H⟩):AW P B n c Q S :=
  AW_rebox t hT (fun μ I w vs f hr=>by
    simp only [RepL] at hr ⊢
    obtain ⟨v,vs',f1,f2,e1,e2,r1,r2⟩:=hr
    exact ⟨v,vs',f1,f2,e1,e2,zagp r1,r2⟩) (fun N hb=>by simp only [bndL,bnd];exact ⟨trivial,trivial⟩) h
end
def fnd (s:List Bool × List Int) (a:Int):List Bool × List Int:=if nth s.1 a.toNat = true then s else (s.1.set a.toNat true,s.2 ++ [a])
structure ON where
  v5:Nat
  v6:Nat
  b5:Nat
  k5:Nat
  j5:Nat
@[go_sem] def ON.args (m:ON):List D:=[.ptr m.v5 0,.ptr m.v6 0]
def ON.ne (m:ON):Prop:=¬ m.v5 = m.v6 ∧ ¬ m.v5 = m.b5 ∧ ¬ m.v6 = m.b5
structure OM (m:ON) (n:Nat) (s:List Bool × List Int) (H:Hp):Prop where
  hl:s.1.length = n
  h5:H m.v5 = some [.sl m.b5 1 0 n m.k5]
  g5:H m.b5 = some (cat cB s.1 ++ zrP m.j5 .any)
  h6:H m.v6 = some [.fr 1 s.2.length (cat cI s.2)]
def FPre (m:ON) (n:Nat) (a:Int) (s:List Bool × List Int) (H:Hp):Prop:=OM m n s H ∧ (0 ≤ a ∧ a < n) ∧ s.2.length ≤ 1048576
theorem OM.uniq {m:ON} {n:Nat} {s t:List Bool × List Int} {H:Hp} (h:OM m n s H) (k:OM m n t H):s = t:=by
  obtain ⟨_,_,g5,h6⟩:=h
  obtain ⟨_,_,q5,k6⟩:=k
  rw [g5] at q5;rw [h6] at k6
  have e1:=zahw (f:=cB) (List.append_cancel_right (Option.some.inj q5))
  simp only [Option.some.injEq,List.cons.injEq,D.fr.injEq,and_true,true_and] at k6
  have e2:=zahw (f:=cI) k6.2
  exact Prod.ext e1 e2
open Classical in
def fndH (m:ON) (n:Nat) (a:Int) (H:Hp):Hp :=
  if h:∃ s,FPre m n a s H then upd (upd H m.b5 (some (cat cB (fnd h.choose a).1 ++ zrP m.j5 .any))) m.v6 (some [.fr 1 (fnd h.choose a).2.length (cat cI (fnd h.choose a).2)]) else H
theorem fndH_eq {m:ON} {n:Nat} {a:Int} {s:List Bool × List Int} {H:Hp} (h:FPre m n a s H):fndH m n a H = upd (upd H m.b5 (some (cat cB (fnd s a).1 ++ zrP m.j5 .any))) m.v6 (some [.fr 1 (fnd s a).2.length (cat cI (fnd s a).2)]):=by
  have hex:∃ s,FPre m n a s H:=⟨s,h⟩
  have e:hex.choose = s:=hex.choose_spec.1.uniq h.1
  unfold fndH
  rw [dif_pos hex,e]
theorem fnd_len (s:List Bool × List Int) (a:Int):(fnd s a).1.length = s.1.length:=by unfold fnd;split <;> simp
theorem fndH_om {m:ON} (hne:m.ne) {n:Nat} {a:Int} {s:List Bool × List Int} {H:Hp} (h:FPre m n a s H):OM m n (fnd s a) (fndH m n a H):=by
  obtain ⟨n1,n2,n3⟩:=hne
  rw [fndH_eq h]
  obtain ⟨⟨hl,h5,g5,h6⟩,_⟩:=h
  exact ⟨by rw [fnd_len];exact hl,by rw [Qe n1,Qe n2];exact h5,by rw [Qe (zS n3),Ql],by rw [Ql]⟩
@[go_sem] def findCn (m:ON) (n:Nat):Con:=.gen fun args H=>match args with
  | .int .i64 a :: rest=>(rest = m.args ∧ ∃ s,FPre m n a s H,.tup [],fndH m n a H)
  | _=>(False,.any,H)
set_option maxHeartbeats 4000000 in
theorem find_spec {m:ON} (hne:m.ne) {n:Nat} {a:Int} {s:List Bool × List Int} {H:Hp} (h:FPre m n a s H):Spec Try.prog 205 (.int .i64 a :: m.args) H (.tup []) (fndH m n a H):=by
  rw [fndH_eq h]
  obtain ⟨⟨hl,h5,g5,h6⟩,⟨a0,a1⟩,hb⟩:=id h
  obtain ⟨ms,out⟩:=s
  dsimp only at hl g5 h6 hb ⊢
  obtain ⟨n1,n2,n3⟩:=id hne
  have a2:a.toNat < n:=by omega
  have a3:a.toNat < n + m.j5:=by omega
  have a4:a.toNat + 1 ≤ n + m.j5:=by omega
  have a5:a.toNat < ms.length:=by omega
  by_cases hm:nth ms a.toNat = true
  all_goals refine Spec.of_walk Try.func205 rfl (by simp [Try.f205,ON.args]) fun B=>?_
  all_goals (repeat' (first
 | refine Qq ?_
 | refine Qc (id:=0) Γw3_ok [] (by kernel_rfl) ?_;simp [-zg,-zd,↓Qb,↓Qa,go_sem,h5,g5,hl,a0,a1,a2,a3,a4,a5,hm]
 | refine Qc (id:=1) Γw3_ok [] (by kernel_rfl) ?_;simp [-zg,-zd,↓Qb,↓Qa,go_sem,h5,g5,hl,a0,a1,a2,a3,a4,a5,hm]
 | refine Qc (id:=2) Γw3_ok [] (by kernel_rfl) ?_;simp [-zg,-zd,↓Qb,↓Qa,go_sem,h6,n1,n2,n3,zS n1,zS n2,zS n3,(show out.length ≤ 9223372036854775806 by omega),(show out.length + 1 ≤ 9223372036854775807 by omega),(show 2 * (out.length + 1) * 8 ≤ 281474976710656 by omega),Zv]
 | refine Qd (c:=.tmp 8) ?_;simp [-zg,-zd,↓Qb,↓Qa,go_sem];try first | (refine ⟨?_,?_⟩ <;> refine zA ?_) | (refine ⟨fun c8=>?_,fun c8=>?_⟩ <;> (try simp [B_iff,B_not] at c8))
 | (refine Qf ?_)
 | (refine Qo ?_;simp [-zg,-zd,↓Qb,↓Qa,go_sem])
 | (refine Qn ?_;simp [-zg,-zd,↓Qb,↓Qa,go_sem])
 | (refine Qr ?_;simp [-zg,-zd,↓Qb,↓Qa,go_sem,Try.results205])
 | (intro hx;refine zA ?_)
 | (refine ⟨?_,?_⟩ <;> refine zA ?_)
 | (intro hx;constructor <;> intro hs)
 | (constructor <;> intro hs)
 | (refine ⟨?_,fun hs=>?_⟩;refine zA ?_)
 | (refine ⟨fun hs=>?_,?_⟩;rotate_left;refine zA ?_;rotate_left)))
  all_goals (first
 | (have e:fnd (ms,out) a = (ms,out):=(by unfold fnd;rw [if_pos hm]);rw [e];intro b cs hbc;by_cases e1:b = m.v6;(subst e1;simpa [h6] using hbc);by_cases e2:b = m.b5;(subst e2;simpa [g5,e1] using hbc);simpa [e1,e2] using hbc)
 | (have e:fnd (ms,out) a = (ms.set a.toNat true,out ++ [a]):=(by unfold fnd;rw [if_neg hm]);rw [e];simp;done)
 | skip)
theorem findCn_ok {m:ON} (hne:m.ne) (n:Nat):ConOk Try.prog 205 (findCn m n):=by
  refine ⟨Qs Try.func205 (by decide) rfl,fun args H h=>?_⟩
  revert h
  dsimp only
  split
  · rintro ⟨rfl,s,h⟩
    exact find_spec hne h
  · intro h
    exact h.elim
theorem fnd_meet {s:PQ} {a v:Int} (hv:¬ v = -2) (h:a.toNat < s.1.length):fnd (smP s.1,s.2) a = (smP (meet1 v s a).1,(meet1 v s a).2):=by
  unfold fnd meet1
  dsimp only
  rw [nth_smP h]
  by_cases e:nth s.1 a.toNat = -2
  · rw [if_pos e,e,if_neg (by simp)]
    dsimp only
    rw [smP_set s.1 a.toNat (v:=v) hv]
  · rw [if_neg e,if_pos (by simp [e])]
theorem fnd_start {nx:List (List Int)} {ss:List Int} (hS:Starts nx.length ss) {k:Nat} (hk:k < ss.length):fnd (Xw nx.length ss k,ss.take k) (nth ss k) = (Xw nx.length ss (k + 1),ss.take (k + 1)):=by
  have hnd:∀ x,x ∈ ss → Nd nx x:=fun x hx=>hS.1 x hx
  have hnm:¬ mkd (Xw nx.length ss k) (nth ss k):=by
    rw [marksK_mk hnd k (by omega) _ (hnd _ (Xl hk))]
    intro hm
    obtain ⟨j,hj,e⟩:=List.getElem_of_mem hm
    rw [List.length_take] at hj
    rw [List.getElem_take,Qm hk] at e
    exact List.pairwise_iff_getElem.1 hS.2 j k (by omega) hk (by omega) e
  unfold fnd
  dsimp only
  rw [if_neg (show ¬ nth (Xw nx.length ss k) (nth ss k).toNat = true from hnm),zact hk,List.take_succ_eq_append_getElem hk,← Qm hk]
structure OQ where
  k:Nat
  s:PQ
  H:Hp
set_option maxHeartbeats 8000000 in
theorem order_pure (nx:List (List Int)) (ss:List Int) (hx:Qz nx) (hs:NextS nx) (hS:Starts nx.length ss) (hn:nx.length ≤ 1048576):Pure Try.prog 162 [li cL nx,li cI ss] (fr 1 cI (bfsE nx ss).2):=by
  refine Pure.of_walk Try.func162 rfl (by simp [Try.f162]) (by simp [-zd,go_sem]) fun B hK=>?_
  have Γr_ok:=Γw3_ok
  have hssl:ss.length ≤ nx.length:=(Bf.start hS).le
  (repeat' (first
 | refine Qq ?_
 | refine Qc (id:=0) Γr_ok [] (by kernel_rfl) ?_;simp [-zg,-zd,↓Qb,↓Qa,go_sem]
 | refine Qc (id:=1) Γr_ok [] (by kernel_rfl) ?_;simp [-zg,-zd,↓Qb,↓Qa,go_sem,make_cB,(by omega:(nx.length:Int) ≤ 281474976710656),(by omega:(nx.length:Int) ≤ 9223372036854775807)]
 | refine Qc (id:=2) Γr_ok [] (by kernel_rfl) ?_;simp [-zg,-zd,↓Qb,↓Qa,go_sem];try ((refine Zb 5 rfl fun v5 q5=>?_);(refine Zr v5 0 (all:=[.fr 1 nx.length (cat cB (zrP nx.length false))]) (by simp [upd]) rfl fun b5 k5 j5 q6 hk5 hj5=>?_);(refine AW_boxNilS 6 1 rfl ?_);(refine Zb 6 rfl fun v6 q7=>?_);(dsimp only at q6 q7);(have n56:¬ v5 = b5:=(by rintro rfl;simp [upd] at q6));(have n66:¬ v6 = b5:=(by rintro rfl;simp [upd] at q7));(have n65:¬ v6 = v5:=(by rintro rfl;simp [upd,n56] at q7));(clear q5 q6 q7);(obtain ⟨m,hm⟩:∃ m:ON,m = ⟨v5,v6,b5,k5,j5⟩:=⟨_,rfl⟩);(have hne:m.ne:=(by rw [hm];exact ⟨zS n65,n56,n66⟩));(refine Xb (fun H1=>OM m nx.length (Xw nx.length ss 0,ss.take 0) H1) (by rw [hm];exact ⟨zabz ..,by simp [upd,n56,n65,zS n65],by simp [upd,n56,n66,zS n56,zS n66,zacs],by simp [upd,n65,n66];rfl⟩) fun H1 hO=>?_);(have y5:v5 = m.v5:=(by rw [hm]));(have y6:v6 = m.v6:=(by rw [hm]));(subst y5);(subst y6);(clear hm);(replace Γr_ok:=Qp Γr_ok (findCn_ok hne nx.length)))
 | refine Qc (id:=3) Γr_ok [] (by kernel_rfl) ?_;simp [-zg,-zd,↓Qb,↓Qa,go_sem]
 | refine Qc (id:=4) Γr_ok [] (by kernel_rfl) ?_;simp [-zg,-zd,↓Qb,↓Qa,go_sem]
 | refine Qc (id:=5) Γr_ok [] (by kernel_rfl) ?_;simp [-zg,-zd,↓Qb,↓Qa,go_sem]
 | refine Qc (id:=6) Γr_ok [] (by kernel_rfl) ?_;simp [-zg,-zd,↓Qb,↓Qa,go_sem,c20,Qk c20,zsP c20];try ((have hpr:FPre m nx.length (nth ss q.1) (Xw nx.length ss q.1,ss.take q.1) q.2:=⟨g2,hS.1 _ (Xl c20),by simp;omega⟩);(have hex:∃ u1 u2,FPre m nx.length (nth ss q.1) (u1,u2) q.2:=⟨_,_,hpr⟩);(have hT:=fndH_om hne hpr);(rw [fnd_start hS c20] at hT))
 | refine Qc (id:=7) Γr_ok [] (by kernel_rfl) ?_;simp [-zg,-zd,↓Qb,↓Qa,go_sem,hex];try ((generalize fndH m nx.length (nth ss q.1) q.2 = H9 at *);(have t9:=hT))
 | refine Qc (id:=8) Γr_ok [] (by kernel_rfl) ?_;simp [-zg,-zd,↓Qb,↓Qa,go_sem,wrapS (k:=q.1) (by omega)]
 | refine Qc (id:=9) Γr_ok [] (by kernel_rfl) ?_;simp [-zg,-zd,↓Qb,↓Qa,go_sem];try ((obtain ⟨kx,H2⟩:=q);(dsimp only at *);(obtain rfl:kx = ss.length:=by omega);(rw [List.take_length,zadk nx.length ss ss.length (Nat.le_refl _),List.take_length] at g2))
 | ((refine Zr m.v6 0 (all:=[.fr 1 x.s.2.length (cat cI x.s.2)]) e3.h6 rfl fun sb sk sj qs hsk hsj=>?_);(dsimp only at qs);(have w0:=e3.hl);(have w1:=e3.h5);(have w2:=e3.g5);(have w3:¬ sb = m.v5:=(by rintro rfl;rw [w1] at qs;cases qs));(have w4:¬ sb = m.b5:=(by rintro rfl;rw [w2] at qs;cases qs));(have w5:¬ sb = m.v6:=(by rintro rfl;rw [e3.h6] at qs;cases qs));(clear qs);(obtain ⟨n1,n2,n3⟩:=id hne);(refine Xb (fun H3=>H3 m.v5 = some [.sl m.b5 1 0 nx.length m.k5] ∧ H3 m.b5 = some (cat cB (smP x.s.1) ++ zrP m.j5 D.any) ∧ H3 m.v6 = some [.sl sb 1 0 x.s.2.length sk] ∧ H3 sb = some (cat cI x.s.2 ++ zrP sj D.any)) ⟨by simp [upd,w1,n1,n2,n3,w3,w4,w5,zS w3,zS w4,zS w5],by simp [upd,w2,n1,n2,n3,zS n3,zS n2,w3,w4,w5,zS w3,zS w4,zS w5],by simp [upd,w3,w4,w5,zS w3,zS w4,zS w5],by simp [upd]⟩ fun H3 ⟨z1,z2,z3,z4⟩=>?_));refine Qc (id:=10) Γr_ok [] (by kernel_rfl) ?_;simp [-zg,-zd,↓Qb,↓Qa,go_sem,z3]
 | ((have hu:=hB.rng x.k c30);(have hul:(nth x.s.2 x.k).toNat < nx.length:=(by omega));(have hxu:=hx (nth x.s.2 x.k).toNat hul);(have hlu:=hs (nth x.s.2 x.k).toNat hul));refine Qc (id:=12) Γr_ok [] (by kernel_rfl) ?_;simp [-zg,-zd,↓Qb,↓Qa,go_sem,z3,z4,c30,Qk c30,zsP c30,hu.1,hu.2,hul,Qk hul,zsP hul,(show x.k < x.s.2.length + sj by omega),(show x.k + 1 ≤ x.s.2.length + sj by omega)];try ((refine zaao m.v6 0 (b':=sb) (sz:=1) (m:=x.s.2.length) (cp:=sk) (all:=[.sl sb 1 0 x.s.2.length sk]) (cs:=cat cI x.s.2 ++ zrP sj D.any) z3 rfl (zS w5) z4 (by omega) (by simp [Qu]) (by simp [Qu];omega) ?_);(refine Xb (fun H4=>OM m nx.length (smP x.s.1,x.s.2) H4) ⟨w0,by simp [upd,z1,n1,n2,n3,w3,w4,w5,zS w3,zS w4,zS w5],by simp [upd,z2,n1,n2,n3,zS n3,zS n2,w3,w4,w5,zS w3,zS w4,zS w5],by simp [upd,Xi]⟩ fun H4 hO4=>?_))
 | refine Qc (id:=13) Γr_ok [] (by kernel_rfl) ?_;simp [-zg,-zd,↓Qb,↓Qa,go_sem]
 | refine Qc (id:=14) Γr_ok [] (by kernel_rfl) ?_;simp [-zg,-zd,↓Qb,↓Qa,go_sem,c42,Qk c42,zsP c42];try ((obtain ⟨v,hv⟩:∃ v,nth (nth nx (nth x.s.2 x.k).toNat) y.k = v:=⟨_,rfl⟩);(have hvr:=hxu y.k c42);(rw [hv] at hvr);(have hcl:=hC.len);(have hpr:FPre m nx.length v (smP y.s.1,y.s.2) y.H:=⟨d3,hvr,by dsimp only;omega⟩);(have hex:∃ u1 u2,FPre m nx.length v (u1,u2) y.H:=⟨_,_,hpr⟩);(have hT:=fndH_om hne hpr);(rw [fnd_meet (v:=nth x.s.2 x.k) (by omega) (by omega)] at hT);(rw [hv]))
 | refine Qc (id:=15) Γr_ok [] (by kernel_rfl) ?_;simp [-zg,-zd,↓Qb,↓Qa,go_sem,hex];try ((generalize fndH m nx.length v y.H = H9 at *);(have t9:=hT))
 | refine Qc (id:=16) Γr_ok [] (by kernel_rfl) ?_;simp [-zg,-zd,↓Qb,↓Qa,go_sem,wrapS (k:=y.k) (by omega)]
 | refine Qc (id:=11) Γr_ok [] (by kernel_rfl) ?_;simp [-zg,-zd,↓Qb,↓Qa,go_sem,wrapS (k:=x.k) (by omega)]
 | ((have hE:x.s = bfsE nx ss:=(by rw [e2];exact zafg (by rw [← e2];omega) (by omega)));(refine zaao m.v6 0 (b':=sb) (sz:=1) (m:=x.s.2.length) (cp:=sk) (all:=[.sl sb 1 0 x.s.2.length sk]) (cs:=cat cI x.s.2 ++ zrP sj D.any) z3 rfl (zS w5) z4 (by omega) (by simp [Qu]) (by simp [Qu];omega) ?_);(refine Xb (fun H4=>H4 m.v6 = some [.fr 1 x.s.2.length (cat cI x.s.2)]) (by simp [upd,Xi]) fun H4 hO4=>?_));refine Qc (id:=17) Γr_ok [] (by kernel_rfl) ?_;simp [-zg,-zd,↓Qb,↓Qa,go_sem,hO4,hE]
 | refine Qd (c:=.tmp 20) ?_;simp [-zg,-zd,↓Qb,↓Qa,go_sem];try first | (refine ⟨?_,?_⟩ <;> refine zA ?_) | (refine ⟨fun c20=>?_,fun c20=>?_⟩ <;> (try simp [B_iff,B_not] at c20))
 | refine Qd (c:=.tmp 30) ?_;simp [-zg,-zd,↓Qb,↓Qa,go_sem];try first | (refine ⟨?_,?_⟩ <;> refine zA ?_) | (refine ⟨fun c30=>?_,fun c30=>?_⟩ <;> (try simp [B_iff,B_not] at c30))
 | refine Qd (c:=.tmp 42) ?_;simp [-zg,-zd,↓Qb,↓Qa,go_sem];try first | (refine ⟨?_,?_⟩ <;> refine zA ?_) | (refine ⟨fun c42=>?_,fun c42=>?_⟩ <;> (try simp [B_iff,B_not] at c42))
 | (refine Qf (id:=0) (Qv (ι:=Nat × Hp) (fun q:Nat × Hp=>⟨(upd (upd (upd (upd (upd (upd (fun _=>.any) 0 (li cL nx)) 6 (.ptr m.v6 0)) 7 (.fn 205 [.ptr m.v5 0,.ptr m.v6 0])) 17 (li cI ss)) 18 (.int .i64 ss.length)) 19 (.int .i64 q.1)),q.2⟩) (fun q=>q.1 ≤ ss.length ∧ OM m nx.length (Xw nx.length ss q.1,ss.take q.1) q.2) (fun q=>ss.length - q.1) ((0,H1)) ?_ ?_ ?_);exact ⟨Nat.zero_le _,hO⟩;((repeat' (first | exact Qg (by assumption) | exact Qi | refine Qj ?_ ?_ | refine Qh ?_)) <;> simp [-zg,-zd,↓Qb,↓Qa,go_sem]);rintro q ⟨g1,g2⟩)
 | (refine ⟨(q.1 + 1,H9),⟨by dsimp only;omega,t9⟩,by first | omega | (simp;done) | (simp;omega),?_⟩;((repeat' (first | exact Qg (by assumption) | exact Qi | refine Qj ?_ ?_ | refine Qh ?_)) <;> simp [-zg,-zd,↓Qb,↓Qa,go_sem]))
 | (refine Qf (id:=2) (Qv (ι:=OQ) (fun x:OQ=>⟨(upd (upd (upd (upd (fun _=>.any) 0 (li cL nx)) 6 (.ptr m.v6 0)) 7 (.fn 205 [.ptr m.v5 0,.ptr m.v6 0])) 10 (.int .i64 x.k)),x.H⟩) (fun x=>x.k ≤ x.s.2.length ∧ x.s = bfs nx x.k (bfs0 nx.length ss) ∧ OM m nx.length (smP x.s.1,x.s.2) x.H) (fun x=>nx.length - x.k) (⟨0,bfs0 nx.length ss,H2⟩) ?_ ?_ ?_);exact ⟨Nat.zero_le _,rfl,g2⟩;((repeat' (first | exact Qg (by assumption) | exact Qi | refine Qj ?_ ?_ | refine Qh ?_)) <;> simp [-zg,-zd,↓Qb,↓Qa,go_sem,bfs0]);rintro x ⟨e1,e2,e3⟩;have hB:=(bfs_ok hx (Bf.start hS) x.k).1;(rw [← e2] at hB);have hle:=hB.le)
 | (refine ⟨⟨x.k + 1,y.s,y.H⟩,⟨by dsimp only;omega,by dsimp only;(have qe:y.k = (nth nx (nth x.s.2 x.k).toNat).length:=by omega);rw [qe,List.take_length] at d2;rw [d2,zadw (by rw [← e2];exact c30),← e2],d3⟩,by first | omega | (simp;done) | (simp;omega),?_⟩;((repeat' (first | exact Qg (by assumption) | exact Qi | refine Qj ?_ ?_ | refine Qh ?_)) <;> simp [-zg,-zd,↓Qb,↓Qa,go_sem,bfs0]))
 | (refine Qf (id:=4) (Qv (ι:=OQ) (fun y:OQ=>⟨(upd (upd (upd (upd (upd (upd (upd (fun _=>.any) 0 (li cL nx)) 6 (.ptr m.v6 0)) 7 (.fn 205 [.ptr m.v5 0,.ptr m.v6 0])) 10 (.int .i64 x.k)) 39 (li cI (nth nx (nth x.s.2 x.k).toNat))) 40 (.int .i64 (nth nx (nth x.s.2 x.k).toNat).length)) 41 (.int .i64 y.k)),y.H⟩) (fun y=>y.k ≤ (nth nx (nth x.s.2 x.k).toNat).length ∧ y.s = meets (nth x.s.2 x.k) ((nth nx (nth x.s.2 x.k).toNat).take y.k) x.s ∧ OM m nx.length (smP y.s.1,y.s.2) y.H) (fun y=>(nth nx (nth x.s.2 x.k).toNat).length - y.k) (⟨0,x.s,H4⟩) ?_ ?_ ?_);exact ⟨Nat.zero_le _,by simp [meets],hO4⟩;((repeat' (first | exact Qg (by assumption) | exact Qi | refine Qj ?_ ?_ | refine Qh ?_)) <;> simp [-zg,-zd,↓Qb,↓Qa,go_sem]);rintro y ⟨d1,d2,d3⟩;(obtain ⟨hC,hL⟩:=zadj hB c30 hxu y.k d1);(rw [← d2] at hC hL);have hle2:=hC.le;have hl2:=hL.le)
 | (refine ⟨⟨y.k + 1,meet1 (nth x.s.2 x.k) y.s v,H9⟩,⟨by dsimp only;omega,by dsimp only;rw [zaaw _ c42,← d2,hv],t9⟩,by first | omega | (simp;done) | (simp;omega),?_⟩;((repeat' (first | exact Qg (by assumption) | exact Qi | refine Qj ?_ ?_ | refine Qh ?_)) <;> simp [-zg,-zd,↓Qb,↓Qa,go_sem]))
 | (refine Qf ?_)
 | (refine Qo ?_;simp [-zg,-zd,↓Qb,↓Qa,go_sem])
 | (refine Qn ?_;simp [-zg,-zd,↓Qb,↓Qa,go_sem])
 | (refine Qr ?_;simp [-zg,-zd,↓Qb,↓Qa,go_sem,Try.results162])
 | (intro hx;refine zA ?_)
 | (refine ⟨?_,?_⟩ <;> refine zA ?_)
 | (intro hx;constructor <;> intro hs)
 | (constructor <;> intro hs)
 | (refine ⟨?_,fun hs=>?_⟩;refine zA ?_)
 | (refine ⟨fun hs=>?_,?_⟩;rotate_left;refine zA ?_;rotate_left)))
  all_goals (first
 | (rw [hE];simp [fr];done)
 | skip)

@[go_sem] def zaek:Con:=.pure fun
  | [.list n_nx c_nx,.list n_ss c_ss]=>((Is cL n_nx c_nx) ∧ (Is cI n_ss c_ss) ∧ (Qz (de cL c_nx)) ∧ (NextS (de cL c_nx)) ∧ (Starts (de cL c_nx).length (de cI c_ss)) ∧ ((de cL c_nx).length ≤ 1048576),fr 1 cI (bfsE (de cL c_nx) (de cI c_ss)).2)
  | _=>(False,.any)
theorem order_pureC_ok:ConOk Try.prog 162 zaek:=by
  refine ⟨Qs Try.func162 (by decide) rfl,fun args h=>?_⟩
  revert h
  dsimp only
  split
  · intro h
    obtain ⟨⟨nx,rfl,rfl⟩,⟨ss,rfl,rfl⟩,hx,hs,hS,hn⟩:=h
    try simp only [Qw] at *
    exact ⟨order_pure nx ss hx hs hS hn,by simp [go_sem]⟩
  · intro h
    exact h.elim
@[go_sem] def Γw4:FuncId → Con:=ext Γw3 162 zaek
theorem Γw4_ok:∀ g,ConOk Try.prog g (Γw4 g):=Qp Γw3_ok order_pureC_ok

end
end Go.Proofs.Ytkjimmkemnmajaa.Vm

