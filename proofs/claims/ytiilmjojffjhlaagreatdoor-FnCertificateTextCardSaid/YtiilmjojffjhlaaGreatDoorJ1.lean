import Derived.Test.YtiilmjojffjhlaaGreatDoorQ1
/-
  Breadth-first search, plain: what is met, in which order, from where; the way back. No conditions.
-/
namespace Go.Proofs.YtiilmjojffjhlaaGreatDoor.Vm
open Go
set_option linter.unusedVariables false
set_option linter.unusedSimpArgs false
set_option maxRecDepth 200000

theorem Wf {α:Type} [Inhabited α] {xs ys:List α} {i:Nat} (h:i < xs.length):nth (xs ++ ys) i = nth xs i:=by
  rw [Xc h,Xc (by rw [List.length_append];omega),List.getElem_append_left h]
theorem zaon {α:Type} [Inhabited α] (xs:List α) (y:α):nth (xs ++ [y]) xs.length = y:=by
  rw [Xc (by simp)];simp
theorem zacd {α:Type} [Inhabited α] {xs:List α} {i:Nat} (h:i < xs.length) (v:α):nth (xs.set i v) i = v:=by
  rw [Xc (by simpa using h)];simp
theorem Uv {α:Type} [Inhabited α] {xs:List α} {i j:Nat} (h:¬ i = j) (v:α):nth (xs.set i v) j = nth xs j:=by
  simp only [nth,List.getD_eq_getElem?_getD];rw [List.getElem?_set_ne h]

abbrev PQ:=List Int × List Int
def meet1 (v:Int) (s:PQ) (x:Int):PQ:=if nth s.1 x.toNat = -2 then (s.1.set x.toNat v,s.2 ++ [x]) else s
def meets (v:Int) (ns:List Int) (s:PQ):PQ:=ns.foldl (meet1 v) s
theorem meets_zero (v:Int) (ns:List Int) (s:PQ):meets v (ns.take 0) s = s:=by simp [meets]
theorem zaqc (v:Int) {ns:List Int} {k:Nat} (h:k < ns.length) (s:PQ):meets v (ns.take (k + 1)) s = meet1 v (meets v (ns.take k) s) (nth ns k):=by
  unfold meets;rw [List.take_succ_eq_append_getElem h,Xc h,List.foldl_append];rfl
def bfs (nx:List (List Int)):Nat → PQ → PQ
  | 0,s=>s
  | i + 1,s=>if i < (bfs nx i s).2.length then meets (nth (bfs nx i s).2 i) (nth nx (nth (bfs nx i s).2 i).toNat) (bfs nx i s) else bfs nx i s
theorem bfs_succ {nx:List (List Int)} {i:Nat} {s:PQ} (h:i < (bfs nx i s).2.length):bfs nx (i + 1) s = meets (nth (bfs nx i s).2 i) (nth nx (nth (bfs nx i s).2 i).toNat) (bfs nx i s):=by rw [bfs,if_pos h]
theorem bfs_end {nx:List (List Int)} {i:Nat} {s:PQ} (h:(bfs nx i s).2.length ≤ i):∀ j,i ≤ j → bfs nx j s = bfs nx i s
  | 0, hj => by obtain rfl:i = 0:=by omega
                rfl
  | j + 1,hj=>by
    rcases Nat.lt_or_ge j i with q | q
    · obtain rfl:i = j + 1:=by omega
      rfl
    · have:=bfs_end h j q
      rw [bfs,this,if_neg (by omega)]
def roots (n:Nat) (ss:List Int):List Int:=ss.foldl (fun P x=>P.set x.toNat (-1)) (List.replicate n (-2))
def bfs0 (n:Nat) (ss:List Int):PQ:=(roots n ss,ss)
theorem roots_succ (n:Nat) (ss:List Int) (x:Int):roots n (ss ++ [x]) = (roots n ss).set x.toNat (-1):=by simp [roots]
theorem roots_take {n:Nat} {ss:List Int} {k:Nat} (h:k < ss.length):roots n (ss.take (k + 1)) = (roots n (ss.take k)).set (nth ss k).toNat (-1):=by
  rw [List.take_succ_eq_append_getElem h,roots_succ,Xc h]
@[simp] theorem roots_len (n:Nat) (ss:List Int):(roots n ss).length = n:=by
  have:∀ (l P:List Int),(l.foldl (fun P x=>P.set x.toNat (-1)) P).length = P.length:=by
    intro l
    induction l with
    | nil=>intro P;rfl
    | cons x l ih=>intro P;rw [List.foldl_cons,ih,List.length_set]
  rw [roots,this,List.length_replicate]

def unmet (P:List Int):Nat:=(P.filter (fun x=>decide (x = -2))).length
theorem unmet_set:∀ {P:List Int} {k:Nat} {v:Int},k < P.length → nth P k = -2 → ¬ v = -2 → unmet (P.set k v) + 1 = unmet P
  | [],k,v,h,_,_=>by simp at h
  | x :: P,0,v,h,hx,hv=>by
    have:x = -2:=hx
    subst this
    simp [unmet,hv]
  | x :: P,k + 1,v,h,hx,hv=>by
    have ih:=unmet_set (P:=P) (k:=k) (v:=v) (by simpa using h) hx hv
    unfold unmet at ih ⊢
    rw [List.set_cons_succ,List.filter_cons,List.filter_cons]
    split <;> (try simp only [List.length_cons]) <;> omega
theorem unmet_rep (n:Nat):unmet (List.replicate n (-2)) = n:=by
  unfold unmet;rw [List.filter_eq_self.2 (by intro x hx;simp only [List.mem_replicate] at hx;simp [hx.2])];simp

structure Bf (n:Nat) (ss:List Int) (s:PQ):Prop where
  len:s.1.length = n
  rng:∀ m,m < s.2.length → 0 ≤ nth s.2 m ∧ nth s.2 m < n
  cnt:s.2.length + unmet s.1 = n
  pre:∃ r,s.2 = ss ++ r
  par0:∀ m,m < ss.length → nth s.1 (nth s.2 m).toNat = -1
  par:∀ m,ss.length ≤ m → m < s.2.length → ∃ k,k < m ∧ nth s.1 (nth s.2 m).toNat = nth s.2 k
  met:∀ j,j < n → ((j:Int) ∈ s.2 ↔ ¬ nth s.1 j = -2)
theorem Bf.nil (n:Nat):Bf n [] (bfs0 n []):=by
  have hr:∀ j,j < n → nth (List.replicate n (-2:Int)) j = -2:=fun j hj=>by rw [Xc (by simpa using hj)];simp
  refine ⟨by simp [bfs0],by simp [bfs0],by simp [bfs0,roots,unmet_rep],⟨[],rfl⟩,by simp,by simp [bfs0],fun j hj=>?_⟩
  simp only [bfs0,roots,List.foldl_nil,List.not_mem_nil,false_iff]
  exact fun h=>h (hr j hj)
theorem Bf.root {n:Nat} {ss:List Int} (h:Bf n ss (bfs0 n ss)) {x:Int} (h0:0 ≤ x) (h1:x < n) (hx:¬ x ∈ ss):Bf n (ss ++ [x]) (bfs0 n (ss ++ [x])):=by
  have hk:x.toNat < (roots n ss).length:=by rw [roots_len];omega
  have hu:nth (roots n ss) x.toNat = -2:=by
    have:=h.met x.toNat (by omega)
    rw [Int.toNat_of_nonneg h0] at this
    exact Classical.byContradiction fun e=>hx (this.2 e)
  have e1:(bfs0 n (ss ++ [x])).1 = (roots n ss).set x.toNat (-1):=roots_succ n ss x
  have e2:(bfs0 n (ss ++ [x])).2 = ss ++ [x]:=rfl
  refine ⟨by simp [bfs0],fun m hm=>?_,?_,⟨[],by simp [bfs0]⟩,fun m hm=>?_,fun m h2 h3=>?_,fun j hj=>?_⟩
  · rw [e2] at hm ⊢
    simp only [List.length_append,List.length_singleton] at hm
    by_cases e:m = ss.length
    · subst e;rw [zaon];exact ⟨h0,h1⟩
    · rw [Wf (by omega)];exact h.rng m (by simp only [bfs0];omega)
  · rw [e1,e2]
    have:=unmet_set hk hu (v:=-1) (by omega)
    have:=h.cnt
    simp only [bfs0,List.length_append,List.length_singleton] at *;omega
  · rw [e1,e2]
    simp only [List.length_append,List.length_singleton] at hm
    by_cases e:m = ss.length
    · subst e;rw [zaon,zacd hk]
    · rw [Wf (by omega)]
      have:=h.par0 m (by omega)
      have hne:¬ x.toNat = (nth ss m).toNat:=fun e=>by
        simp only [bfs0] at this
        rw [← e,hu] at this;omega
      rw [Uv hne];exact this
  · rw [e2] at h3;simp at h2 h3;omega
  · rw [e1,e2,List.mem_append,List.mem_singleton]
    by_cases e:x.toNat = j
    · subst e
      rw [zacd hk]
      constructor
      · intro _ h;omega
      · intro _;right;omega
    · rw [Uv e,← show ((j:Int) ∈ ss ↔ ¬ nth (roots n ss) j = -2) from h.met j hj]
      constructor
      · rintro (q | q)
        · exact q
        · omega
      · exact .inl
def Starts (n:Nat) (ss:List Int):Prop:=(∀ x ∈ ss,0 ≤ x ∧ x < n) ∧ ss.Nodup
theorem Bf.start {n:Nat} {ss:List Int} (h:Starts n ss):Bf n ss (bfs0 n ss):=by
  have:∀ k,k ≤ ss.length → Bf n (ss.take k) (bfs0 n (ss.take k)):=by
    intro k
    induction k with
    | zero=>intro _;exact Bf.nil n
    | succ k ih =>
      intro hk
      have hm:=h.1 (nth ss k) (Xz (by omega))
      have:=(ih (by omega)).root hm.1 hm.2 (by
        intro q
        rw [zaqb] at q
        obtain ⟨i,hi,e⟩:=q
        rw [List.length_take] at hi
        rw [nth_take (by omega),Xc (by omega),Xc (by omega)] at e
        have:=(List.nodup_iff_pairwise_ne.1 h.2)
        rw [List.pairwise_iff_getElem] at this
        exact this i k (by omega) (by omega) (by omega) e)
      rwa [show ss.take k ++ [nth ss k] = ss.take (k + 1) by rw [List.take_succ_eq_append_getElem (by omega),Xc (by omega)]] at this
  have:=this ss.length (Nat.le_refl _)
  rwa [List.take_length] at this
theorem Starts.one {n:Nat} {a:Int} (h0:0 ≤ a) (h1:a < n):Starts n [a]:=⟨by intro x hx;simp at hx;subst hx;exact ⟨h0,h1⟩,by simp⟩
theorem Bf.root_at {n:Nat} {ss:List Int} {s:PQ} (h:Bf n ss s) {m:Nat} (hm:m < ss.length):nth s.2 m = nth ss m:=by
  obtain ⟨r,e⟩:=h.pre
  rw [e,Wf hm]
theorem Bf.al {n:Nat} {ss:List Int} {s:PQ} (h:Bf n ss s):ss.length ≤ s.2.length:=by
  obtain ⟨r,e⟩:=h.pre
  rw [e,List.length_append];omega
theorem Bf.le {n:Nat} {ss:List Int} {s:PQ} (h:Bf n ss s):s.2.length ≤ n:=by have:=h.cnt;omega
theorem Bf.nn {n:Nat} {ss:List Int} {s:PQ} (h:Bf n ss s) {m:Nat} (hm:m < s.2.length):¬ nth s.1 (nth s.2 m).toNat = -2:=by
  obtain ⟨h1,h2⟩:=h.rng m hm
  refine (h.met (nth s.2 m).toNat (by omega)).1 ?_
  rw [Int.toNat_of_nonneg h1]
  exact Xz hm
theorem Bf.meet1 {n:Nat} {ss:List Int} {s:PQ} (h:Bf n ss s) {k:Nat} (hk:k < s.2.length) {x:Int} (h0:0 ≤ x) (h1:x < n):Bf n ss (meet1 (nth s.2 k) s x):=by
  unfold Vm.meet1
  split
  · rename_i hx
    obtain ⟨v0,v1⟩:=h.rng k hk
    have hxl:x.toNat < s.1.length:=by rw [h.len];omega
    have hne:∀ m,m < s.2.length → ¬ x.toNat = (nth s.2 m).toNat:=fun m hm e=>h.nn hm (by rw [← e];exact hx)
    have hal:=h.al
    refine ⟨by simp [h.len],fun m hm=>?_,?_,?_,fun m hm=>?_,fun m h2 h3=>?_,fun j hj=>?_⟩
    · simp only [List.length_append,List.length_singleton] at hm
      dsimp only
      by_cases e:m = s.2.length
      · subst e;rw [zaon];exact ⟨h0,h1⟩
      · rw [Wf (by omega)];exact h.rng m (by omega)
    · have:=unmet_set hxl hx (v:=nth s.2 k) (by omega)
      have:=h.cnt
      simp only [List.length_append,List.length_singleton];omega
    · obtain ⟨r,e⟩:=h.pre
      exact ⟨r ++ [x],by dsimp only;rw [e,List.append_assoc]⟩
    · dsimp only
      rw [Wf (by omega),Uv (hne m (by omega))];exact h.par0 m hm
    · simp only [List.length_append,List.length_singleton] at h3
      dsimp only
      by_cases e:m = s.2.length
      · subst e
        refine ⟨k,hk,?_⟩
        rw [zaon,zacd hxl,Wf hk]
      · obtain ⟨k',q1,q2⟩:=h.par m h2 (by omega)
        refine ⟨k',q1,?_⟩
        rw [Wf (by omega),Uv (hne m (by omega)),q2,Wf (by omega)]
    · dsimp only
      rw [List.mem_append,List.mem_singleton]
      by_cases e:x.toNat = j
      · subst e
        rw [zacd hxl]
        constructor
        · intro _ hv;omega
        · intro _;right;omega
      · rw [Uv e,← h.met j hj]
        constructor
        · rintro (q | q)
          · exact q
          · omega
        · exact .inl
  · exact h
structure Later (s t:PQ):Prop where
  pre:∃ r,t.2 = s.2 ++ r
  same:∀ j,¬ nth s.1 j = -2 → nth t.1 j = nth s.1 j
theorem Later.refl (s:PQ):Later s s:=⟨⟨[],by simp⟩,fun _ _=>rfl⟩
theorem Later.trans {s t u:PQ} (h:Later s t) (k:Later t u):Later s u:=by
  obtain ⟨r,hr⟩:=h.pre
  obtain ⟨q,hq⟩:=k.pre
  refine ⟨⟨r ++ q,by rw [hq,hr,List.append_assoc]⟩,fun j hj=>?_⟩
  have:=h.same j hj
  rw [k.same j (by rw [this];exact hj),this]
theorem Later.nth {s t:PQ} (h:Later s t) {k:Nat} (hk:k < s.2.length):nth t.2 k = nth s.2 k:=by
  obtain ⟨r,hr⟩:=h.pre
  rw [hr,Wf hk]
theorem Later.le {s t:PQ} (h:Later s t):s.2.length ≤ t.2.length:=by
  obtain ⟨r,hr⟩:=h.pre
  rw [hr,List.length_append];omega
theorem Later.meet1 (v:Int) (s:PQ) (x:Int):Later s (meet1 v s x):=by
  unfold Vm.meet1
  split
  · rename_i hx
    refine ⟨⟨[x],rfl⟩,fun j hj=>?_⟩
    have:¬ x.toNat = j:=by rintro rfl;exact hj hx
    exact Uv this v
  · exact Later.refl s
theorem meets_ok {n:Nat} {ss:List Int} {s:PQ} (h:Bf n ss s) {i:Nat} (hi:i < s.2.length) {ns:List Int} (hn:∀ k,k < ns.length → 0 ≤ nth ns k ∧ nth ns k < n) :
    ∀ k,k ≤ ns.length → Bf n ss (meets (nth s.2 i) (ns.take k) s) ∧ Later s (meets (nth s.2 i) (ns.take k) s)
  | 0,_=>by rw [meets_zero];exact ⟨h,Later.refl s⟩
  | k + 1,hk=>by
    obtain ⟨h1,h2⟩:=meets_ok h hi hn k (by omega)
    have hi':=h2.le
    have e:=h2.nth hi
    rw [zaqc _ (by omega)]
    obtain ⟨q1,q2⟩:=hn k (by omega)
    have:=h1.meet1 (k:=i) (by omega) q1 q2
    rw [e] at this
    exact ⟨this,h2.trans (Later.meet1 _ _ _)⟩
theorem meets_ok' {n:Nat} {ss:List Int} {s:PQ} (h:Bf n ss s) {i:Nat} (hi:i < s.2.length) {ns:List Int} (hn:∀ k,k < ns.length → 0 ≤ nth ns k ∧ nth ns k < n) :
    Bf n ss (meets (nth s.2 i) ns s) ∧ Later s (meets (nth s.2 i) ns s):=by
  have:=meets_ok h hi hn ns.length (Nat.le_refl _)
  rwa [List.take_length] at this
def Zr (nx:List (List Int)):Prop:=∀ j,j < nx.length → ∀ k,k < (nth nx j).length → 0 ≤ nth (nth nx j) k ∧ nth (nth nx j) k < nx.length
def NextS (nx:List (List Int)):Prop:=∀ j,j < nx.length → (nth nx j).length ≤ 1048576
theorem bfs_ok {nx:List (List Int)} (hx:Zr nx) {ss:List Int} {s:PQ} (h:Bf nx.length ss s):∀ i,Bf nx.length ss (bfs nx i s) ∧ Later s (bfs nx i s)
  | 0=>⟨h,Later.refl s⟩
  | i + 1=>by
    obtain ⟨h1,h2⟩:=bfs_ok hx h i
    by_cases hi:i < (bfs nx i s).2.length
    · rw [bfs_succ hi]
      obtain ⟨q1,q2⟩:=h1.rng i hi
      obtain ⟨k1,k2⟩:=meets_ok' h1 hi (hx (nth (bfs nx i s).2 i).toNat (by omega))
      exact ⟨k1,h2.trans k2⟩
    · rw [bfs,if_neg hi];exact ⟨h1,h2⟩
def up (P:List Int):Nat → Int → List Int
  | 0,_=>[]
  | f + 1,x=>if x < 0 then [] else x :: up P f (nth P x.toNat)
theorem mem_idx {xs:List Int} {x:Int} (h:x ∈ xs):∃ m,m < xs.length ∧ nth xs m = x:=by
  obtain ⟨m,hm,e⟩:=List.getElem_of_mem h
  exact ⟨m,hm,by rw [Xc hm];exact e⟩
def bfsE (nx:List (List Int)) (ss:List Int):PQ:=bfs nx nx.length (bfs0 nx.length ss)
theorem bfs_last {nx:List (List Int)} {ss:List Int} {i:Nat} (h:(bfs nx i (bfs0 nx.length ss)).2.length ≤ i) (hi:i ≤ nx.length):bfs nx i (bfs0 nx.length ss) = bfsE nx ss:=(bfs_end h nx.length hi).symm
theorem bfsE_ok {nx:List (List Int)} (hx:Zr nx) {ss:List Int} (h:Starts nx.length ss):Bf nx.length ss (bfsE nx ss):=(bfs_ok hx (Bf.start h) _).1

inductive Rch (nx:List (List Int)):Int → Int → Prop
  | refl (x:Int):Rch nx x x
  | step {x z y:Int} (h:z ∈ nth nx x.toNat) (k:Rch nx z y):Rch nx x y
theorem Rch.trans {nx:List (List Int)} {x y z:Int} (h:Rch nx x y) (k:Rch nx y z):Rch nx x z:=by
  induction h with
  | refl x=>exact k
  | step h _ ih=>exact .step h (ih k)
theorem Rch.edge {nx:List (List Int)} {x y:Int} (h:y ∈ nth nx x.toNat):Rch nx x y:=.step h (.refl _)
def Nd (nx:List (List Int)) (x:Int):Prop:=0 ≤ x ∧ x < nx.length
end Go.Proofs.YtiilmjojffjhlaaGreatDoor.Vm

