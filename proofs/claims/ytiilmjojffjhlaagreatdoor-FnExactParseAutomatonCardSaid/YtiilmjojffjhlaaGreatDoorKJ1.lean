import Derived.Test.YtiilmjojffjhlaaGreatDoorKQ1
/-
  Breadth-first search, plain: what is met, in which order, from where; the way back. No conditions.
-/
namespace Go.Proofs.YtiilmjojffjhlaaGreatDoor.Vm
open Go
set_option linter.unusedVariables false
set_option linter.unusedSimpArgs false
set_option maxRecDepth 200000

theorem zafr {α:Type} [Inhabited α] {xs ys:List α} {i:Nat} (h:i < xs.length):nth (xs ++ ys) i = nth xs i:=by
  rw [nth_lt h,nth_lt (by rw [List.length_append];omega),List.getElem_append_left h]
theorem nth_last1 {α:Type} [Inhabited α] (xs:List α) (y:α):nth (xs ++ [y]) xs.length = y:=by
  rw [nth_lt (by simp)];simp
theorem zaau {α:Type} [Inhabited α] {xs:List α} {i:Nat} (h:i < xs.length) (v:α):nth (xs.set i v) i = v:=by
  rw [nth_lt (by simpa using h)];simp
theorem zabz {α:Type} [Inhabited α] {xs:List α} {i j:Nat} (h:¬ i = j) (v:α):nth (xs.set i v) j = nth xs j:=by
  simp only [nth,List.getD_eq_getElem?_getD];rw [List.getElem?_set_ne h]

abbrev PQ:=List Int × List Int
def roots (n:Nat) (ss:List Int):List Int:=ss.foldl (fun P x=>P.set x.toNat (-1)) (List.replicate n (-2))
def bfs0 (n:Nat) (ss:List Int):PQ:=(roots n ss,ss)
theorem roots_succ (n:Nat) (ss:List Int) (x:Int):roots n (ss ++ [x]) = (roots n ss).set x.toNat (-1):=by simp [roots]
@[simp] theorem roots_len (n:Nat) (ss:List Int):(roots n ss).length = n:=by
  have:∀ (l P:List Int),(l.foldl (fun P x=>P.set x.toNat (-1)) P).length = P.length:=by
    intro l
    induction l with
    | nil=>intro P;rfl
    | cons x l ih=>intro P;rw [List.foldl_cons,ih,List.length_set]
  rw [roots,this,List.length_replicate]

def unmet (P:List Int):Nat:=(P.filter (fun x=>decide (x = -2))).length
theorem unmet_set:∀ {P:List Int} {k:Nat} {v:Int},k < P.length → nth P k = -2 → ¬ v = -2 → unmet (P.set k v) + 1 = unmet P
  | [],k,v,h,_,_=>by simp at h
  | x :: P,0,v,h,hx,hv=>by
    have:x = -2:=hx
    subst this
    simp [unmet,hv]
  | x :: P,k + 1,v,h,hx,hv=>by
    have ih:=unmet_set (P:=P) (k:=k) (v:=v) (by simpa using h) hx hv
    unfold unmet at ih ⊢
    rw [List.set_cons_succ,List.filter_cons,List.filter_cons]
    split <;> (try simp only [List.length_cons]) <;> omega
theorem unmet_rep (n:Nat):unmet (List.replicate n (-2)) = n:=by
  unfold unmet;rw [List.filter_eq_self.2 (by intro x hx;simp only [List.mem_replicate] at hx;simp [hx.2])];simp

structure Bf (n:Nat) (ss:List Int) (s:PQ):Prop where
  len:s.1.length = n
  rng:∀ m,m < s.2.length → 0 ≤ nth s.2 m ∧ nth s.2 m < n
  cnt:s.2.length + unmet s.1 = n
  pre:∃ r,s.2 = ss ++ r
  par0:∀ m,m < ss.length → nth s.1 (nth s.2 m).toNat = -1
  par:∀ m,ss.length ≤ m → m < s.2.length → ∃ k,k < m ∧ nth s.1 (nth s.2 m).toNat = nth s.2 k
  met:∀ j,j < n → ((j:Int) ∈ s.2 ↔ ¬ nth s.1 j = -2)
theorem Bf.nil (n:Nat):Bf n [] (bfs0 n []):=by
  have hr:∀ j,j < n → nth (List.replicate n (-2:Int)) j = -2:=fun j hj=>by rw [nth_lt (by simpa using hj)];simp
  refine ⟨by simp [bfs0],by simp [bfs0],by simp [bfs0,roots,unmet_rep],⟨[],rfl⟩,by simp,by simp [bfs0],fun j hj=>?_⟩
  simp only [bfs0,roots,List.foldl_nil,List.not_mem_nil,false_iff]
  exact fun h=>h (hr j hj)
theorem Bf.root {n:Nat} {ss:List Int} (h:Bf n ss (bfs0 n ss)) {x:Int} (h0:0 ≤ x) (h1:x < n) (hx:¬ x ∈ ss):Bf n (ss ++ [x]) (bfs0 n (ss ++ [x])):=by
  have hk:x.toNat < (roots n ss).length:=by rw [roots_len];omega
  have hu:nth (roots n ss) x.toNat = -2:=by
    have:=h.met x.toNat (by omega)
    rw [Int.toNat_of_nonneg h0] at this
    exact Classical.byContradiction fun e=>hx (this.2 e)
  have e1:(bfs0 n (ss ++ [x])).1 = (roots n ss).set x.toNat (-1):=roots_succ n ss x
  have e2:(bfs0 n (ss ++ [x])).2 = ss ++ [x]:=rfl
  refine ⟨by simp [bfs0],fun m hm=>?_,?_,⟨[],by simp [bfs0]⟩,fun m hm=>?_,fun m h2 h3=>?_,fun j hj=>?_⟩
  · rw [e2] at hm ⊢
    simp only [List.length_append,List.length_singleton] at hm
    by_cases e:m = ss.length
    · subst e;rw [nth_last1];exact ⟨h0,h1⟩
    · rw [zafr (by omega)];exact h.rng m (by simp only [bfs0];omega)
  · rw [e1,e2]
    have:=unmet_set hk hu (v:=-1) (by omega)
    have:=h.cnt
    simp only [bfs0,List.length_append,List.length_singleton] at *;omega
  · rw [e1,e2]
    simp only [List.length_append,List.length_singleton] at hm
    by_cases e:m = ss.length
    · subst e;rw [nth_last1,zaau hk]
    · rw [zafr (by omega)]
      have:=h.par0 m (by omega)
      have hne:¬ x.toNat = (nth ss m).toNat:=fun e=>by
        simp only [bfs0] at this
        rw [← e,hu] at this;omega
      rw [zabz hne];exact this
  · rw [e2] at h3;simp at h2 h3;omega
  · rw [e1,e2,List.mem_append,List.mem_singleton]
    by_cases e:x.toNat = j
    · subst e
      rw [zaau hk]
      constructor
      · intro _ h;omega
      · intro _;right;omega
    · rw [zabz e,← show ((j:Int) ∈ ss ↔ ¬ nth (roots n ss) j = -2) from h.met j hj]
      constructor
      · rintro (q | q)
        · exact q
        · omega
      · exact .inl
def Starts (n:Nat) (ss:List Int):Prop:=(∀ x ∈ ss,0 ≤ x ∧ x < n) ∧ ss.Nodup
theorem Bf.start {n:Nat} {ss:List Int} (h:Starts n ss):Bf n ss (bfs0 n ss):=by
  have:∀ k,k ≤ ss.length → Bf n (ss.take k) (bfs0 n (ss.take k)):=by
    intro k
    induction k with
    | zero=>intro _;exact Bf.nil n
    | succ k ih =>
      intro hk
      have hm:=h.1 (nth ss k) (Jn (by omega))
      have:=(ih (by omega)).root hm.1 hm.2 (by
        intro q
        rw [mem_nth] at q
        obtain ⟨i,hi,e⟩:=q
        rw [List.length_take] at hi
        rw [zafq (by omega),nth_lt (by omega),nth_lt (by omega)] at e
        have:=(List.nodup_iff_pairwise_ne.1 h.2)
        rw [List.pairwise_iff_getElem] at this
        exact this i k (by omega) (by omega) (by omega) e)
      rwa [show ss.take k ++ [nth ss k] = ss.take (k + 1) by rw [List.take_succ_eq_append_getElem (by omega),nth_lt (by omega)]] at this
  have:=this ss.length (Nat.le_refl _)
  rwa [List.take_length] at this
theorem Starts.one {n:Nat} {a:Int} (h0:0 ≤ a) (h1:a < n):Starts n [a]:=⟨by intro x hx;simp at hx;subst hx;exact ⟨h0,h1⟩,by simp⟩
theorem Bf.root_at {n:Nat} {ss:List Int} {s:PQ} (h:Bf n ss s) {m:Nat} (hm:m < ss.length):nth s.2 m = nth ss m:=by
  obtain ⟨r,e⟩:=h.pre
  rw [e,zafr hm]
theorem Bf.al {n:Nat} {ss:List Int} {s:PQ} (h:Bf n ss s):ss.length ≤ s.2.length:=by
  obtain ⟨r,e⟩:=h.pre
  rw [e,List.length_append];omega
theorem Bf.nn {n:Nat} {ss:List Int} {s:PQ} (h:Bf n ss s) {m:Nat} (hm:m < s.2.length):¬ nth s.1 (nth s.2 m).toNat = -2:=by
  obtain ⟨h1,h2⟩:=h.rng m hm
  refine (h.met (nth s.2 m).toNat (by omega)).1 ?_
  rw [Int.toNat_of_nonneg h1]
  exact Jn hm
structure Later (s t:PQ):Prop where
  pre:∃ r,t.2 = s.2 ++ r
  same:∀ j,¬ nth s.1 j = -2 → nth t.1 j = nth s.1 j
theorem Later.refl (s:PQ):Later s s:=⟨⟨[],by simp⟩,fun _ _=>rfl⟩
theorem Later.trans {s t u:PQ} (h:Later s t) (k:Later t u):Later s u:=by
  obtain ⟨r,hr⟩:=h.pre
  obtain ⟨q,hq⟩:=k.pre
  refine ⟨⟨r ++ q,by rw [hq,hr,List.append_assoc]⟩,fun j hj=>?_⟩
  have:=h.same j hj
  rw [k.same j (by rw [this];exact hj),this]
theorem Later.nth {s t:PQ} (h:Later s t) {k:Nat} (hk:k < s.2.length):nth t.2 k = nth s.2 k:=by
  obtain ⟨r,hr⟩:=h.pre
  rw [hr,zafr hk]
def NextOk (nx:List (List Int)):Prop:=∀ j,j < nx.length → ∀ k,k < (nth nx j).length → 0 ≤ nth (nth nx j) k ∧ nth (nth nx j) k < nx.length
def NextS (nx:List (List Int)):Prop:=∀ j,j < nx.length → (nth nx j).length ≤ 1048576
def up (P:List Int):Nat → Int → List Int
  | 0,_=>[]
  | f + 1,x=>if x < 0 then [] else x :: up P f (nth P x.toNat)
theorem mem_idx {xs:List Int} {x:Int} (h:x ∈ xs):∃ m,m < xs.length ∧ nth xs m = x:=by
  obtain ⟨m,hm,e⟩:=List.getElem_of_mem h
  exact ⟨m,hm,by rw [nth_lt hm];exact e⟩

structure TS where
  num:List Int
  low:List Int
  part:List Int
  stk:List Int
  cnt:Int
  pts:Int
inductive Rch (nx:List (List Int)):Int → Int → Prop
  | refl (x:Int):Rch nx x x
  | step {x z y:Int} (h:z ∈ nth nx x.toNat) (k:Rch nx z y):Rch nx x y
theorem Rch.trans {nx:List (List Int)} {x y z:Int} (h:Rch nx x y) (k:Rch nx y z):Rch nx x z:=by
  induction h with
  | refl x=>exact k
  | step h _ ih=>exact .step h (ih k)
theorem Rch.edge {nx:List (List Int)} {x y:Int} (h:y ∈ nth nx x.toNat):Rch nx x y:=.step h (.refl _)
abbrev gt (l:List Int) (x:Int):Int:=nth l x.toNat
def Nd (nx:List (List Int)) (x:Int):Prop:=0 ≤ x ∧ x < nx.length
theorem gt_set {nx:List (List Int)} {l:List Int} {x y v:Int} (hl:l.length = nx.length) (hx:Nd nx x) (hy:Nd nx y):gt (l.set x.toNat v) y = if x = y then v else gt l y:=by
  obtain ⟨h1,h2⟩:=hx
  obtain ⟨h3,h4⟩:=hy
  split
  · rename_i h;subst h;exact zaau (by omega) v
  · exact zabz (by omega) v
theorem Jd {nx:List (List Int)} (hx:NextOk nx) {x y:Int} (h:Nd nx x) (hy:y ∈ nth nx x.toNat):Nd nx y:=by
  obtain ⟨k,k1,k2⟩:=mem_idx hy
  have:=hx x.toNat (by have:=h.1;have:=h.2;omega) k k1
  rw [k2] at this;exact this
def wh (l:List Int):Nat:=(l.filter (fun x=>decide (x = 0))).length
theorem wh_set:∀ {l:List Int} {k:Nat} {v:Int},k < l.length → nth l k = 0 → ¬ v = 0 → wh (l.set k v) + 1 = wh l
  | [],k,v,h,_,_=>by simp at h
  | x :: P,0,v,h,hx,hv=>by
    have:x = 0:=hx
    subst this
    simp [wh,hv]
  | x :: P,k + 1,v,h,hx,hv=>by
    have ih:=wh_set (l:=P) (k:=k) (v:=v) (by simpa using h) hx hv
    unfold wh at ih ⊢
    rw [List.set_cons_succ,List.filter_cons,List.filter_cons]
    split <;> (try simp only [List.length_cons]) <;> omega
theorem wh_rep (n:Nat):wh (List.replicate n 0) = n:=by
  unfold wh;rw [List.filter_eq_self.2 (by intro x hx;simp only [List.mem_replicate] at hx;simp [hx.2])];simp
structure Inv (nx:List (List Int)) (G:Int → Prop) (s:TS):Prop where
  ln:s.num.length = nx.length
  ll:s.low.length = nx.length
  lp:s.part.length = nx.length
  n1:∀ x,Nd nx x → 0 ≤ gt s.num x ∧ gt s.num x ≤ s.cnt
  p0:∀ x,Nd nx x → gt s.part x < s.pts
  p1:0 ≤ s.pts
  p2:∀ x,Nd nx x → -1 ≤ gt s.part x
  cw:s.cnt + wh s.num = nx.length
  ps:s.pts + s.stk.length ≤ s.cnt
  st:∀ x,x ∈ s.stk ↔ Nd nx x ∧ ¬ gt s.num x = 0 ∧ gt s.part x < 0
  so:s.stk.Pairwise (fun x y=>gt s.num x < gt s.num y)
  wp:∀ x,Nd nx x → gt s.num x = 0 → gt s.part x < 0
  gs:∀ x,G x → x ∈ s.stk
  bw:∀ x,Nd nx x → ¬ gt s.num x = 0 → ¬ G x → ∀ y ∈ nth nx x.toNat,¬ gt s.num y = 0
  od:∀ x y,x ∈ s.stk → y ∈ s.stk → gt s.num x ≤ gt s.num y → Rch nx x y
  gr:∀ y,y ∈ s.stk → ∃ x,G x ∧ gt s.num x ≤ gt s.num y ∧ Rch nx y x
  ag:∀ x,Nd nx x → 0 ≤ gt s.part x → ∀ y ∈ nth nx x.toNat,0 ≤ gt s.part y
  sc:∀ x y,Nd nx x → Nd nx y → 0 ≤ gt s.part x → (gt s.part y = gt s.part x ↔ Rch nx x y ∧ Rch nx y x)
theorem Inv.setLow {nx:List (List Int)} {G:Int → Prop} {s:TS} (h:Inv nx G s) {l:List Int} (hl:l.length = nx.length):Inv nx G { s with low:=l } :=
  ⟨h.ln,hl,h.lp,h.n1,h.p0,h.p1,h.p2,h.cw,h.ps,h.st,h.so,h.wp,h.gs,h.bw,h.od,h.gr,h.ag,h.sc⟩
theorem Inv.inj {nx:List (List Int)} {G:Int → Prop} {s:TS} (h:Inv nx G s) {x y:Int} (hx:x ∈ s.stk) (hy:y ∈ s.stk) (e:gt s.num x = gt s.num y):x = y:=by
  obtain ⟨i,i1,i2⟩:=List.getElem_of_mem hx
  obtain ⟨j,j1,j2⟩:=List.getElem_of_mem hy
  have hp:=List.pairwise_iff_getElem.1 h.so
  rcases Nat.lt_trichotomy i j with q | q | q
  · have:=hp i j i1 j1 q;rw [i2,j2] at this;omega
  · subst q;rw [← i2,← j2]
  · have:=hp j i j1 i1 q;rw [i2,j2] at this;omega
theorem Inv.rchAs {nx:List (List Int)} (hx:NextOk nx) {G:Int → Prop} {s:TS} (h:Inv nx G s) {x y:Int} (hr:Rch nx x y):Nd nx x → 0 ≤ gt s.part x → 0 ≤ gt s.part y:=by
  induction hr with
  | refl x=>intro _ q;exact q
  | step e _ ih=>intro q1 q2;exact ih (Jd hx q1 e) (h.ag _ q1 q2 _ e)
def tPush (a:Int) (s:TS):TS:={ s with num:=s.num.set a.toNat (s.cnt + 1),low:=s.low.set a.toNat (s.cnt + 1),stk:=s.stk ++ [a],cnt:=s.cnt + 1 }
def tStep (v:Int → TS → TS) (a:Int) (s:TS) (y:Int):TS :=
  if gt s.num y = 0 then { v y s with low:=(v y s).low.set a.toNat (min (gt (v y s).low a) (gt (v y s).low y)) }
  else if gt s.part y < 0 then { s with low:=s.low.set a.toNat (min (gt s.low a) (gt s.num y)) } else s
def pop1 (s:TS):TS:={ s with part:=s.part.set (nth s.stk (s.stk.length - 1)).toNat s.pts,stk:=s.stk.take (s.stk.length - 1) }
def pops:Nat → TS → TS
  | 0,s=>s
  | j + 1,s=>pop1 (pops j s)
def tPop (a:Int) (s:TS):TS:={ pops (s.stk.length - s.stk.idxOf a) s with pts:=s.pts + 1 }
def tEnd (a:Int) (s:TS):TS:=if gt s.low a = gt s.num a then tPop a s else s
structure Lt (nx:List (List Int)) (s t:TS):Prop where
  kn:∀ x,Nd nx x → ¬ gt s.num x = 0 → gt t.num x = gt s.num x
  nn:∀ x,Nd nx x → gt s.num x = 0 → ¬ gt t.num x = 0 → s.cnt < gt t.num x
  kp:∀ x,Nd nx x → 0 ≤ gt s.part x → gt t.part x = gt s.part x
  kl:∀ x,Nd nx x → ¬ gt s.num x = 0 → gt t.low x = gt s.low x
  cn:s.cnt ≤ t.cnt
  wl:wh t.num ≤ wh s.num
theorem Lt.refl {nx:List (List Int)} (s:TS):Lt nx s s:=⟨fun _ _ _=>rfl,fun _ _ h k=>absurd h k,fun _ _ _=>rfl,fun _ _ _=>rfl,Int.le_refl _,Nat.le_refl _⟩
theorem Lt.trans {nx:List (List Int)} {s t u:TS} (h:Lt nx s t) (k:Lt nx t u):Lt nx s u:=by
  refine ⟨fun x n c=>?_,fun x n c d=>?_,fun x n c=>?_,fun x n c=>?_,Int.le_trans h.cn k.cn,Nat.le_trans k.wl h.wl⟩
  · rw [k.kn x n (by rw [h.kn x n c];exact c),h.kn x n c]
  · by_cases q:gt t.num x = 0
    · have:=k.nn x n q d;have:=h.cn;omega
    · rw [k.kn x n q];exact h.nn x n c q
  · rw [k.kp x n (by rw [h.kp x n c];exact c),h.kp x n c]
  · rw [k.kl x n (by rw [h.kn x n c];exact c),h.kl x n c]
structure Vis (nx:List (List Int)) (G:Int → Prop) (a:Int) (s t:TS):Prop where
  inv:Inv nx G t
  lt:Lt nx s t
  pre:∃ r,t.stk = s.stk ++ r
  at1:¬ gt t.num a = 0
  rc:∀ x,x ∈ t.stk → ¬ x ∈ s.stk → Rch nx a x
  l1:gt t.low a ≤ gt t.num a
  l3:gt t.low a < gt t.num a → ∃ y,y ∈ t.stk ∧ gt t.num y = gt t.low a ∧ Rch nx a y
  l2:∀ x,x ∈ t.stk → ¬ x ∈ s.stk → ∀ y ∈ nth nx x.toNat,y ∈ s.stk → gt t.low a ≤ gt s.num y
  wl:wh t.num < wh s.num
structure May (nx:List (List Int)) (G:Int → Prop) (a:Int) (s:TS):Prop where
  inv:Inv nx G s
  nd:Nd nx a
  at0:gt s.num a = 0
  gr:∀ x,G x → Rch nx x a
def Gp (G:Int → Prop) (a:Int) (x:Int):Prop:=G x ∨ x = a
structure Lp (nx:List (List Int)) (G:Int → Prop) (a:Int) (s0:TS) (k:Nat) (s:TS):Prop where
  inv:Inv nx (Gp G a) s
  lt:Lt nx s0 s
  pre:∃ r,s.stk = s0.stk ++ a :: r
  na:gt s.num a = s0.cnt + 1
  nb:∀ j,j < k → ¬ gt s.num (nth (nth nx a.toNat) j) = 0
  rc:∀ x,x ∈ s.stk → ¬ x ∈ s0.stk → Rch nx a x
  l1:gt s.low a ≤ gt s.num a
  l3:∃ y,y ∈ s.stk ∧ gt s.num y = gt s.low a ∧ Rch nx a y
  l2:∀ x,x ∈ s.stk → ¬ x ∈ s0.stk → ¬ x = a → ∀ y ∈ nth nx x.toNat,y ∈ s0.stk → gt s.low a ≤ gt s0.num y
  la:∀ j,j < k → nth (nth nx a.toNat) j ∈ s0.stk → gt s.low a ≤ gt s0.num (nth (nth nx a.toNat) j)
  wl:wh s.num < wh s0.num
theorem May.push {nx:List (List Int)} {G:Int → Prop} {a:Int} {s:TS} (h:May nx G a s):Lp nx G a s 0 (tPush a s):=by
  obtain ⟨hI,hnd,h0,hgr⟩:=h
  have hna:¬ a ∈ s.stk:=fun q=>((hI.st a).1 q).2.1 h0
  have hg:∀ x,Nd nx x → gt (tPush a s).num x = if a = x then s.cnt + 1 else gt s.num x:=fun x hx=>gt_set hI.ln hnd hx
  have hgl:∀ x,Nd nx x → gt (tPush a s).low x = if a = x then s.cnt + 1 else gt s.low x:=fun x hx=>gt_set hI.ll hnd hx
  have hcn:0 ≤ s.cnt:=by have:=(hI.n1 a hnd);omega
  have hw:wh (tPush a s).num + 1 = wh s.num:=wh_set (by rw [hI.ln];have:=hnd.1;have:=hnd.2;omega) h0 (by omega)
  have hms:∀ x,x ∈ (tPush a s).stk ↔ x ∈ s.stk ∨ x = a:=fun x=>by simp [tPush]
  have hne:∀ x,x ∈ s.stk → ¬ a = x:=fun x hx e=>hna (by rw [e];exact hx)
  have hgs:∀ x,x ∈ s.stk → gt (tPush a s).num x = gt s.num x:=fun x hx=>by rw [hg x ((hI.st x).1 hx).1,if_neg (hne x hx)]
  have hga:gt (tPush a s).num a = s.cnt + 1:=by rw [hg a hnd,if_pos rfl]
  have hla:gt (tPush a s).low a = s.cnt + 1:=by rw [hgl a hnd,if_pos rfl]
  have hsa:∀ x,x ∈ s.stk → Rch nx x a:=fun x hx=>by
    obtain ⟨g,g1,g2,g3⟩:=hI.gr x hx
    exact g3.trans (hgr g g1)
  refine ⟨⟨?_,?_,hI.lp,?_,hI.p0,hI.p1,hI.p2,?_,?_,?_,?_,?_,?_,?_,?_,?_,hI.ag,hI.sc⟩,⟨?_,?_,fun _ _ _=>rfl,?_,?_,?_⟩,⟨[],by simp [tPush]⟩,hga,fun j hj=>by omega,?_,?_,?_,?_,fun j hj=>by omega,?_⟩
  · simp [tPush,hI.ln]
  · simp [tPush,hI.ll]
  · intro x hx
    rw [hg x hx]
    have:=hI.n1 x hx
    simp only [tPush]
    split <;> omega
  · have:=hI.cw;simp only [tPush] at hw ⊢;omega
  · have:=hI.ps;simp [tPush];omega
  · intro x
    rw [hms,hI.st]
    constructor
    · rintro (⟨q1,q2,q3⟩ | rfl)
      · refine ⟨q1,?_,q3⟩
        rw [hg x q1];split
        · omega
        · exact q2
      · refine ⟨hnd,by rw [hga];omega,hI.wp x hnd h0⟩
    · rintro ⟨q1,q2,q3⟩
      by_cases e:x = a
      · exact .inr e
      · rw [hg x q1,if_neg (fun q=>e q.symm)] at q2
        exact .inl ⟨q1,q2,q3⟩
  · show (s.stk ++ [a]).Pairwise _
    rw [List.pairwise_append]
    refine ⟨?_,by simp,?_⟩
    · refine List.Pairwise.imp_of_mem ?_ hI.so
      intro x y hx hy hxy
      rw [hgs x hx,hgs y hy];exact hxy
    · intro x hx y hy
      simp at hy;subst hy
      rw [hgs x hx,hga]
      have:=(hI.n1 x ((hI.st x).1 hx).1).2
      omega
  · intro x hx hx0
    by_cases e:a = x
    · subst e;rw [hga] at hx0;omega
    · rw [hg x hx,if_neg e] at hx0;exact hI.wp x hx hx0
  · intro x hx
    rw [hms]
    rcases hx with hx | hx
    · exact .inl (hI.gs x hx)
    · exact .inr hx
  · intro x hx hx0 hG y hy
    have e:¬ a = x:=fun e=>hG (.inr e.symm)
    rw [hg x hx,if_neg e] at hx0
    have hyn:¬ gt s.num y = 0:=hI.bw x hx hx0 (fun q=>hG (.inl q)) y hy
    by_cases ey:a = y
    · subst ey;exact absurd h0 hyn
    · by_cases hyd:Nd nx y
      · rw [hg y hyd,if_neg ey];exact hyn
      · show ¬ nth (s.num.set a.toNat (s.cnt + 1)) y.toNat = 0
        by_cases et:a.toNat = y.toNat
        · rw [← et,zaau (by rw [hI.ln];have:=hnd.1;have:=hnd.2;omega)];omega
        · rw [zabz et];exact hyn
  · intro x y hx hy hxy
    rw [hms] at hx hy
    rcases hx with hx | rfl
    · rcases hy with hy | rfl
      · rw [hgs x hx,hgs y hy] at hxy;exact hI.od x y hx hy hxy
      · exact hsa x hx
    · rcases hy with hy | rfl
      · rw [hgs y hy,hga] at hxy
        have:=(hI.n1 y ((hI.st y).1 hy).1).2
        omega
      · exact .refl _
  · intro y hy
    rw [hms] at hy
    rcases hy with hy | rfl
    · obtain ⟨g,g1,g2,g3⟩:=hI.gr y hy
      exact ⟨g,.inl g1,by rw [hgs y hy,hgs g (hI.gs g g1)];exact g2,g3⟩
    · exact ⟨y,.inr rfl,Int.le_refl _,.refl _⟩
  · intro x hx hx0
    rw [hg x hx,if_neg (by rintro rfl;exact hx0 h0)]
  · intro x hx hx0 hx1
    rw [hg x hx] at hx1 ⊢
    split
    · omega
    · rename_i e;rw [if_neg e] at hx1;exact absurd hx0 hx1
  · intro x hx hx0
    rw [hgl x hx,if_neg (by rintro rfl;exact hx0 h0)]
  · show s.cnt ≤ s.cnt + 1;omega
  · omega
  · intro x hx hxs
    rw [hms] at hx
    rcases hx with hx | rfl
    · exact absurd hx hxs
    · exact .refl _
  · rw [hga,hla];exact Int.le_refl _
  · exact ⟨a,by rw [hms];exact .inr rfl,by rw [hga,hla],.refl _⟩
  · intro x hx hxs hxa
    rw [hms] at hx
    rcases hx with hx | rfl
    · exact absurd hx hxs
    · exact absurd rfl hxa
  · omega
theorem Lp.step {nx:List (List Int)} (hx:NextOk nx) {G:Int → Prop} {a:Int} {s0 s:TS} {k:Nat} {v:Int → TS → TS} (hm:May nx G a s0) (h:Lp nx G a s0 k s) (hk:k < (nth nx a.toNat).length)
    (hv:May nx (Gp G a) (nth (nth nx a.toNat) k) s → Vis nx (Gp G a) (nth (nth nx a.toNat) k) s (v (nth (nth nx a.toNat) k) s)):Lp nx G a s0 (k + 1) (tStep v a s (nth (nth nx a.toNat) k)):=by
  generalize hy:nth (nth nx a.toNat) k = y at *
  have hye:y ∈ nth nx a.toNat:=by rw [← hy];exact Jn hk
  have hnd:=hm.nd
  have hyd:Nd nx y:=Jd hx hnd hye
  obtain ⟨r0,hr0⟩:=h.pre
  have has:a ∈ s.stk:=by rw [hr0];simp
  have hss:∀ x,x ∈ s0.stk → x ∈ s.stk:=fun x q=>by rw [hr0];simp [q]
  have hsn:∀ x,x ∈ s0.stk → gt s.num x = gt s0.num x:=fun x q=>h.lt.kn x ((hm.inv.st x).1 q).1 ((hm.inv.st x).1 q).2.1
  have hna:¬ a ∈ s0.stk:=fun q=>((hm.inv.st a).1 q).2.1 hm.at0
  have hc0:0 ≤ s0.cnt:=by have:=hm.inv.n1 a hnd;omega
  unfold tStep
  split
  · rename_i hy0
    have hM:May nx (Gp G a) y s:=⟨h.inv,hyd,hy0,fun x q=>by
      rcases q with q | rfl
      · exact (hm.gr x q).trans (.edge hye)
      · exact .edge hye⟩
    have hV:=hv hM
    generalize v y s = t at *
    obtain ⟨r1,hr1⟩:=hV.pre
    have hts:∀ x,x ∈ s.stk → x ∈ t.stk:=fun x q=>by rw [hr1];simp [q]
    have htn:∀ x,x ∈ s.stk → gt t.num x = gt s.num x:=fun x q=>hV.lt.kn x ((h.inv.st x).1 q).1 ((h.inv.st x).1 q).2.1
    have han:¬ gt s.num a = 0:=by rw [h.na];omega
    have hta:gt t.num a = s0.cnt + 1:=by rw [htn a has,h.na]
    have htl:gt t.low a = gt s.low a:=hV.lt.kl a hnd han
    have hal:∀ x,Nd nx x → gt (t.low.set a.toNat (min (gt t.low a) (gt t.low y))) x = if a = x then min (gt t.low a) (gt t.low y) else gt t.low x:=fun x q=>gt_set hV.inv.ll hnd q
    have hla:gt (t.low.set a.toNat (min (gt t.low a) (gt t.low y))) a = min (gt t.low a) (gt t.low y):=by rw [hal a hnd,if_pos rfl]
    have hyn:=hV.lt.nn y hyd hy0 hV.at1
    have hcn:=h.lt.cn
    have hac:gt s.num a ≤ s.cnt:=(h.inv.n1 a hnd).2
    have hl1:=h.l1
    have hLt:Lt nx s0 t:=h.lt.trans hV.lt
    refine ⟨hV.inv.setLow (by rw [List.length_set];exact hV.inv.ll),⟨hLt.kn,hLt.nn,hLt.kp,fun x q1 q2=>?_,hLt.cn,hLt.wl⟩,⟨r0 ++ r1,by show t.stk = _;rw [hr1,hr0];simp⟩,hta,fun j hj=>?_,fun x q1 q2=>?_,?_,?_,fun x q1 q2 q3 z hz hzs=>?_,fun j hj hjs=>?_,Nat.lt_of_le_of_lt hV.lt.wl h.wl⟩
    · show gt (t.low.set a.toNat _) x = _
      rw [hal x q1,if_neg (by rintro rfl;exact q2 hm.at0)];exact hLt.kl x q1 q2
    · show ¬ gt t.num _ = 0
      by_cases e:j = k
      · subst e;rw [hy];exact hV.at1
      · have hj':j < k:=by omega
        have hjd:Nd nx (nth (nth nx a.toNat) j):=Jd hx hnd (Jn (by omega))
        rw [hV.lt.kn _ hjd (h.nb j hj')];exact h.nb j hj'
    · by_cases q:x ∈ s.stk
      · exact h.rc x q q2
      · exact (Rch.edge hye).trans (hV.rc x q1 q)
    · show gt (t.low.set a.toNat _) a ≤ gt t.num a
      rw [hla,htl,hta]
      rw [h.na] at hl1
      omega
    · show ∃ z,z ∈ t.stk ∧ gt t.num z = gt (t.low.set a.toNat _) a ∧ Rch nx a z
      rw [hla,htl]
      obtain ⟨z,z1,z2,z3⟩:=h.l3
      by_cases q:gt t.low y < gt s.low a
      · have q2:gt t.low y < gt t.num y:=by omega
        obtain ⟨w,w1,w2,w3⟩:=hV.l3 q2
        exact ⟨w,w1,by rw [w2];omega,(Rch.edge hye).trans w3⟩
      · exact ⟨z,hts z z1,by rw [htn z z1,z2];omega,z3⟩
    · show gt (t.low.set a.toNat _) a ≤ _
      rw [hla,htl]
      by_cases q:x ∈ s.stk
      · have:=h.l2 x q q2 q3 z hz hzs
        omega
      · have:=hV.l2 x q1 q z hz (hss z hzs)
        rw [hsn z hzs] at this
        omega
    · show gt (t.low.set a.toNat _) a ≤ _
      rw [hla,htl]
      by_cases e:j = k
      · subst e
        rw [hy] at hjs
        exact absurd hy0 (by rw [hsn y hjs];exact ((hm.inv.st y).1 hjs).2.1)
      · have:=h.la j (by omega) hjs
        omega
  · rename_i hy0
    split
    · rename_i hyp
      have hys:y ∈ s.stk:=(h.inv.st y).2 ⟨hyd,hy0,hyp⟩
      have hal:∀ x,Nd nx x → gt (s.low.set a.toNat (min (gt s.low a) (gt s.num y))) x = if a = x then min (gt s.low a) (gt s.num y) else gt s.low x:=fun x q=>gt_set h.inv.ll hnd q
      have hla:gt (s.low.set a.toNat (min (gt s.low a) (gt s.num y))) a = min (gt s.low a) (gt s.num y):=by rw [hal a hnd,if_pos rfl]
      refine ⟨h.inv.setLow (by rw [List.length_set];exact h.inv.ll),⟨h.lt.kn,h.lt.nn,h.lt.kp,fun x q1 q2=>?_,h.lt.cn,h.lt.wl⟩,h.pre,h.na,fun j hj=>?_,h.rc,?_,?_,fun x q1 q2 q3 z hz hzs=>?_,fun j hj hjs=>?_,h.wl⟩
      · show gt (s.low.set a.toNat _) x = _
        rw [hal x q1,if_neg (by rintro rfl;exact q2 hm.at0)];exact h.lt.kl x q1 q2
      · by_cases e:j = k
        · subst e;rw [hy];exact hy0
        · exact h.nb j (by omega)
      · show gt (s.low.set a.toNat _) a ≤ gt s.num a
        have:=h.l1
        rw [hla];omega
      · show ∃ z,z ∈ s.stk ∧ gt s.num z = gt (s.low.set a.toNat _) a ∧ Rch nx a z
        rw [hla]
        obtain ⟨z,z1,z2,z3⟩:=h.l3
        by_cases q:gt s.num y < gt s.low a
        · exact ⟨y,hys,by omega,.edge hye⟩
        · exact ⟨z,z1,by omega,z3⟩
      · show gt (s.low.set a.toNat _) a ≤ _
        have:=h.l2 x q1 q2 q3 z hz hzs
        rw [hla];omega
      · show gt (s.low.set a.toNat _) a ≤ _
        rw [hla]
        by_cases e:j = k
        · subst e
          rw [hy] at hjs ⊢
          rw [hsn y hjs];omega
        · have:=h.la j (by omega) hjs
          omega
    · rename_i hyp
      refine ⟨h.inv,h.lt,h.pre,h.na,fun j hj=>?_,h.rc,h.l1,h.l3,h.l2,fun j hj hjs=>?_,h.wl⟩
      · by_cases e:j = k
        · subst e;rw [hy];exact hy0
        · exact h.nb j (by omega)
      · by_cases e:j = k
        · subst e
          rw [hy] at hjs
          exact absurd ((h.inv.st y).1 (hss y hjs)).2.2 hyp
        · exact h.la j (by omega) hjs
theorem pops_ok {nx:List (List Int)} {s:TS} (hp:s.part.length = nx.length) (hs:∀ x,x ∈ s.stk → Nd nx x):∀ j,j ≤ s.stk.length →
    (pops j s).stk = s.stk.take (s.stk.length - j) ∧ (pops j s).num = s.num ∧ (pops j s).low = s.low ∧ (pops j s).cnt = s.cnt ∧ (pops j s).pts = s.pts ∧ (pops j s).part.length = nx.length ∧
      ∀ x,Nd nx x → gt (pops j s).part x = if x ∈ s.stk.drop (s.stk.length - j) then s.pts else gt s.part x
  | 0,_=>by simp [pops,hp]
  | j + 1,hj=>by
    obtain ⟨h1,h2,h3,h4,h5,h6,h7⟩:=pops_ok hp hs j (by omega)
    have hl:(pops j s).stk.length = s.stk.length - j:=by rw [h1];simp
    have e1:nth (pops j s).stk ((pops j s).stk.length - 1) = nth s.stk (s.stk.length - (j + 1)):=by rw [hl,h1,zafq (by omega)];congr 1
    have hk:s.stk.length - (j + 1) < s.stk.length:=by omega
    have e2:s.stk.drop (s.stk.length - (j + 1)) = nth s.stk (s.stk.length - (j + 1)) :: s.stk.drop (s.stk.length - j):=by
      rw [List.drop_eq_getElem_cons hk,nth_lt hk,show s.stk.length - (j + 1) + 1 = s.stk.length - j by omega]
    refine ⟨?_,h2,h3,h4,h5,?_,fun x hx=>?_⟩
    · show (pops j s).stk.take _ = _
      rw [hl,h1,List.take_take];congr 1;omega
    · show ((pops j s).part.set _ _).length = _
      rw [List.length_set];exact h6
    · show gt ((pops j s).part.set (nth (pops j s).stk ((pops j s).stk.length - 1)).toNat (pops j s).pts) x = _
      rw [e1,gt_set h6 (hs _ (Jn hk)) hx,h7 x hx,h5,e2]
      by_cases e:nth s.stk (s.stk.length - (j + 1)) = x
      · rw [if_pos e,if_pos (by rw [e];exact List.mem_cons_self ..)]
      · rw [if_neg e]
        have:(x ∈ nth s.stk (s.stk.length - (j + 1)) :: s.stk.drop (s.stk.length - j)) ↔ x ∈ s.stk.drop (s.stk.length - j):=by
          rw [List.mem_cons]
          exact ⟨fun q=>q.resolve_left (fun q=>e q.symm),.inr⟩
        simp only [this]
theorem Lp.fin {nx:List (List Int)} (hx:NextOk nx) {G:Int → Prop} {a:Int} {s0 s:TS} (hm:May nx G a s0) (h:Lp nx G a s0 (nth nx a.toNat).length s):Vis nx G a s0 (tEnd a s):=by
  have hI:=h.inv
  have hnd:=hm.nd
  obtain ⟨r0,hr0⟩:=h.pre
  have hna:¬ a ∈ s0.stk:=fun q=>((hm.inv.st a).1 q).2.1 hm.at0
  have has:a ∈ s.stk:=by rw [hr0];simp
  have hc0:0 ≤ s0.cnt:=by have:=hm.inv.n1 a hnd;omega
  have han:¬ gt s.num a = 0:=by rw [h.na];omega
  have hss:∀ x,x ∈ s0.stk → x ∈ s.stk:=fun x q=>by rw [hr0];simp [q]
  have hsn:∀ x,x ∈ s0.stk → gt s.num x = gt s0.num x ∧ gt s0.num x ≤ s0.cnt:=fun x q=>⟨h.lt.kn x ((hm.inv.st x).1 q).1 ((hm.inv.st x).1 q).2.1,(hm.inv.n1 x ((hm.inv.st x).1 q).1).2⟩
  have hba:∀ y ∈ nth nx a.toNat,¬ gt s.num y = 0:=fun y hy=>by
    obtain ⟨j,j1,j2⟩:=mem_idx hy
    rw [← j2];exact h.nb j j1
  have hbw:∀ x,Nd nx x → ¬ gt s.num x = 0 → ¬ G x → ∀ y ∈ nth nx x.toNat,¬ gt s.num y = 0:=fun x q1 q2 q3=>by
    by_cases e:x = a
    · subst e;exact hba
    · exact hI.bw x q1 q2 (fun q=>q.elim q3 e)
  have hra:∀ x,x ∈ s.stk → Rch nx x a:=fun x q=>by
    obtain ⟨g,g1,g2,g3⟩:=hI.gr x q
    rcases g1 with g1 | rfl
    · exact g3.trans (hm.gr g g1)
    · exact g3
  have hl2:∀ x,x ∈ s.stk → ¬ x ∈ s0.stk → ∀ y ∈ nth nx x.toNat,y ∈ s0.stk → gt s.low a ≤ gt s0.num y:=fun x q1 q2 y hy hys=>by
    by_cases e:x = a
    · subst e
      obtain ⟨j,j1,j2⟩:=mem_idx hy
      rw [← j2] at hys ⊢;exact h.la j j1 hys
    · exact h.l2 x q1 q2 e y hy hys
  unfold tEnd
  split
  · rename_i he
    have hnp:∀ x,x ∈ s.stk → Nd nx x:=fun x q=>((hI.st x).1 q).1
    have hix:s.stk.idxOf a = s0.stk.length:=by rw [hr0,List.idxOf_append,if_neg hna];simp
    have hln:s.stk.length = s0.stk.length + (r0.length + 1):=by rw [hr0];simp
    obtain ⟨k1,k2,k3,k4,k5,k6,k7⟩:=pops_ok hI.lp hnp (s.stk.length - s.stk.idxOf a) (by omega)
    have e1:s.stk.length - (s.stk.length - s.stk.idxOf a) = s0.stk.length:=by omega
    rw [e1] at k1 k7
    have hpw:=hI.so
    rw [hr0,List.pairwise_append] at hpw
    rw [hr0,List.take_left] at k1
    rw [hr0,List.drop_left] at k7
    have hC:∀ x,x ∈ a :: r0 ↔ x ∈ s.stk ∧ ¬ x ∈ s0.stk:=fun x=>by
      constructor
      · intro q
        refine ⟨by rw [hr0];exact List.mem_append.2 (.inr q),fun q2=>?_⟩
        have:=hpw.2.2 x q2 x q
        omega
      · rintro ⟨q1,q2⟩
        rw [hr0] at q1
        exact (List.mem_append.1 q1).resolve_left q2
    rw [← hr0] at k1 k7
    generalize hu:pops (s.stk.length - s.stk.idxOf a) s = u at *
    have ht:tPop a s = { u with pts:=s.pts + 1 }:=by rw [tPop,hu]
    rw [ht]
    have hout:∀ x,x ∈ a :: r0 → ∀ y ∈ nth nx x.toNat,y ∈ a :: r0 ∨ 0 ≤ gt s.part y:=fun x q y hy=>by
      obtain ⟨q1,q2⟩:=(hC x).1 q
      obtain ⟨q3,q4,q5⟩:=(hI.st x).1 q1
      have hyd:=Jd hx q3 hy
      have hyn:=hbw x q3 q4 (fun q=>q2 (hm.inv.gs x q)) y hy
      by_cases c:gt s.part y < 0
      · left
        rw [hC]
        refine ⟨(hI.st y).2 ⟨hyd,hyn,c⟩,fun q=>?_⟩
        have:=hl2 x q1 q2 y hy q
        have:=(hsn y q).2
        have h9:=h.na
        omega
      · right;omega
    have hclo:∀ x y,Rch nx x y → x ∈ a :: r0 → y ∈ a :: r0 ∨ 0 ≤ gt s.part y:=by
      intro x y hr
      induction hr with
      | refl x=>exact .inl
      | step e k ih =>
        intro q0
        rcases hout _ q0 _ e with q | q
        · exact ih q
        · exact .inr (hI.rchAs hx k (Jd hx (hnp _ ((hC _).1 q0).1) e) q)
    have hpx:∀ x,Nd nx x → gt u.part x = if x ∈ a :: r0 then s.pts else gt s.part x:=k7
    have hp1:=hI.p1
    have hst:∀ x,x ∈ s0.stk ↔ Nd nx x ∧ ¬ gt s.num x = 0 ∧ gt u.part x < 0:=fun x=>by
      constructor
      · intro q
        obtain ⟨q3,q4,q5⟩:=(hI.st x).1 (hss x q)
        refine ⟨q3,q4,?_⟩
        rw [hpx x q3,if_neg (fun c=>((hC x).1 c).2 q)];exact q5
      · rintro ⟨q3,q4,q5⟩
        rw [hpx x q3] at q5
        split at q5
        · omega
        · rename_i c
          have:=(hI.st x).2 ⟨q3,q4,q5⟩
          exact Classical.byContradiction fun q=>c ((hC x).2 ⟨this,q⟩)
    have hCs:∀ x,x ∈ a :: r0 → Nd nx x ∧ gt s.part x < 0:=fun x q=>by
      obtain ⟨q3,q4,q5⟩:=(hI.st x).1 ((hC x).1 q).1
      exact ⟨q3,q5⟩
    have hua:0 ≤ gt u.part a → True:=fun _=>trivial
    refine ⟨⟨by show u.num.length = _;rw [k2];exact hI.ln,by show u.low.length = _;rw [k3];exact hI.ll,k6,?_,?_,?_,?_,?_,?_,?_,?_,?_,?_,?_,?_,?_,?_,?_⟩,⟨?_,?_,?_,?_,?_,?_⟩,⟨[],by show u.stk = _;rw [k1,List.append_nil]⟩,?_,?_,?_,?_,?_,?_⟩
    · show ∀ x,Nd nx x → 0 ≤ gt u.num x ∧ gt u.num x ≤ u.cnt
      rw [k2,k4];exact hI.n1
    · intro x q
      show gt u.part x < s.pts + 1
      rw [hpx x q]
      have:=hI.p0 x q
      split <;> omega
    · show 0 ≤ s.pts + 1
      omega
    · intro x q
      show -1 ≤ gt u.part x
      rw [hpx x q]
      have:=hI.p2 x q
      split <;> omega
    · show u.cnt + wh u.num = _
      rw [k2,k4];exact hI.cw
    · show s.pts + 1 + (u.stk.length:Int) ≤ u.cnt
      have:=hI.ps
      rw [k1,k4];omega
    · show ∀ x,x ∈ u.stk ↔ Nd nx x ∧ ¬ gt u.num x = 0 ∧ gt u.part x < 0
      rw [k1,k2];exact hst
    · show u.stk.Pairwise fun x y=>gt u.num x < gt u.num y
      rw [k1,k2];exact hpw.1
    · intro x q q0
      show gt u.part x < 0
      have q0:gt s.num x = 0:=by rw [← k2];exact q0
      rw [hpx x q,if_neg (fun c=>((hI.st x).1 ((hC x).1 c).1).2.1 q0)]
      exact hI.wp x q q0
    · intro x q
      show x ∈ u.stk
      rw [k1];exact hm.inv.gs x q
    · show ∀ x,Nd nx x → ¬ gt u.num x = 0 → ¬ G x → ∀ y ∈ nth nx x.toNat,¬ gt u.num y = 0
      rw [k2];exact hbw
    · show ∀ x y,x ∈ u.stk → y ∈ u.stk → gt u.num x ≤ gt u.num y → Rch nx x y
      rw [k1,k2];exact fun x y q1 q2=>hI.od x y (hss x q1) (hss y q2)
    · show ∀ y,y ∈ u.stk → ∃ x,G x ∧ gt u.num x ≤ gt u.num y ∧ Rch nx y x
      rw [k1,k2]
      intro y q
      obtain ⟨g,g1,g2,g3⟩:=hI.gr y (hss y q)
      rcases g1 with g1 | rfl
      · exact ⟨g,g1,g2,g3⟩
      · have:=hsn y q
        have h9:=h.na
        omega
    · intro x q q0 y hy
      have q0:0 ≤ gt u.part x:=q0
      show 0 ≤ gt u.part y
      have hyd:=Jd hx q hy
      rw [hpx x q] at q0
      rw [hpx y hyd]
      split
      · exact hp1
      · rename_i c2
        split at q0
        · rename_i c
          exact (hout x c y hy).resolve_left c2
        · exact hI.ag x q q0 y hy
    · intro x y qx qy q0
      have q0:0 ≤ gt u.part x:=q0
      show gt u.part y = gt u.part x ↔ _
      have py:=hI.p0 y qy
      rw [hpx x qx] at q0 ⊢
      rw [hpx y qy]
      by_cases cx:x ∈ a :: r0
      · rw [if_pos cx] at q0 ⊢
        by_cases cy:y ∈ a :: r0
        · rw [if_pos cy]
          obtain ⟨x1,x2⟩:=(hC x).1 cx
          obtain ⟨y1,y2⟩:=(hC y).1 cy
          exact ⟨fun _=>⟨(hra x x1).trans (h.rc y y1 y2),(hra y y1).trans (h.rc x x1 x2)⟩,fun _=>rfl⟩
        · rw [if_neg cy]
          refine ⟨fun q=>by omega,fun ⟨r1,r2⟩=>?_⟩
          rcases hclo x y r1 cx with q | q
          · exact absurd q cy
          · have:=hI.rchAs hx r2 qy q
            have:=(hCs x cx).2
            omega
      · rw [if_neg cx] at q0 ⊢
        have px:=hI.p0 x qx
        by_cases cy:y ∈ a :: r0
        · rw [if_pos cy]
          refine ⟨fun q=>by omega,fun ⟨r1,r2⟩=>?_⟩
          have:=hI.rchAs hx r1 qx q0
          have:=(hCs y cy).2
          omega
        · rw [if_neg cy]
          exact hI.sc x y qx qy q0
    · show ∀ x,Nd nx x → ¬ gt s0.num x = 0 → gt u.num x = gt s0.num x
      rw [k2];exact h.lt.kn
    · show ∀ x,Nd nx x → gt s0.num x = 0 → ¬ gt u.num x = 0 → s0.cnt < gt u.num x
      rw [k2];exact h.lt.nn
    · intro x q q0
      show gt u.part x = _
      have e:=h.lt.kp x q q0
      rw [hpx x q,if_neg (fun c=>by have:=(hCs x c).2;omega)]
      exact e
    · show ∀ x,Nd nx x → ¬ gt s0.num x = 0 → gt u.low x = gt s0.low x
      rw [k3];exact h.lt.kl
    · show s0.cnt ≤ u.cnt
      rw [k4];exact h.lt.cn
    · show wh u.num ≤ _
      rw [k2];exact h.lt.wl
    · show ¬ gt u.num a = 0
      rw [k2];exact han
    · show ∀ x,x ∈ u.stk → ¬ x ∈ s0.stk → _
      rw [k1];exact fun x q q2=>absurd q q2
    · show gt u.low a ≤ gt u.num a
      rw [k2,k3];exact h.l1
    · show gt u.low a < gt u.num a → _
      rw [k2,k3];intro q;omega
    · show ∀ x,x ∈ u.stk → ¬ x ∈ s0.stk → _
      rw [k1];exact fun x q q2=>absurd q q2
    · show wh u.num < _
      rw [k2];exact h.wl
  · rename_i he
    have hlt:gt s.low a < gt s.num a:=by have:=h.l1;omega
    refine ⟨⟨hI.ln,hI.ll,hI.lp,hI.n1,hI.p0,hI.p1,hI.p2,hI.cw,hI.ps,hI.st,hI.so,hI.wp,fun x q=>hI.gs x (.inl q),hbw,hI.od,fun y q=>?_,hI.ag,hI.sc⟩,h.lt,⟨a :: r0,hr0⟩,han,h.rc,h.l1,fun _=>h.l3,hl2,h.wl⟩
    obtain ⟨g,g1,g2,g3⟩:=hI.gr y q
    rcases g1 with g1 | rfl
    · exact ⟨g,g1,g2,g3⟩
    · obtain ⟨z,z1,z2,z3⟩:=h.l3
      obtain ⟨w,w1,w2,w3⟩:=hI.gr z z1
      refine ⟨w,w1.resolve_right (by rintro rfl;omega),by omega,g3.trans (z3.trans w3)⟩
end Go.Proofs.YtiilmjojffjhlaaGreatDoor.Vm

