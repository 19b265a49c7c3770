/-
  Breadth-first search, plain: what is met, in which order, from where; the way back. No conditions.
-/
import Derived.Test.YtnfldmfamnhpcaaDoorQ1
namespace Go.Proofs.YtnfldmfamnhpcaaDoor.Vm
open Go
set_option linter.unusedVariables false
set_option linter.unusedSimpArgs false
set_option maxRecDepth 200000

theorem nth_app1 {α:Type} [Inhabited α] {xs ys:List α} {i:Nat} (h:i < xs.length):nth (xs ++ ys) i = nth xs i:=by
  rw [nth_lt h,nth_lt (by rw [List.length_append];omega),List.getElem_append_left h]
theorem nth_last1 {α:Type} [Inhabited α] (xs:List α) (y:α):nth (xs ++ [y]) xs.length = y:=by
  rw [nth_lt (by simp)];simp
theorem zadg {α:Type} [Inhabited α] {xs:List α} {i:Nat} (h:i < xs.length) (v:α):nth (xs.set i v) i = v:=by
  rw [nth_lt (by simpa using h)];simp
theorem zafn {α:Type} [Inhabited α] {xs:List α} {i j:Nat} (h:¬ i = j) (v:α):nth (xs.set i v) j = nth xs j:=by
  simp only [nth,List.getD_eq_getElem?_getD];rw [List.getElem?_set_ne h]

abbrev PQ:=List Int × List Int
def roots (n:Nat) (ss:List Int):List Int:=ss.foldl (fun P x=>P.set x.toNat (-1)) (List.replicate n (-2))
def bfs0 (n:Nat) (ss:List Int):PQ:=(roots n ss,ss)
theorem roots_succ (n:Nat) (ss:List Int) (x:Int):roots n (ss ++ [x]) = (roots n ss).set x.toNat (-1):=by simp [roots]
@[simp] theorem roots_len (n:Nat) (ss:List Int):(roots n ss).length = n:=by
  have:∀ (l P:List Int),(l.foldl (fun P x=>P.set x.toNat (-1)) P).length = P.length:=by
    intro l
    induction l with
    | nil=>intro P;rfl
    | cons x l ih=>intro P;rw [List.foldl_cons,ih,List.length_set]
  rw [roots,this,List.length_replicate]

def unmet (P:List Int):Nat:=(P.filter (fun x=>decide (x = -2))).length
theorem unmet_set:∀ {P:List Int} {k:Nat} {v:Int},k < P.length → nth P k = -2 → ¬ v = -2 → unmet (P.set k v) + 1 = unmet P
  | [],k,v,h,_,_=>by simp at h
  | x :: P,0,v,h,hx,hv=>by
    have:x = -2:=hx
    subst this
    simp [unmet,hv]
  | x :: P,k + 1,v,h,hx,hv=>by
    have ih:=unmet_set (P:=P) (k:=k) (v:=v) (by simpa using h) hx hv
    unfold unmet at ih ⊢
    rw [List.set_cons_succ,List.filter_cons,List.filter_cons]
    split <;> (try simp only [List.length_cons]) <;> omega
theorem unmet_rep (n:Nat):unmet (List.replicate n (-2)) = n:=by
  unfold unmet;rw [List.filter_eq_self.2 (by intro x hx;simp only [List.mem_replicate] at hx;simp [hx.2])];simp

structure Bf (n:Nat) (ss:List Int) (s:PQ):Prop where
  len:s.1.length = n
  rng:∀ m,m < s.2.length → 0 ≤ nth s.2 m ∧ nth s.2 m < n
  cnt:s.2.length + unmet s.1 = n
  pre:∃ r,s.2 = ss ++ r
  par0:∀ m,m < ss.length → nth s.1 (nth s.2 m).toNat = -1
  par:∀ m,ss.length ≤ m → m < s.2.length → ∃ k,k < m ∧ nth s.1 (nth s.2 m).toNat = nth s.2 k
  met:∀ j,j < n → ((j:Int) ∈ s.2 ↔ ¬ nth s.1 j = -2)
theorem Bf.nil (n:Nat):Bf n [] (bfs0 n []):=by
  have hr:∀ j,j < n → nth (List.replicate n (-2:Int)) j = -2:=fun j hj=>by rw [nth_lt (by simpa using hj)];simp
  refine ⟨by simp [bfs0],by simp [bfs0],by simp [bfs0,roots,unmet_rep],⟨[],rfl⟩,by simp,by simp [bfs0],fun j hj=>?_⟩
  simp only [bfs0,roots,List.foldl_nil,List.not_mem_nil,false_iff]
  exact fun h=>h (hr j hj)
theorem Bf.root {n:Nat} {ss:List Int} (h:Bf n ss (bfs0 n ss)) {x:Int} (h0:0 ≤ x) (h1:x < n) (hx:¬ x ∈ ss):Bf n (ss ++ [x]) (bfs0 n (ss ++ [x])):=by
  have hk:x.toNat < (roots n ss).length:=by rw [roots_len];omega
  have hu:nth (roots n ss) x.toNat = -2:=by
    have:=h.met x.toNat (by omega)
    rw [Int.toNat_of_nonneg h0] at this
    exact Classical.byContradiction fun e=>hx (this.2 e)
  have e1:(bfs0 n (ss ++ [x])).1 = (roots n ss).set x.toNat (-1):=roots_succ n ss x
  have e2:(bfs0 n (ss ++ [x])).2 = ss ++ [x]:=rfl
  refine ⟨by simp [bfs0],fun m hm=>?_,?_,⟨[],by simp [bfs0]⟩,fun m hm=>?_,fun m h2 h3=>?_,fun j hj=>?_⟩
  · rw [e2] at hm ⊢
    simp only [List.length_append,List.length_singleton] at hm
    by_cases e:m = ss.length
    · subst e;rw [nth_last1];exact ⟨h0,h1⟩
    · rw [nth_app1 (by omega)];exact h.rng m (by simp only [bfs0];omega)
  · rw [e1,e2]
    have:=unmet_set hk hu (v:=-1) (by omega)
    have:=h.cnt
    simp only [bfs0,List.length_append,List.length_singleton] at *;omega
  · rw [e1,e2]
    simp only [List.length_append,List.length_singleton] at hm
    by_cases e:m = ss.length
    · subst e;rw [nth_last1,zadg hk]
    · rw [nth_app1 (by omega)]
      have:=h.par0 m (by omega)
      have hne:¬ x.toNat = (nth ss m).toNat:=fun e=>by
        simp only [bfs0] at this
        rw [← e,hu] at this;omega
      rw [zafn hne];exact this
  · rw [e2] at h3;simp at h2 h3;omega
  · rw [e1,e2,List.mem_append,List.mem_singleton]
    by_cases e:x.toNat = j
    · subst e
      rw [zadg hk]
      constructor
      · intro _ h;omega
      · intro _;right;omega
    · rw [zafn e,← show ((j:Int) ∈ ss ↔ ¬ nth (roots n ss) j = -2) from h.met j hj]
      constructor
      · rintro (q | q)
        · exact q
        · omega
      · exact .inl
def Starts (n:Nat) (ss:List Int):Prop:=(∀ x ∈ ss,0 ≤ x ∧ x < n) ∧ ss.Nodup
theorem Bf.start {n:Nat} {ss:List Int} (h:Starts n ss):Bf n ss (bfs0 n ss):=by
  have:∀ k,k ≤ ss.length → Bf n (ss.take k) (bfs0 n (ss.take k)):=by
    intro k
    induction k with
    | zero=>intro _;exact Bf.nil n
    | succ k ih =>
      intro hk
      have hm:=h.1 (nth ss k) (Jm (by omega))
      have:=(ih (by omega)).root hm.1 hm.2 (by
        intro q
        rw [mem_nth] at q
        obtain ⟨i,hi,e⟩:=q
        rw [List.length_take] at hi
        rw [zain (by omega),nth_lt (by omega),nth_lt (by omega)] at e
        have:=(List.nodup_iff_pairwise_ne.1 h.2)
        rw [List.pairwise_iff_getElem] at this
        exact this i k (by omega) (by omega) (by omega) e)
      rwa [show ss.take k ++ [nth ss k] = ss.take (k + 1) by rw [List.take_succ_eq_append_getElem (by omega),nth_lt (by omega)]] at this
  have:=this ss.length (Nat.le_refl _)
  rwa [List.take_length] at this
theorem Starts.one {n:Nat} {a:Int} (h0:0 ≤ a) (h1:a < n):Starts n [a]:=⟨by intro x hx;simp at hx;subst hx;exact ⟨h0,h1⟩,by simp⟩
theorem Bf.root_at {n:Nat} {ss:List Int} {s:PQ} (h:Bf n ss s) {m:Nat} (hm:m < ss.length):nth s.2 m = nth ss m:=by
  obtain ⟨r,e⟩:=h.pre
  rw [e,nth_app1 hm]
theorem Bf.al {n:Nat} {ss:List Int} {s:PQ} (h:Bf n ss s):ss.length ≤ s.2.length:=by
  obtain ⟨r,e⟩:=h.pre
  rw [e,List.length_append];omega
theorem Bf.nn {n:Nat} {ss:List Int} {s:PQ} (h:Bf n ss s) {m:Nat} (hm:m < s.2.length):¬ nth s.1 (nth s.2 m).toNat = -2:=by
  obtain ⟨h1,h2⟩:=h.rng m hm
  refine (h.met (nth s.2 m).toNat (by omega)).1 ?_
  rw [Int.toNat_of_nonneg h1]
  exact Jm hm
structure Later (s t:PQ):Prop where
  pre:∃ r,t.2 = s.2 ++ r
  same:∀ j,¬ nth s.1 j = -2 → nth t.1 j = nth s.1 j
theorem Later.refl (s:PQ):Later s s:=⟨⟨[],by simp⟩,fun _ _=>rfl⟩
theorem Later.trans {s t u:PQ} (h:Later s t) (k:Later t u):Later s u:=by
  obtain ⟨r,hr⟩:=h.pre
  obtain ⟨q,hq⟩:=k.pre
  refine ⟨⟨r ++ q,by rw [hq,hr,List.append_assoc]⟩,fun j hj=>?_⟩
  have:=h.same j hj
  rw [k.same j (by rw [this];exact hj),this]
theorem Later.nth {s t:PQ} (h:Later s t) {k:Nat} (hk:k < s.2.length):nth t.2 k = nth s.2 k:=by
  obtain ⟨r,hr⟩:=h.pre
  rw [hr,nth_app1 hk]
def NextOk (nx:List (List Int)):Prop:=∀ j,j < nx.length → ∀ k,k < (nth nx j).length → 0 ≤ nth (nth nx j) k ∧ nth (nth nx j) k < nx.length
def NextS (nx:List (List Int)):Prop:=∀ j,j < nx.length → (nth nx j).length ≤ 1048576
def up (P:List Int):Nat → Int → List Int
  | 0,_=>[]
  | f + 1,x=>if x < 0 then [] else x :: up P f (nth P x.toNat)
theorem mem_idx {xs:List Int} {x:Int} (h:x ∈ xs):∃ m,m < xs.length ∧ nth xs m = x:=by
  obtain ⟨m,hm,e⟩:=List.getElem_of_mem h
  exact ⟨m,hm,by rw [nth_lt hm];exact e⟩
end Go.Proofs.YtnfldmfamnhpcaaDoor.Vm

