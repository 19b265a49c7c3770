/-
  Intersections of automata, plain: what is explored, and that it ends. No conditions.
-/
import Derived.Test.YtnfldmfamnhpcaaA3
import Derived.Test.YtnfldmfamnhpcaaB4
namespace Go.Proofs.Ytnfldmfamnhpcaa.Vm
open Go
set_option linter.unusedVariables false
set_option linter.unusedSimpArgs false
set_option maxRecDepth 200000

structure IxP where
  a:List Int
  b:List Bool
  c:List Tr4
  a':List Int
  b':List Bool
  c':List Tr4
abbrev Mv5:=Int × Int × Int × Int × Int
def mvT (m:Mv5):List Int:=[m.2.2.1,m.2.2.2.1,m.2.2.2.2]
def mvPh (X:IxP) (t:List Int):Int:=if nth t 2 = 0 ∧ nth X.b (nth t 0).toNat = true then 1 else if nth t 2 = 1 ∧ nth X.b' (nth t 1).toNat = true then 0 else nth t 2
def mvAc (X:IxP) (t:List Int):Bool:=decide (nth t 2 = 1) && nth X.b' (nth t 1).toNat
def fitE (e f:Tr4):Bool:=decide (bitsD .and .i64 (bitsD .and .i64 (bitsD .xor .i64 e.2.2.1 f.2.2.1) e.2.1) f.2.1 = 0)
def mvE (ph:Int) (e f:Tr4):Mv5:=(bitsD .or .i64 e.2.1 f.2.1,bitsD .or .i64 e.2.2.1 f.2.2.1,e.2.2.2,f.2.2.2,ph)
def mvOn (t:List Int) (e f:Tr4):Bool:=decide (e.1 = nth t 0) && (decide (f.1 = nth t 1) && fitE e f)
def mvIn (X:IxP) (t:List Int) (e:Tr4) (j:Nat):List Mv5:=((X.c'.take j).filter (mvOn t e)).map (mvE (mvPh X t) e)
def mvOut (X:IxP) (t:List Int) (k:Nat):List Mv5:=(X.c.take k).flatMap fun e=>mvIn X t e X.c'.length
def mvs (X:IxP) (t:List Int):List Mv5:=mvOut X t X.c.length
theorem mvIn_zero (X:IxP) (t:List Int) (e:Tr4):mvIn X t e 0 = []:=rfl
theorem mvIn_yes {X:IxP} {t:List Int} {e:Tr4} {j:Nat} (h:j < X.c'.length) (hy:mvOn t e (nth X.c' j) = true):mvIn X t e (j + 1) = mvIn X t e j ++ [mvE (mvPh X t) e (nth X.c' j)]:=by
  unfold mvIn;rw [List.take_succ_eq_append_getElem h,← Qy h,List.filter_append,List.map_append];simp [hy]
theorem mvIn_no {X:IxP} {t:List Int} {e:Tr4} {j:Nat} (h:j < X.c'.length) (hy:mvOn t e (nth X.c' j) = false):mvIn X t e (j + 1) = mvIn X t e j:=by
  unfold mvIn;rw [List.take_succ_eq_append_getElem h,← Qy h,List.filter_append,List.map_append];simp [hy]
theorem mvIn_off {X:IxP} {t:List Int} {e:Tr4} (h:¬ e.1 = nth t 0) (j:Nat):mvIn X t e j = []:=by
  unfold mvIn
  rw [List.filter_eq_nil_iff.2 (fun f _=>by simp [mvOn,h])];rfl
theorem mvIn_len (X:IxP) (t:List Int) (e:Tr4) (j:Nat):(mvIn X t e j).length ≤ j:=by
  unfold mvIn;rw [List.length_map]
  exact Nat.le_trans (List.length_filter_le ..) (by simp;omega)
theorem zakz (X:IxP) (t:List Int):mvOut X t 0 = []:=rfl
theorem zaen {X:IxP} {t:List Int} {k:Nat} (h:k < X.c.length):mvOut X t (k + 1) = mvOut X t k ++ mvIn X t (nth X.c k) X.c'.length:=by
  unfold mvOut;rw [List.take_succ_eq_append_getElem h,← Qy h,List.flatMap_append];simp
theorem zagx (X:IxP) (t:List Int):∀ k,k ≤ X.c.length → (mvOut X t k).length ≤ k * X.c'.length
  | 0,_=>by simp [zakz]
  | k + 1,h=>by
    rw [zaen (by omega),List.length_append,Nat.succ_mul]
    have:=zagx X t k (by omega)
    have:=mvIn_len X t (nth X.c k) X.c'.length
    omega
theorem mem_mvIn {X:IxP} {t:List Int} {e:Tr4} {j:Nat} {m:Mv5} (h:m ∈ mvIn X t e j):∃ f,f ∈ X.c' ∧ mvOn t e f = true ∧ m = mvE (mvPh X t) e f:=by
  simp only [mvIn,List.mem_map,List.mem_filter] at h
  obtain ⟨f,⟨h1,h2⟩,h3⟩:=h
  exact ⟨f,List.mem_of_mem_take h1,h2,h3.symm⟩
theorem mem_mvOut {X:IxP} {t:List Int} {k:Nat} {m:Mv5} (h:m ∈ mvOut X t k):∃ e f,e ∈ X.c ∧ f ∈ X.c' ∧ mvOn t e f = true ∧ m = mvE (mvPh X t) e f:=by
  simp only [mvOut,List.mem_flatMap] at h
  obtain ⟨e,h1,h2⟩:=h
  obtain ⟨f,f1,f2,f3⟩:=mem_mvIn h2
  exact ⟨e,f,List.mem_of_mem_take h1,f1,f2,f3⟩
theorem mem_mvs {X:IxP} {t:List Int} {m:Mv5}:m ∈ mvs X t ↔ ∃ e f,e ∈ X.c ∧ f ∈ X.c' ∧ mvOn t e f = true ∧ m = mvE (mvPh X t) e f:=by
  refine ⟨mem_mvOut,?_⟩
  rintro ⟨e,f,h1,h2,h3,rfl⟩
  simp only [mvs,mvOut,List.mem_flatMap,List.take_length]
  refine ⟨e,h1,?_⟩
  simp only [mvIn,List.mem_map,List.mem_filter,List.take_length]
  exact ⟨f,⟨h2,h3⟩,rfl⟩

def addT (L:List (List Int)) (t:List Int):List (List Int):=if t ∈ L then L else L ++ [t]
theorem addT_old {L:List (List Int)} {t:List Int} (h:t ∈ L):addT L t = L:=if_pos h
theorem addT_new {L:List (List Int)} {t:List Int} (h:¬ t ∈ L):addT L t = L ++ [t]:=if_neg h
theorem addT_idx {L:List (List Int)} {t:List Int} (h:¬ t ∈ L):(addT L t).idxOf t = L.length:=by rw [addT_new h,List.idxOf_append,if_neg h];simp
theorem mem_addT {L:List (List Int)} {t s:List Int}:s ∈ addT L t ↔ s ∈ L ∨ s = t:=by
  unfold addT;split
  · rename_i h
    constructor
    · exact .inl
    · rintro (q | rfl)
      · exact q
      · exact h
  · simp
theorem addT_pre (L:List (List Int)) (t:List Int):∃ r,addT L t = L ++ r:=by
  unfold addT;split
  · exact ⟨[],by simp⟩
  · exact ⟨[t],rfl⟩
def Xw (i:Nat) (s:List (List Int) × List Tr4) (m:Mv5):List (List Int) × List Tr4:=(addT s.1 (mvT m),s.2 ++ [((i:Int),m.1,m.2.1,((addT s.1 (mvT m)).idxOf (mvT m):Int))])
def ixRun (i:Nat) (s:List (List Int) × List Tr4) (ms:List Mv5):List (List Int) × List Tr4:=ms.foldl (Xw i) s
theorem ixRun_snoc (i:Nat) (s:List (List Int) × List Tr4) (ms:List Mv5) (m:Mv5):ixRun i s (ms ++ [m]) = Xw i (ixRun i s ms) m:=by simp [ixRun]
theorem zalx (i:Nat):∀ (ms:List Mv5) (s:List (List Int) × List Tr4),(ixRun i s ms).2.length = s.2.length + ms.length
  | [],s=>by simp [ixRun]
  | m :: ms,s=>by
    have:=zalx i ms (Xw i s m)
    simp only [ixRun,List.foldl_cons] at this ⊢
    rw [this];simp [Xw];omega
theorem ixRun_pre (i:Nat):∀ (ms:List Mv5) (s:List (List Int) × List Tr4),(∃ r,(ixRun i s ms).1 = s.1 ++ r) ∧ ∃ r,(ixRun i s ms).2 = s.2 ++ r
  | [],s=>⟨⟨[],by simp [ixRun]⟩,[],by simp [ixRun]⟩
  | m :: ms,s=>by
    obtain ⟨⟨r1,h1⟩,r2,h2⟩:=ixRun_pre i ms (Xw i s m)
    obtain ⟨r3,h3⟩:=addT_pre s.1 (mvT m)
    simp only [ixRun,List.foldl_cons] at h1 h2 ⊢
    refine ⟨⟨r3 ++ r1,?_⟩,[((i:Int),m.1,m.2.1,((addT s.1 (mvT m)).idxOf (mvT m):Int))] ++ r2,?_⟩
    · rw [h1];simp only [Xw];rw [h3,List.append_assoc]
    · rw [h2];simp only [Xw];rw [List.append_assoc]
def TriIn (n n':Nat) (t:List Int):Prop:=∃ p q f,t = [p,q,f] ∧ (0 ≤ p ∧ p < n) ∧ (0 ≤ q ∧ q < n') ∧ (f = 0 ∨ f = 1)
def TriOk (n n':Nat) (L:List (List Int)):Prop:=L.Nodup ∧ ∀ t ∈ L,TriIn n n' t
theorem TriOk.add {n n':Nat} {L:List (List Int)} {t:List Int} (h:TriOk n n' L) (ht:TriIn n n' t):TriOk n n' (addT L t):=by
  unfold addT;split
  · exact h
  · rename_i c
    refine ⟨?_,fun s hs=>?_⟩
    · rw [List.nodup_append]
      refine ⟨h.1,by simp,fun a ha b hb=>?_⟩
      simp at hb;subst hb
      rintro rfl;exact c ha
    · rcases List.mem_append.1 hs with q | q
      · exact h.2 s q
      · simp at q;rw [q];exact ht
theorem ixRun_ok {n n' i:Nat}:∀ (ms:List Mv5) (s:List (List Int) × List Tr4),TriOk n n' s.1 → (∀ m ∈ ms,TriIn n n' (mvT m)) → TriOk n n' (ixRun i s ms).1
  | [],s,h,_=>h
  | m :: ms,s,h,hm=>by
    simp only [ixRun,List.foldl_cons]
    exact ixRun_ok ms (Xw i s m) (h.add (hm m (by simp))) fun x hx=>hm x (by simp [hx])
theorem TriOk.len {n n':Nat} {L:List (List Int)} (h:TriOk n n' L) (hn:n ≤ 64) (hn':n' ≤ 64):L.length ≤ 8192:=by
  have h2:=pigeon 8192 (L.map fun t=>(nth t 0 * 64 + nth t 1) * 2 + nth t 2) (by
    refine List.pairwise_map.2 (List.Pairwise.imp_of_mem ?_ h.1)
    intro s t hs ht hne e
    apply hne
    obtain ⟨p,q,f,rfl,p1,q1,f1⟩:=h.2 s hs
    obtain ⟨p2,q2,f2,rfl,p3,q3,f3⟩:=h.2 t ht
    simp only [nth,List.getD_cons_zero,List.getD_cons_succ] at e
    have e1:p = p2:=by omega
    have e2:q = q2:=by omega
    have e3:f = f2:=by omega
    rw [e1,e2,e3]) (by
    intro x hx
    obtain ⟨t,ht,rfl⟩:=List.mem_map.1 hx
    obtain ⟨p,q,f,rfl,p1,q1,f1⟩:=h.2 t ht
    simp only [nth,List.getD_cons_zero,List.getD_cons_succ]
    omega)
  simpa using h2

structure IxS where
  l:List (List Int)
  e:List Tr4
  a:List Bool
def ixIin (X:IxP) (p:Int) (j:Nat):List (List Int):=(X.a'.take j).map fun q=>[p,q,0]
def ixIk (X:IxP) (k:Nat):List (List Int):=(X.a.take k).flatMap fun p=>ixIin X p X.a'.length
def ixI (X:IxP):List (List Int):=ixIk X X.a.length
theorem ixIin_zero (X:IxP) (p:Int):ixIin X p 0 = []:=rfl
theorem ixIin_succ {X:IxP} {p:Int} {j:Nat} (h:j < X.a'.length):ixIin X p (j + 1) = ixIin X p j ++ [[p,nth X.a' j,0]]:=by
  unfold ixIin;rw [List.take_succ_eq_append_getElem h,← Qy h];simp
theorem ixIin_len {X:IxP} {p:Int} {j:Nat} (h:j ≤ X.a'.length):(ixIin X p j).length = j:=by simp [ixIin,h]
theorem ixIk_zero (X:IxP):ixIk X 0 = []:=rfl
theorem ixIk_succ {X:IxP} {k:Nat} (h:k < X.a.length):ixIk X (k + 1) = ixIk X k ++ ixIin X (nth X.a k) X.a'.length:=by
  unfold ixIk;rw [List.take_succ_eq_append_getElem h,← Qy h];simp
theorem ixIk_len {X:IxP}:∀ k,k ≤ X.a.length → (ixIk X k).length = k * X.a'.length
  | 0,_=>by simp [ixIk_zero]
  | k + 1,h=>by rw [ixIk_succ (by omega),List.length_append,ixIk_len k (by omega),ixIin_len (Nat.le_refl _),Nat.succ_mul]
def ixE (X:IxP):Nat → IxS
  | 0=>⟨ixI X,[],[]⟩
  | i + 1=>⟨(ixRun i ((ixE X i).l,(ixE X i).e) (mvs X (nth (ixE X i).l i))).1,(ixRun i ((ixE X i).l,(ixE X i).e) (mvs X (nth (ixE X i).l i))).2,(ixE X i).a ++ [mvAc X (nth (ixE X i).l i)]⟩
theorem zaly (X:IxP):∀ i,(ixE X i).a.length = i
  | 0=>rfl
  | i + 1=>by simp [ixE,zaly X i]
def IxP.Ok (X:IxP):Prop:=AutOk X.a X.b.length X.c ∧ AutOk X.a' X.b'.length X.c'
theorem Jt {a:List Int} {n:Nat} {c:List Tr4} (h:AutOk a n c):(∀ p ∈ a,0 ≤ p ∧ p < n) ∧ a.Nodup ∧ ∀ e ∈ c,EdgeOk e n:=by
  obtain ⟨h1,h2,h3,h4,h5⟩:=h
  have up:∀ i,i < a.length → 0 ≤ nth a i ∧ nth a i < n:=by
    intro i
    induction i with
    | zero=>intro hi;have:=h3 0 hi;simp [ahead] at this;omega
    | succ i ih =>
      intro hi
      have h6:=h3 (i + 1) hi
      have h7:=ih (by omega)
      simp [ahead] at h6
      omega
  have asc:∀ d i,i + d + 1 < a.length → nth a i < nth a (i + d + 1):=by
    intro d
    induction d with
    | zero=>intro i hi;have:=h3 (i + 1) hi;simp [ahead] at this;simpa using this.1
    | succ d ih =>
      intro i hi
      have h6:=h3 (i + (d + 1) + 1) hi
      have h7:=ih i (by omega)
      simp [ahead] at h6
      have e:i + (d + 1) = i + d + 1:=by omega
      rw [e] at h6
      rw [e]
      omega
  refine ⟨fun p hp=>?_,?_,fun e he=>?_⟩
  · obtain ⟨i,hi,rfl⟩:=List.getElem_of_mem hp
    rw [← Qy hi];exact up i hi
  · rw [List.Nodup,List.pairwise_iff_getElem]
    intro i j hi hj hij
    rw [← Qy hi,← Qy hj]
    have:=asc (j - i - 1) i (by omega)
    rw [show i + (j - i - 1) + 1 = j by omega] at this
    omega
  · obtain ⟨i,hi,rfl⟩:=List.getElem_of_mem he
    rw [← Qy hi];exact h5 i hi
theorem mvPh_01 {X:IxP} {t:List Int} (h:nth t 2 = 0 ∨ nth t 2 = 1):mvPh X t = 0 ∨ mvPh X t = 1:=by
  unfold mvPh;split
  · exact .inr rfl
  · split
    · exact .inl rfl
    · exact h
theorem mvE_in {X:IxP} (hX:X.Ok) {t:List Int} (ht:TriIn X.b.length X.b'.length t) {e f:Tr4} (he:e ∈ X.c) (hf:f ∈ X.c'):TriIn X.b.length X.b'.length (mvT (mvE (mvPh X t) e f)):=by
  obtain ⟨p,q,f0,rfl,p1,q1,f1⟩:=ht
  have h1:=(Jt hX.1).2.2 e he
  have h2:=(Jt hX.2).2.2 f hf
  exact ⟨_,_,_,rfl,⟨h1.2.2.1,h1.2.2.2.1⟩,⟨h2.2.2.1,h2.2.2.2.1⟩,mvPh_01 f1⟩
theorem mvIn_in {X:IxP} (hX:X.Ok) {t:List Int} (ht:TriIn X.b.length X.b'.length t) {e:Tr4} (he:e ∈ X.c) {j:Nat}:∀ m ∈ mvIn X t e j,TriIn X.b.length X.b'.length (mvT m):=fun m hm=>by
  obtain ⟨f,f1,_,rfl⟩:=mem_mvIn hm
  exact mvE_in hX ht he f1
theorem mvOut_in {X:IxP} (hX:X.Ok) {t:List Int} (ht:TriIn X.b.length X.b'.length t) {k:Nat}:∀ m ∈ mvOut X t k,TriIn X.b.length X.b'.length (mvT m):=fun m hm=>by
  obtain ⟨e,f,e1,f1,_,rfl⟩:=mem_mvOut hm
  exact mvE_in hX ht e1 f1
theorem ixI_ok {X:IxP} (hX:X.Ok):TriOk X.b.length X.b'.length (ixI X):=by
  obtain ⟨a1,a2,_⟩:=Jt hX.1
  obtain ⟨b1,b2,_⟩:=Jt hX.2
  refine ⟨?_,fun t ht=>?_⟩
  · unfold ixI ixIk
    rw [List.take_length,List.Nodup,List.pairwise_flatMap]
    refine ⟨fun p hp=>?_,List.Pairwise.imp ?_ a2⟩
    · unfold ixIin
      rw [List.take_length]
      exact List.pairwise_map.2 (List.Pairwise.imp (fun h e=>h (by simpa using e)) b2)
    · intro p q hpq s hs t ht e
      simp only [ixIin,List.mem_map] at hs ht
      obtain ⟨_,_,rfl⟩:=hs
      obtain ⟨_,_,e2⟩:=ht
      rw [← e2] at e
      simp at e
      exact hpq e.1
  · simp only [ixI,ixIk,ixIin,List.take_length,List.mem_flatMap,List.mem_map] at ht
    obtain ⟨p,hp,q,hq,rfl⟩:=ht
    exact ⟨p,q,0,rfl,a1 p hp,b1 q hq,.inl rfl⟩
theorem ixE_pre (X:IxP) (i:Nat):(∃ r,(ixE X (i + 1)).l = (ixE X i).l ++ r) ∧ ∃ r,(ixE X (i + 1)).e = (ixE X i).e ++ r:=by
  have:=ixRun_pre i (mvs X (nth (ixE X i).l i)) ((ixE X i).l,(ixE X i).e)
  exact this
theorem ixE_preN (X:IxP) (i:Nat):∀ d,(∃ r,(ixE X (i + d)).l = (ixE X i).l ++ r) ∧ ∃ r,(ixE X (i + d)).e = (ixE X i).e ++ r
  | 0=>⟨⟨[],by simp⟩,[],by simp⟩
  | d + 1=>by
    obtain ⟨⟨r1,h1⟩,r2,h2⟩:=ixE_preN X i d
    obtain ⟨⟨r3,h3⟩,r4,h4⟩:=ixE_pre X (i + d)
    exact ⟨⟨r1 ++ r3,by rw [show i + (d + 1) = i + d + 1 from rfl,h3,h1,List.append_assoc]⟩,r2 ++ r4,by rw [show i + (d + 1) = i + d + 1 from rfl,h4,h2,List.append_assoc]⟩
theorem ixE_ok {X:IxP} (hX:X.Ok):∀ i,(∀ j,j < i → j < (ixE X j).l.length) → TriOk X.b.length X.b'.length (ixE X i).l
  | 0,_=>ixI_ok hX
  | i + 1,h=>by
    have ih:=ixE_ok hX i (fun j hj=>h j (by omega))
    have hi:=h i (by omega)
    exact ixRun_ok _ _ ih (mvOut_in hX (ih.2 _ (Xl hi)))
def IxUp (X:IxP) (i:Nat):Prop:=∀ j,j < i → j < (ixE X j).l.length
theorem IxUp.zero (X:IxP):IxUp X 0:=fun _ h=>absurd h (by omega)
theorem IxUp.succ {X:IxP} {i:Nat} (h:IxUp X i) (hi:i < (ixE X i).l.length):IxUp X (i + 1):=fun j hj=>by
  by_cases e:j = i
  · subst e;exact hi
  · exact h j (by omega)
theorem IxUp.le {X:IxP} (hX:X.Ok) {i:Nat} (h:IxUp X i):(ixE X i).l.length ≤ 8192 ∧ i ≤ 8192:=by
  have h1:=(ixE_ok hX i h).len hX.1.2.1 hX.2.2.1
  refine ⟨h1,?_⟩
  cases i with
  | zero=>omega
  | succ i =>
    have h2:=h i (by omega)
    have h3:=(ixE_ok hX i (fun j hj=>h j (by omega))).len hX.1.2.1 hX.2.2.1
    omega
theorem ix_ends {X:IxP} (hX:X.Ok):∃ N,IxUp X N ∧ (ixE X N).l.length ≤ N:=by
  apply Classical.byContradiction
  intro hc
  have all:∀ i,IxUp X i:=by
    intro i
    induction i with
    | zero=>exact .zero X
    | succ i ih=>exact ih.succ (Classical.byContradiction fun h=>hc ⟨i,ih,by omega⟩)
  have:=(all 8193).le hX
  omega
open Classical in
noncomputable def ixN (X:IxP):Nat:=if h:∃ N,IxUp X N ∧ (ixE X N).l.length ≤ N then h.choose else 0
theorem ixN_spec {X:IxP} (hX:X.Ok):IxUp X (ixN X) ∧ (ixE X (ixN X)).l.length ≤ ixN X:=by
  have h:=ix_ends hX
  unfold ixN
  rw [dif_pos h]
  exact h.choose_spec
theorem ixN_le {X:IxP} (hX:X.Ok) {i:Nat} (h:IxUp X i):i ≤ ixN X:=by
  have h1:=ixN_spec hX
  apply Classical.byContradiction
  intro hc
  have:=h (ixN X) (by omega)
  omega
theorem ixN_eq {X:IxP} (hX:X.Ok) {i:Nat} (h:IxUp X i) (hl:(ixE X i).l.length ≤ i):i = ixN X:=by
  have h1:=ixN_spec hX
  have h2:=ixN_le hX h
  apply Classical.byContradiction
  intro hc
  have:=h1.1 i (by omega)
  omega
theorem ixN_len {X:IxP} (hX:X.Ok):(ixE X (ixN X)).l.length = ixN X:=by
  obtain ⟨h1,h2⟩:=ixN_spec hX
  rcases Nat.lt_or_ge (ixE X (ixN X)).l.length (ixN X) with h | h
  · exfalso
    obtain ⟨m,hm⟩:∃ m,ixN X = m + 1:=⟨ixN X - 1,by omega⟩
    have h3:=h1 m (by omega)
    obtain ⟨⟨r,hr⟩,_⟩:=ixE_pre X m
    rw [hm] at h
    rw [hr] at h
    simp at h
    omega
  · omega
noncomputable def ixF (X:IxP):IxS:=if ixI X = [] then ⟨[],[],[false]⟩ else ixE X (ixN X)
def ups (n:Nat):List Int:=(List.range n).map fun k:Nat=>(k:Int)
theorem ups_zero:ups 0 = []:=rfl
theorem Zz (n:Nat):(ups n).length = n:=by simp [ups]
theorem ups_succ (n:Nat):ups (n + 1) = ups n ++ [(n:Int)]:=by simp [ups,List.range_succ]
def Zd (X:IxP):Prop:=AutOk (ups (ixI X).length) (ixF X).a.length (ixF X).e
theorem ix_none {X:IxP} (hX:X.Ok) (h:ixI X = []):ixF X = ⟨[],[],[false]⟩ ∧ Zd X ∧ ixN X = 0:=by
  have e:ixF X = ⟨[],[],[false]⟩:=if_pos h
  refine ⟨e,?_,?_⟩
  · unfold Zd
    rw [e,h]
    exact ⟨by simp,by simp,fun i hi=>by simp [ups] at hi,by simp,fun i hi=>by simp at hi⟩
  · exact (ixN_eq hX (.zero X) (by simp [ixE,h])).symm
theorem ix_big {X:IxP} (hX:X.Ok) {i:Nat} (h:IxUp X i) (h2:64 < (ixE X i).l.length ∨ 2048 < (ixE X i).e.length):¬ Zd X:=by
  intro hg
  obtain ⟨_,g2,_,g4,_⟩:=hg
  have hle:=ixN_le hX h
  obtain ⟨⟨r1,h3⟩,r2,h4⟩:=ixE_preN X i (ixN X - i)
  rw [show i + (ixN X - i) = ixN X by omega] at h3 h4
  have hN:=ixN_len hX
  have h5:(ixE X i).l.length ≤ ixN X:=by rw [← hN,h3];simp
  have h6:(ixE X i).e.length ≤ (ixE X (ixN X)).e.length:=by rw [h4];simp
  have e:ixF X = ixE X (ixN X):=by
    unfold ixF
    rw [if_neg]
    intro hI
    have hz:=(ix_none hX hI).2.2
    rw [hz] at hle
    obtain rfl:i = 0:=by omega
    simp [ixE,hI] at h2
  rw [e,zaly] at g2
  rw [e] at g4
  omega
def esT:Nat → List (List Int) → List (List Int × Int)
  | _,[]=>[]
  | n,x :: d=>(x,(n:Int)) :: esT (n + 1) d
theorem esT_tri {n n':Nat}:∀ (m:Nat) (d:List (List Int)),(∀ t ∈ d,TriIn n n' t) → TriKey (esT m d)
  | _,[],_=>fun e h=>by simp [esT] at h
  | m,x :: d,ht=>fun e h=>by
    rw [esT,List.mem_cons] at h
    rcases h with rfl | h
    · obtain ⟨p,q,f,e,_⟩:=ht x (by simp)
      simp [e]
    · exact esT_tri (m + 1) d (fun t q=>ht t (by simp [q])) e h
theorem find_esT (x:List Int):∀ (n:Nat) (d:List (List Int)),findT x (esT n d) = if x ∈ d then some ((n + d.idxOf x:Nat):Int) else none
  | _,[]=>by simp [esT,findT]
  | n,y :: d=>by
    rw [esT,findT]
    by_cases c:y = x
    · subst c;simp
    · have c3:¬ x = y:=fun e=>c e.symm
      rw [if_neg c,find_esT x (n + 1) d]
      by_cases q:x ∈ d
      · rw [if_pos q,if_pos (List.mem_cons_of_mem _ q),List.idxOf_cons]
        have:(y == x) = false:=by simpa using c
        rw [this];simp;omega
      · rw [if_neg q,if_neg (by simp [q,c3])]
theorem put_esT (x:List Int):∀ (n:Nat) (d:List (List Int)),¬ x ∈ d → putT x ((n + d.length:Nat):Int) (esT n d) = esT n (d ++ [x])
  | n,[],_=>by simp [esT,putT]
  | n,y :: d,h=>by
    have c:¬ y = x:=fun e=>h (by simp [e])
    rw [esT,putT,if_neg c,List.cons_append,esT]
    have:=put_esT x (n + 1) d (fun q=>h (List.mem_cons_of_mem _ q))
    rw [show n + (y :: d).length = n + 1 + d.length by simp;omega,this]
theorem find_some {x:List Int} {L:List (List Int)} (h:x ∈ L):findT x (esT 0 L) = some (L.idxOf x:Int):=by rw [find_esT,if_pos h];simp
theorem find_none {x:List Int} {L:List (List Int)} (h:¬ x ∈ L):findT x (esT 0 L) = none:=by rw [find_esT,if_neg h]
theorem put_new {x:List Int} {L:List (List Int)} (h:¬ x ∈ L):putT x (L.length:Int) (esT 0 L) = esT 0 (L ++ [x]):=by
  have:=put_esT x 0 L h
  rwa [Nat.zero_add] at this
theorem bits_nat:((List.range 8).all fun x=>(List.range 8).all fun y=>decide (bitsD .and .i64 (x:Int) (y:Int) = ((x &&& y:Nat):Int)) && (decide (bitsD .or .i64 (x:Int) (y:Int) = ((x ||| y:Nat):Int)) && decide (bitsD .xor .i64 (x:Int) (y:Int) = ((x ^^^ y:Nat):Int)))) = true:=by decide +kernel
theorem Uf {x y:Nat} (hx:x < 8) (hy:y < 8):bitsD .and .i64 (x:Int) (y:Int) = ((x &&& y:Nat):Int) ∧ bitsD .or .i64 (x:Int) (y:Int) = ((x ||| y:Nat):Int) ∧ bitsD .xor .i64 (x:Int) (y:Int) = ((x ^^^ y:Nat):Int):=by
  have h:=List.all_eq_true.1 (List.all_eq_true.1 bits_nat x (List.mem_range.2 hx)) y (List.mem_range.2 hy)
  simpa [Bool.and_eq_true,decide_eq_true_eq] using h
theorem bits_fit {w c v c' v':Nat} (h1:v &&& c = v) (h2:v' &&& c' = v'):(((v ^^^ v') &&& c) &&& c' = 0 ∧ w &&& (c ||| c') = v ||| v') ↔ (w &&& c = v ∧ w &&& c' = v'):=by
  have key:∀ V C V' C' W:Bool,(V && C) = V → (V' && C') = V' → ((((V ^^ V') && C) && C') = false ∧ (W && (C || C')) = (V || V') ↔ (W && C) = V ∧ (W && C') = V'):=by decide
  have b1:∀ i,(v.testBit i && c.testBit i) = v.testBit i:=fun i=>by rw [← Nat.testBit_and,h1]
  have b2:∀ i,(v'.testBit i && c'.testBit i) = v'.testBit i:=fun i=>by rw [← Nat.testBit_and,h2]
  constructor
  · rintro ⟨h3,h4⟩
    have b3:∀ i,(((v.testBit i ^^ v'.testBit i) && c.testBit i) && c'.testBit i) = false:=fun i=>by rw [← Nat.testBit_xor,← Nat.testBit_and,← Nat.testBit_and,h3,Nat.zero_testBit]
    have b4:∀ i,(w.testBit i && (c.testBit i || c'.testBit i)) = (v.testBit i || v'.testBit i):=fun i=>by rw [← Nat.testBit_or,← Nat.testBit_and,h4,Nat.testBit_or]
    refine ⟨Nat.eq_of_testBit_eq fun i=>?_,Nat.eq_of_testBit_eq fun i=>?_⟩
    · rw [Nat.testBit_and];exact ((key _ _ _ _ _ (b1 i) (b2 i)).1 ⟨b3 i,b4 i⟩).1
    · rw [Nat.testBit_and];exact ((key _ _ _ _ _ (b1 i) (b2 i)).1 ⟨b3 i,b4 i⟩).2
  · rintro ⟨h3,h4⟩
    have b3:∀ i,(w.testBit i && c.testBit i) = v.testBit i:=fun i=>by rw [← Nat.testBit_and,h3]
    have b4:∀ i,(w.testBit i && c'.testBit i) = v'.testBit i:=fun i=>by rw [← Nat.testBit_and,h4]
    refine ⟨Nat.eq_of_testBit_eq fun i=>?_,Nat.eq_of_testBit_eq fun i=>?_⟩
    · rw [Nat.testBit_and,Nat.testBit_and,Nat.testBit_xor,Nat.zero_testBit];exact ((key _ _ _ _ _ (b1 i) (b2 i)).2 ⟨b3 i,b4 i⟩).1
    · rw [Nat.testBit_and,Nat.testBit_or,Nat.testBit_or];exact ((key _ _ _ _ _ (b1 i) (b2 i)).2 ⟨b3 i,b4 i⟩).2
def Oct (x:Int):Prop:=0 ≤ x ∧ x ≤ 7
theorem and_le7 {x y:Nat} (hx:x < 8):x &&& y < 8:=Nat.lt_of_le_of_lt Nat.and_le_left hx
theorem or_lt8 {x y:Nat} (hx:x < 8) (hy:y < 8):x ||| y < 8:=Nat.or_lt_two_pow (n:=3) hx hy
theorem xor_lt8 {x y:Nat} (hx:x < 8) (hy:y < 8):x ^^^ y < 8:=Nat.xor_lt_two_pow (n:=3) hx hy
theorem EdgeOk.oct {e:Tr4} {n:Int} (h:EdgeOk e n):∃ c v:Nat,e.2.1 = (c:Int) ∧ e.2.2.1 = (v:Int) ∧ c < 8 ∧ v < 8 ∧ v &&& c = v:=by
  obtain ⟨_,_,_,_,c0,c1,v0,v1⟩:=h
  obtain ⟨c,hc⟩:=Int.eq_ofNat_of_zero_le c0
  have hc8:c < 8:=by omega
  have hv:e.2.2.1 ≤ 7:=by
    rw [← v1]
    have hcc:bitsD .and .i64 e.2.2.1 e.2.1 = (((BitVec.ofInt 64 e.2.2.1 &&& BitVec.ofInt 64 e.2.1).toNat:Nat):Int):=by
      have hle:(BitVec.ofInt 64 e.2.2.1 &&& BitVec.ofInt 64 e.2.1).toNat ≤ (BitVec.ofInt 64 e.2.1).toNat:=by
        rw [BitVec.toNat_and];exact Nat.and_le_right
      have h7:(BitVec.ofInt 64 e.2.1).toNat ≤ 7:=by
        rw [hc,BitVec.ofInt_natCast,BitVec.toNat_ofNat]
        exact Nat.le_trans (Nat.mod_le ..) (by omega)
      show IntKind.i64.wrap (((BitVec.ofInt 64 e.2.2.1 &&& BitVec.ofInt 64 e.2.1).toNat:Nat):Int) = _
      exact Qw (by omega) (by omega)
    rw [hcc]
    have hle:(BitVec.ofInt 64 e.2.2.1 &&& BitVec.ofInt 64 e.2.1).toNat ≤ (BitVec.ofInt 64 e.2.1).toNat:=by
      rw [BitVec.toNat_and];exact Nat.and_le_right
    have h7:(BitVec.ofInt 64 e.2.1).toNat ≤ 7:=by
      rw [hc,BitVec.ofInt_natCast,BitVec.toNat_ofNat]
      exact Nat.le_trans (Nat.mod_le ..) (by omega)
    omega
  obtain ⟨v,hv2⟩:=Int.eq_ofNat_of_zero_le v0
  have hv8:v < 8:=by omega
  refine ⟨c,v,hc,hv2,hc8,hv8,?_⟩
  have:=(Uf hv8 hc8).1
  rw [← hv2,← hc,v1,hv2] at this
  omega
theorem mvE_small {X:IxP} (hX:X.Ok) {ph:Int} {e f:Tr4} (he:e ∈ X.c) (hf:f ∈ X.c'):0 ≤ (mvE ph e f).2.1 ∧ (mvE ph e f).2.1 ≤ 7:=by
  obtain ⟨c,v,hc,hv,c8,v8,cv⟩:=EdgeOk.oct ((Jt hX.1).2.2 e he)
  obtain ⟨c',v',hc',hv',c8',v8',cv'⟩:=EdgeOk.oct ((Jt hX.2).2.2 f hf)
  have q:=(Uf v8 v8').2.1
  have l:=or_lt8 v8 v8'
  simp only [mvE,hv,hv',q]
  omega
def SmallE (es:List Tr4):Prop:=∀ e ∈ es,0 ≤ e.2.2.1 ∧ e.2.2.1 ≤ 7
theorem SmallE.all {es:List Tr4} (h:SmallE es):Xn es:=fun i hi=>by
  have:=h (nth es i) (Xl hi);omega
theorem zaoh {i:Nat}:∀ (ms:List Mv5) (s:List (List Int) × List Tr4),SmallE s.2 → (∀ m ∈ ms,0 ≤ m.2.1 ∧ m.2.1 ≤ 7) → SmallE (ixRun i s ms).2
  | [],s,h,_=>h
  | m :: ms,s,h,hm=>by
    simp only [ixRun,List.foldl_cons]
    refine zaoh ms (Xw i s m) (fun e he=>?_) fun x hx=>hm x (by simp [hx])
    simp only [Xw] at he
    rcases List.mem_append.1 he with q | q
    · exact h e q
    · simp only [List.mem_singleton] at q
      rw [q];exact hm m (by simp)
theorem mvOut_small {X:IxP} (hX:X.Ok) {t:List Int} {k:Nat}:∀ m ∈ mvOut X t k,0 ≤ m.2.1 ∧ m.2.1 ≤ 7:=fun m hm=>by
  obtain ⟨e,f,e1,f1,_,rfl⟩:=mem_mvOut hm
  exact mvE_small hX e1 f1
theorem ixE_small {X:IxP} (hX:X.Ok):∀ i,SmallE (ixE X i).e
  | 0=>fun e he=>by simp [ixE] at he
  | i + 1=>zaoh _ _ (ixE_small hX i) (mvOut_small hX)
end Go.Proofs.Ytnfldmfamnhpcaa.Vm

