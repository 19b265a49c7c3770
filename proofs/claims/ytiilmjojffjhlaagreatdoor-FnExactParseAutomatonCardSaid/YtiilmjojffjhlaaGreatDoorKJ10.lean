import Derived.Test.YtiilmjojffjhlaaGreatDoorKJ1
import Derived.Test.YtiilmjojffjhlaaGreatDoorKB3
import Derived.Test.YtiilmjojffjhlaaGreatDoorKJ4
import Derived.Test.YtiilmjojffjhlaaGreatDoorKTr
/-
  Components, plain: all nodes searched; numbers in the order of first occurrence. No conditions.
-/
namespace Go.Proofs.YtiilmjojffjhlaaGreatDoor.Vm
open Go
open List renaming replicate → zrP
noncomputable section
set_option linter.unusedVariables false
set_option linter.unusedSimpArgs false
set_option maxRecDepth 200000

def tInit (n:Nat):TS:=⟨zrP n 0,zrP n 0,zrP n (-1),[],0,0⟩
def NoG (_:Int):Prop:=False
theorem nth_rep {v:Int} {n k:Nat} (h:k < n):nth (zrP n v) k = v:=by rw [nth_lt (by simpa using h)];simp
theorem Inv.start (nx:List (List Int)):Inv nx NoG (tInit nx.length):=by
  have h0:∀ x,Nd nx x → gt (tInit nx.length).num x = 0:=fun x h=>nth_rep (by have:=h.1;have:=h.2;omega)
  have h1:∀ x,Nd nx x → gt (tInit nx.length).part x = -1:=fun x h=>nth_rep (by have:=h.1;have:=h.2;omega)
  refine ⟨by simp [tInit],by simp [tInit],by simp [tInit],fun x h=>?_,fun x h=>?_,by simp [tInit],fun x h=>?_,?_,by simp [tInit],fun x=>?_,by simp [tInit],fun x h _=>?_,fun x h=>h.elim,fun x h q=>?_,fun x y h=>?_,fun x h=>?_,fun x h q=>?_,fun x y h _ q=>?_⟩
  · rw [h0 x h];simp [tInit]
  · rw [h1 x h];simp [tInit]
  · rw [h1 x h];simp
  · simp [tInit,wh_rep]
  · constructor
    · intro h;simp [tInit] at h
    · rintro ⟨q1,q2,_⟩;exact absurd (h0 x q1) q2
  · rw [h1 x h];simp
  · exact absurd (h0 x h) q
  · simp [tInit] at h
  · simp [tInit] at h
  · rw [h1 x h] at q;simp at q
  · rw [h1 x h] at q;simp at q
def dist (xs:List Int):List Int:=xs.foldl (fun d x=>if x ∈ d then d else d ++ [x]) []
theorem dist_snoc (xs:List Int) (x:Int):dist (xs ++ [x]) = if x ∈ dist xs then dist xs else dist xs ++ [x]:=by unfold dist;rw [List.foldl_append];rfl
theorem dist_succ {xs:List Int} {k:Nat} (h:k < xs.length):dist (xs.take (k + 1)) = if nth xs k ∈ dist (xs.take k) then dist (xs.take k) else dist (xs.take k) ++ [nth xs k]:=by
  rw [List.take_succ_eq_append_getElem h,← nth_lt h,dist_snoc]
theorem mem_dist (xs:List Int):∀ k,k ≤ xs.length → ∀ x,x ∈ dist (xs.take k) ↔ x ∈ xs.take k
  | 0,_,x=>by simp [dist]
  | k + 1,hk,x=>by
    rw [dist_succ (by omega)]
    have ih:=mem_dist xs k (by omega)
    have e:x ∈ xs.take (k + 1) ↔ x ∈ xs.take k ∨ x = nth xs k:=by
      rw [List.take_succ_eq_append_getElem (by omega),← nth_lt (by omega),List.mem_append,List.mem_singleton]
    rw [e]
    split
    · rename_i c
      rw [ih]
      constructor
      · exact .inl
      · rintro (q | q)
        · exact q
        · subst q;exact (ih _).1 c
    · rw [List.mem_append,List.mem_singleton,ih]
def named (xs:List Int) (k:Nat):List Int:=(xs.take k).map fun x=>((dist (xs.take k)).idxOf x:Int)
theorem named_len {xs:List Int} {k:Nat} (h:k ≤ xs.length):(named xs k).length = k:=by simp [named,h]
theorem named_succ {xs:List Int} {k:Nat} (h:k < xs.length):named xs (k + 1) = named xs k ++ [((dist (xs.take (k + 1))).idxOf (nth xs k):Int)]:=by
  have e:xs.take (k + 1) = xs.take k ++ [nth xs k]:=by rw [List.take_succ_eq_append_getElem h,← nth_lt h]
  unfold named
  conv=>lhs;rw [show (fun x=>((dist (xs.take (k + 1))).idxOf x:Int)) = (fun x=>((dist (xs.take (k + 1))).idxOf x:Int)) from rfl]
  rw [e,List.map_append]
  congr 1
  apply List.map_congr_left
  intro x hx
  rw [dist_snoc]
  split
  · rfl
  · rw [List.idxOf_append,if_pos ((mem_dist xs k (by omega) x).2 hx)]
theorem nth_named {xs:List Int} {k j:Nat} (h:k ≤ xs.length) (hj:j < k):nth (named xs k) j = ((dist (xs.take k)).idxOf (nth xs j):Int):=by
  rw [nth_lt (by rw [named_len h];exact hj)]
  simp [named,nth_lt (show j < xs.length by omega)]
theorem named_old {xs:List Int} {k j:Nat} (h:k < xs.length) (hj:j < k) (e:nth xs j = nth xs k):named xs (k + 1) = named xs k ++ [nth (named xs k) j] ∧ dist (xs.take (k + 1)) = dist (xs.take k):=by
  have hm:nth xs k ∈ dist (xs.take k):=by
    rw [mem_dist xs k (by omega),← e,mem_nth]
    exact ⟨j,by simp;omega,by rw [zafq hj]⟩
  have e2:dist (xs.take (k + 1)) = dist (xs.take k):=by rw [dist_succ h,if_pos hm]
  refine ⟨?_,e2⟩
  rw [named_succ h,e2,nth_named (by omega) hj,e]
theorem named_new {xs:List Int} {k:Nat} (h:k < xs.length) (hn:∀ j,j < k → ¬ nth xs j = nth xs k):named xs (k + 1) = named xs k ++ [((dist (xs.take k)).length:Int)] ∧ dist (xs.take (k + 1)) = dist (xs.take k) ++ [nth xs k]:=by
  have hm:¬ nth xs k ∈ dist (xs.take k):=by
    rw [mem_dist xs k (by omega),mem_nth]
    rintro ⟨j,q1,q2⟩
    rw [List.length_take] at q1
    rw [zafq (by omega)] at q2
    exact hn j (by omega) q2
  have e2:dist (xs.take (k + 1)) = dist (xs.take k) ++ [nth xs k]:=by rw [dist_succ h,if_neg hm]
  refine ⟨?_,e2⟩
  rw [named_succ h,e2,List.idxOf_append,if_neg hm]
  simp


@[go_sem] def Γj1:FuncId → Con:=Γs8
theorem Γj1_ok:∀ g,ConOk Tryz.prog g (Γj1 g):=Γs8_ok

def Cf (xs:List Int) (i k:Nat) (c:Int):Prop:=(c = -1 ∧ ∀ j,j < k → ¬ nth xs j = nth xs i) ∨ (0 ≤ c ∧ ∃ j,j < i ∧ nth xs j = nth xs i ∧ c = nth (named xs i) j)
theorem Cf.zero (xs:List Int) (i:Nat):Cf xs i 0 (-1):=.inl ⟨rfl,fun j hj=>by omega⟩
theorem Cf.new {xs:List Int} {i:Nat} {c:Int} (h:Cf xs i i c) (hc:c < 0) (hi:i < xs.length):named xs (i + 1) = named xs i ++ [((dist (xs.take i)).length:Int)] ∧ (dist (xs.take (i + 1))).length = (dist (xs.take i)).length + 1:=by
  rcases h with ⟨rfl,h⟩ | ⟨h,_⟩
  · obtain ⟨h1,h2⟩:=named_new hi h
    exact ⟨h1,by rw [h2];simp⟩
  · omega
theorem Cf.old {xs:List Int} {i k:Nat} {c:Int} (h:Cf xs i k c) (hc:¬ c < 0) (hi:i < xs.length):named xs (i + 1) = named xs i ++ [c] ∧ (dist (xs.take (i + 1))).length = (dist (xs.take i)).length:=by
  rcases h with ⟨rfl,h⟩ | ⟨_,j,h1,h2,h3⟩
  · omega
  · obtain ⟨g1,g2⟩:=named_old hi h1 h2
    exact ⟨by rw [g1,h3],by rw [g2]⟩
def Cyc (nx:List (List Int)) (x:Int):Prop:=∃ y,y ∈ nth nx x.toNat ∧ Rch nx y x
def SameN (nx my:List (List Int)):Prop:=nx.length = my.length ∧ ∀ i,i < nx.length → ∀ y,y ∈ nth nx i ↔ y ∈ nth my i
theorem SameN.symm {nx my:List (List Int)} (h:SameN nx my):SameN my nx:=⟨h.1.symm,fun i hi y=>(h.2 i (by rw [h.1];exact hi) y).symm⟩
def RchS (nx:List (List Int)) (ss:List Int) (x:Int):Prop:=∃ s,s ∈ ss ∧ Rch nx s x
def rchL (nx:List (List Int)) (ss:List Int):List Bool:=(List.range nx.length).map fun i:Nat=>Vm.B (RchS nx ss (i:Int))
theorem rchL_len (nx:List (List Int)) (ss:List Int):(rchL nx ss).length = nx.length:=by simp [rchL]
theorem nth_rchL {nx:List (List Int)} {ss:List Int} {i:Nat} (h:i < nx.length):nth (rchL nx ss) i = Vm.B (RchS nx ss (i:Int)):=by
  rw [nth_lt (by rw [rchL_len];exact h)];simp [rchL]
def mkd (m:List Bool) (x:Int):Prop:=nth m x.toNat = true
def un (m:List Bool):Nat:=(m.filter (fun x=>!x)).length
theorem un_set:∀ {m:List Bool} {k:Nat},k < m.length → nth m k = false → un (m.set k true) + 1 = un m
  | [],k,h,_=>by simp at h
  | x :: P,0,h,hx=>by
    have:x = false:=hx
    subst this
    simp [un]
  | x :: P,k + 1,h,hx=>by
    have ih:=un_set (m:=P) (k:=k) (by simpa using h) hx
    unfold un at ih ⊢
    rw [List.set_cons_succ,List.filter_cons,List.filter_cons]
    split <;> (try simp only [List.length_cons]) <;> omega
theorem un_le (m:List Bool):un m ≤ m.length:=List.length_filter_le ..
theorem mk_set {nx:List (List Int)} {m:List Bool} {x y:Int} (hl:m.length = nx.length) (hx:Nd nx x) (hy:Nd nx y):mkd (m.set x.toNat true) y ↔ x = y ∨ mkd m y:=by
  obtain ⟨h1,h2⟩:=hx
  obtain ⟨h3,h4⟩:=hy
  unfold mkd
  by_cases e:x.toNat = y.toNat
  · have:x = y:=by omega
    subst this
    rw [zaau (by omega)];simp
  · rw [zabz e]
    have:¬ x = y:=fun q=>e (by rw [q])
    simp [this]

@[go_sem] def Γj2:FuncId → Con:=Γj1
theorem Γj2_ok:∀ g,ConOk Tryz.prog g (Γj2 g):=Γj1_ok

@[go_sem] def Γj3:FuncId → Con:=Γj2
theorem Γj3_ok:∀ g,ConOk Tryz.prog g (Γj3 g):=Γj2_ok
@[go_sem] def Γj4:FuncId → Con:=Γj3
theorem Γj4_ok:∀ g,ConOk Tryz.prog g (Γj4 g):=Γj3_ok

structure DI (nx:List (List Int)) (ss:List Int) (a:Int) (k:Nat) (m:List Bool) (td:List Int):Prop where
  ln:m.length = nx.length
  nd:∀ x,x ∈ td → Nd nx x ∧ mkd m x
  st:∀ s,s ∈ ss → mkd m s
  rc:∀ x,Nd nx x → mkd m x → RchS nx ss x
  cl:∀ x,Nd nx x → mkd m x → x ∈ td ∨ (∀ y,y ∈ nth nx x.toNat → mkd m y) ∨ (x = a ∧ ∀ y,y ∈ (nth nx a.toNat).take k → mkd m y)
  bd:td.length + un m ≤ ss.length + nx.length
def Je (n:Nat) (ss:List Int) (k:Nat):List Bool:=(ss.take k).foldl (fun m x=>m.set x.toNat true) (zrP n false)
theorem marksK_zero (n:Nat) (ss:List Int):Je n ss 0 = zrP n false:=by simp [Je]
theorem marksK_succ {n:Nat} {ss:List Int} {k:Nat} (h:k < ss.length):(Je n ss k).set (nth ss k).toNat true = Je n ss (k + 1):=by
  unfold Je
  rw [List.take_succ_eq_append_getElem h,List.foldl_append,← nth_lt h];rfl
theorem zafu (n:Nat) (ss:List Int) (k:Nat):(Je n ss k).length = n:=by
  have:∀ (l:List Int) (m:List Bool),(l.foldl (fun m x=>m.set x.toNat true) m).length = m.length:=by
    intro l
    induction l with
    | nil=>intro m;rfl
    | cons x l ih=>intro m;rw [List.foldl_cons,ih,List.length_set]
  rw [Je,this,List.length_replicate]
theorem marksK_mk {nx:List (List Int)} {ss:List Int} (hs:∀ x,x ∈ ss → Nd nx x):∀ k,k ≤ ss.length → ∀ x,Nd nx x → (mkd (Je nx.length ss k) x ↔ x ∈ ss.take k)
  | 0,_,x,hx=>by
    have:=hx.1;have:=hx.2
    rw [marksK_zero]
    unfold mkd
    rw [nth_lt (by simp;omega)];simp
  | k + 1,hk,x,hx=>by
    have ih:=marksK_mk hs k (by omega) x hx
    rw [← marksK_succ (by omega),mk_set (nx:=nx) (zafu ..) (hs _ (Jn (by omega))) hx,ih,List.take_succ_eq_append_getElem (by omega),← nth_lt (by omega),List.mem_append,List.mem_singleton]
    constructor
    · rintro (q | q)
      · exact .inr q.symm
      · exact .inl q
    · rintro (q | q)
      · exact .inr q
      · exact .inl q.symm
theorem DI.start {nx:List (List Int)} {ss:List Int} (hs:∀ x,x ∈ ss → Nd nx x):DI nx ss (-1) 0 (Je nx.length ss ss.length) ss:=by
  have hm:∀ x,Nd nx x → (mkd (Je nx.length ss ss.length) x ↔ x ∈ ss):=fun x hx=>by
    have:=marksK_mk hs ss.length (Nat.le_refl _) x hx
    rwa [List.take_length] at this
  refine ⟨zafu ..,fun x q=>⟨hs x q,(hm x (hs x q)).2 q⟩,fun s q=>(hm s (hs s q)).2 q,fun x hx q=>⟨x,(hm x hx).1 q,.refl x⟩,fun x hx q=>.inl ((hm x hx).1 q),?_⟩
  have:=un_le (Je nx.length ss ss.length)
  rw [zafu] at this
  omega
theorem DI.none {nx:List (List Int)} {ss:List Int} {m:List Bool} {td:List Int} (h:DI nx ss (-1) 0 m td):DI nx ss (-1) (nth nx (-1:Int).toNat).length m td :=
  ⟨h.ln,h.nd,h.st,h.rc,fun x hx q=>by
    rcases h.cl x hx q with c | c | ⟨rfl,c⟩
    · exact .inl c
    · exact .inr (.inl c)
    · have:=hx.1;omega,h.bd⟩
theorem take_memS {ns:List Int} {k:Nat} (h:k < ns.length) {y:Int}:y ∈ ns.take (k + 1) ↔ y ∈ ns.take k ∨ y = nth ns k:=by
  rw [List.take_succ_eq_append_getElem h,← nth_lt h,List.mem_append,List.mem_singleton]
theorem DI.skip {nx:List (List Int)} {ss:List Int} {a:Int} {k:Nat} {m:List Bool} {td:List Int} (h:DI nx ss a k m td) (hk:k < (nth nx a.toNat).length) (hm:mkd m (nth (nth nx a.toNat) k)):DI nx ss a (k + 1) m td :=
  ⟨h.ln,h.nd,h.st,h.rc,fun x hx q=>by
    rcases h.cl x hx q with c | c | ⟨rfl,c⟩
    · exact .inl c
    · exact .inr (.inl c)
    · refine .inr (.inr ⟨rfl,fun y hy=>?_⟩)
      rw [take_memS hk] at hy
      rcases hy with hy | rfl
      · exact c y hy
      · exact hm,h.bd⟩
theorem DI.done {nx:List (List Int)} (hx:NextOk nx) {ss:List Int} {a:Int} {m:List Bool} (h:DI nx ss a (nth nx a.toNat).length m []) (hs:∀ x,x ∈ ss → Nd nx x):m = rchL nx ss:=by
  have hcl:∀ x y,Rch nx x y → Nd nx x → mkd m x → mkd m y:=by
    intro x y r
    induction r with
    | refl x=>exact fun _ q=>q
    | step e _ ih =>
      intro q1 q2
      refine ih (Jd hx q1 e) ?_
      rcases h.cl _ q1 q2 with c | c | ⟨rfl,c⟩
      · cases c
      · exact c _ e
      · rw [List.take_length] at c;exact c _ e
  apply List.ext_getElem (by rw [h.ln,rchL_len])
  intro i h1 h2
  rw [rchL_len] at h2
  rw [← nth_lt h1,← nth_lt (by rw [rchL_len];exact h2),nth_rchL h2]
  have hnd:Nd nx (i:Int):=⟨by omega,by omega⟩
  have key:mkd m (i:Int) ↔ RchS nx ss (i:Int):=by
    constructor
    · exact h.rc _ hnd
    · rintro ⟨s,s1,s2⟩
      exact hcl _ _ s2 (hs s s1) (h.st s s1)
  unfold mkd at key
  rw [Int.toNat_natCast] at key
  cases hb:nth m i with
  | true=>rw [B_yes (key.1 hb)]
  | false=>rw [B_no fun q=>by rw [key.2 q] at hb;cases hb]

structure LI (nx:List (List Int)) (a:Int) (R:Nat) (i:Nat) (m:List Bool) (q:List Int):Prop where
  ln:m.length = nx.length
  rq:∀ x,x ∈ q → Nd nx x ∧ ∃ y,y ∈ nth nx a.toNat ∧ Rch nx y x
  st:∀ y,y ∈ nth nx a.toNat → y ∈ q
  dn:∀ j,j < i → ¬ nth q j = a ∧ mkd m (nth q j)
  cl:∀ x,Nd nx x → mkd m x → ∀ y,y ∈ nth nx x.toNat → y ∈ q
  bd:q.length + R * un m ≤ R * (nx.length + 1)
theorem LI.start {nx:List (List Int)} (hx:NextOk nx) {a:Int} (ha:Nd nx a) {R:Nat} (hR:∀ i,i < nx.length → (nth nx i).length ≤ R):LI nx a R 0 (zrP nx.length false) (nth nx a.toNat):=by
  refine ⟨by simp,fun x q=>⟨Jd hx ha q,x,q,.refl x⟩,fun y q=>q,fun j hj=>by omega,fun x q1 q2=>?_,?_⟩
  · unfold mkd at q2
    have:=q1.1;have:=q1.2
    rw [nth_lt (by simp;omega)] at q2
    simp at q2
  · have:=hR a.toNat (by have:=ha.1;have:=ha.2;omega)
    have h2:un (zrP nx.length false) ≤ nx.length:=by have:=un_le (zrP nx.length false);simpa using this
    have h3:R * un (zrP nx.length false) ≤ R * nx.length:=Nat.mul_le_mul_left R h2
    rw [Nat.mul_add,Nat.mul_one];omega
theorem LI.skip {nx:List (List Int)} {a:Int} {R i:Nat} {m:List Bool} {q:List Int} (h:LI nx a R i m q) (hi:i < q.length) (e:¬ nth q i = a) (hm:mkd m (nth q i)):LI nx a R (i + 1) m q :=
  ⟨h.ln,h.rq,h.st,fun j hj=>by
    by_cases c:j = i
    · subst c;exact ⟨e,hm⟩
    · exact h.dn j (by omega),h.cl,h.bd⟩
theorem LI.step {nx:List (List Int)} (hx:NextOk nx) {a:Int} {R i:Nat} (hR:∀ i,i < nx.length → (nth nx i).length ≤ R) {m:List Bool} {q:List Int} (h:LI nx a R i m q) (hi:i < q.length) (e:¬ nth q i = a) (hm:nth m (nth q i).toNat = false):LI nx a R (i + 1) (m.set (nth q i).toNat true) (q ++ nth nx (nth q i).toNat):=by
  obtain ⟨hv,y0,y1,y2⟩:=h.rq _ (Jn hi)
  have hvl:(nth q i).toNat < nx.length:=by have:=hv.1;have:=hv.2;omega
  have hs:∀ {x},Nd nx x → (mkd (m.set (nth q i).toNat true) x ↔ nth q i = x ∨ mkd m x):=fun c=>mk_set h.ln hv c
  have hq:∀ j,j < q.length → nth (q ++ nth nx (nth q i).toNat) j = nth q j:=fun j hj=>zafr hj
  refine ⟨by rw [List.length_set];exact h.ln,fun x c=>?_,fun y c=>List.mem_append_left _ (h.st y c),fun j hj=>?_,fun x c1 c2 y c3=>?_,?_⟩
  · rw [List.mem_append] at c
    rcases c with c | c
    · exact h.rq x c
    · exact ⟨Jd hx hv c,y0,y1,y2.trans (.edge c)⟩
  · by_cases c:j = i
    · subst c
      rw [hq j hi]
      exact ⟨e,(hs hv).2 (.inl rfl)⟩
    · obtain ⟨d1,d2⟩:=h.dn j (by omega)
      rw [hq j (by omega)]
      exact ⟨d1,(hs (h.rq _ (Jn (by omega))).1).2 (.inr d2)⟩
  · rcases (hs c1).1 c2 with rfl | c
    · exact List.mem_append_right _ c3
    · exact List.mem_append_left _ (h.cl x c1 c y c3)
  · have h1:=un_set (by rw [h.ln];exact hvl) hm
    have h2:=h.bd
    have h3:=hR _ hvl
    have h4:R * un m = R * un (m.set (nth q i).toNat true) + R:=by rw [← h1,Nat.mul_add,Nat.mul_one]
    rw [List.length_append];omega
theorem LI.done {nx:List (List Int)} (hx:NextOk nx) {a:Int} (ha:Nd nx a) {R i:Nat} {m:List Bool} {q:List Int} (h:LI nx a R i m q) (hi:q.length ≤ i):¬ Cyc nx a:=by
  have hcl:∀ x y,Rch nx x y → Nd nx x → x ∈ q → y ∈ q:=by
    intro x y r
    induction r with
    | refl x=>exact fun _ c=>c
    | step e _ ih =>
      intro c1 c2
      obtain ⟨j,hj,ej⟩:=mem_idx c2
      have:=(h.dn j (by omega)).2
      rw [ej] at this
      exact ih (Jd hx c1 e) (h.cl _ c1 this _ e)
  rintro ⟨y,y1,y2⟩
  have:=hcl y a y2 (Jd hx ha y1) (h.st y y1)
  obtain ⟨j,hj,ej⟩:=mem_idx this
  exact (h.dn j (by omega)).1 ej

def oNd (x:List Int):D:=if x = [] then .nil else .fr 1 x.length (cat cI x)
def oN (x:List Int):List D:=[oNd x]
theorem oNd_nil:oNd [] = .nil:=rfl
theorem oNd_cons {x:List Int} (h:¬ x = []):oNd x = .fr 1 x.length (cat cI x):=by rw [oNd,if_neg h]
theorem oNd_leaf (x:List Int):leaf (oNd x) = true:=by
  unfold oNd;split <;> rfl
theorem oNd_dat (x:List Int):dat (oNd x) = li cI x:=by
  by_cases h:x = []
  · subst h;simp [oNd_nil,dat,li,cat]
  · rw [oNd_cons h];exact fr_dat x
instance:Wide oN 1:=⟨fun _=>rfl,by omega,fun a=>by simp [oN,oNd_leaf]⟩
instance:Own oN cL 2:=⟨fun a=>by
    by_cases h:a = []
    · subst h;simp [oN,oNd_nil,Xt,closed]
    · simp [oN,oNd_cons h,Xt];exact fr_closed a,fun a=>by simp [oN,cL,oNd_dat],fun a N=>by
    by_cases h:a = []
    · subst h;simp [oN,oNd_nil,bndL,bnd]
    · simp only [oN,oNd_cons h];exact ⟨fr_bnd N a,trivial⟩,fun a H j hj=>by
    by_cases h:a = []
    · subst h
      obtain ⟨j,rfl⟩:∃ i,j = i + 1:=⟨j - 1,by omega⟩
      simp [oN,oNd_nil,deref,cL,li,cat]
    · simp only [oN,oNd_cons h,cL,List.map_cons,List.map_nil]
      have:=fr_deref (sz:=1) (f:=cI) H hj a
      simpa [fr] using this⟩
def InRng (n:Nat) (es:List Tr4):Prop:=∀ i,i < es.length → (0 ≤ (nth es i).1 ∧ (nth es i).1 < n) ∧ 0 ≤ (nth es i).2.2.2 ∧ (nth es i).2.2.2 < n
def Liv (nx:List (List Int)) (acc:List Bool) (ss:List Int):Prop:=∃ x,Nd nx x ∧ RchS nx ss x ∧ Cyc nx x ∧ nth acc x.toNat = true
def livL (nx:List (List Int)) (acc:List Bool):List Bool:=(List.range nx.length).map fun i:Nat=>Vm.B (Liv nx acc [(i:Int)])
end
end Go.Proofs.YtiilmjojffjhlaaGreatDoor.Vm

