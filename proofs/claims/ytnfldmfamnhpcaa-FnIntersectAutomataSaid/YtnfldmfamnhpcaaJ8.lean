/-
  Searches that mark: invariants, plain. No conditions.
-/
import Derived.Test.YtnfldmfamnhpcaaJ7
namespace Go.Proofs.Ytnfldmfamnhpcaa.Vm
open Go
open List renaming replicate → zrP
set_option linter.unusedVariables false
set_option linter.unusedSimpArgs false
set_option maxRecDepth 200000

structure DI (nx:List (List Int)) (ss:List Int) (a:Int) (k:Nat) (m:List Bool) (td:List Int):Prop where
  ln:m.length = nx.length
  nd:∀ x,x ∈ td → Nd nx x ∧ mkd m x
  st:∀ s,s ∈ ss → mkd m s
  rc:∀ x,Nd nx x → mkd m x → RchS nx ss x
  cl:∀ x,Nd nx x → mkd m x → x ∈ td ∨ (∀ y,y ∈ nth nx x.toNat → mkd m y) ∨ (x = a ∧ ∀ y,y ∈ (nth nx a.toNat).take k → mkd m y)
  bd:td.length + un m ≤ ss.length + nx.length
def Jn (n:Nat) (ss:List Int) (k:Nat):List Bool:=(ss.take k).foldl (fun m x=>m.set x.toNat true) (zrP n false)
theorem zaoc (n:Nat) (ss:List Int):Jn n ss 0 = zrP n false:=by simp [Jn]
theorem zaod {n:Nat} {ss:List Int} {k:Nat} (h:k < ss.length):(Jn n ss k).set (nth ss k).toNat true = Jn n ss (k + 1):=by
  unfold Jn
  rw [List.take_succ_eq_append_getElem h,List.foldl_append,← Qy h];rfl
theorem zagy (n:Nat) (ss:List Int) (k:Nat):(Jn n ss k).length = n:=by
  have:∀ (l:List Int) (m:List Bool),(l.foldl (fun m x=>m.set x.toNat true) m).length = m.length:=by
    intro l
    induction l with
    | nil=>intro m;rfl
    | cons x l ih=>intro m;rw [List.foldl_cons,ih,List.length_set]
  rw [Jn,this,List.length_replicate]
theorem marksK_mk {nx:List (List Int)} {ss:List Int} (hs:∀ x,x ∈ ss → Nd nx x):∀ k,k ≤ ss.length → ∀ x,Nd nx x → (mkd (Jn nx.length ss k) x ↔ x ∈ ss.take k)
  | 0,_,x,hx=>by
    have:=hx.1;have:=hx.2
    rw [zaoc]
    unfold mkd
    rw [Qy (by simp;omega)];simp
  | k + 1,hk,x,hx=>by
    have ih:=marksK_mk hs k (by omega) x hx
    rw [← zaod (by omega),mk_set (nx:=nx) (zagy ..) (hs _ (Xl (by omega))) hx,ih,List.take_succ_eq_append_getElem (by omega),← Qy (by omega),List.mem_append,List.mem_singleton]
    constructor
    · rintro (q | q)
      · exact .inr q.symm
      · exact .inl q
    · rintro (q | q)
      · exact .inr q
      · exact .inl q.symm
theorem DI.start {nx:List (List Int)} {ss:List Int} (hs:∀ x,x ∈ ss → Nd nx x):DI nx ss (-1) 0 (Jn nx.length ss ss.length) ss:=by
  have hm:∀ x,Nd nx x → (mkd (Jn nx.length ss ss.length) x ↔ x ∈ ss):=fun x hx=>by
    have:=marksK_mk hs ss.length (Nat.le_refl _) x hx
    rwa [List.take_length] at this
  refine ⟨zagy ..,fun x q=>⟨hs x q,(hm x (hs x q)).2 q⟩,fun s q=>(hm s (hs s q)).2 q,fun x hx q=>⟨x,(hm x hx).1 q,.refl x⟩,fun x hx q=>.inl ((hm x hx).1 q),?_⟩
  have:=un_le (Jn nx.length ss ss.length)
  rw [zagy] at this
  omega
theorem DI.pop {nx:List (List Int)} {ss:List Int} {a:Int} {m:List Bool} {td:List Int} (h:DI nx ss a (nth nx a.toNat).length m td) (ht:0 < td.length):DI nx ss (nth td (td.length - 1)) 0 m (td.take (td.length - 1)):=by
  have e:td = td.take (td.length - 1) ++ [nth td (td.length - 1)]:=by
    rw [Qy (by omega)]
    have:=List.take_append_drop (td.length - 1) td
    rw [List.drop_eq_getElem_cons (by omega),show td.length - 1 + 1 = td.length by omega,List.drop_length] at this
    exact this.symm
  refine ⟨h.ln,fun x q=>h.nd x (List.mem_of_mem_take q),h.st,h.rc,fun x hx q=>?_,?_⟩
  · rcases h.cl x hx q with c | c | ⟨rfl,c⟩
    · rw [e,List.mem_append,List.mem_singleton] at c
      rcases c with c | c
      · exact .inl c
      · exact .inr (.inr ⟨c,fun y hy=>by simp at hy⟩)
    · exact .inr (.inl c)
    · rw [List.take_length] at c
      exact .inr (.inl c)
  · have:=h.bd
    rw [List.length_take];omega
theorem DI.none {nx:List (List Int)} {ss:List Int} {m:List Bool} {td:List Int} (h:DI nx ss (-1) 0 m td):DI nx ss (-1) (nth nx (-1:Int).toNat).length m td :=
  ⟨h.ln,h.nd,h.st,h.rc,fun x hx q=>by
    rcases h.cl x hx q with c | c | ⟨rfl,c⟩
    · exact .inl c
    · exact .inr (.inl c)
    · have:=hx.1;omega,h.bd⟩
theorem take_memS {ns:List Int} {k:Nat} (h:k < ns.length) {y:Int}:y ∈ ns.take (k + 1) ↔ y ∈ ns.take k ∨ y = nth ns k:=by
  rw [List.take_succ_eq_append_getElem h,← Qy h,List.mem_append,List.mem_singleton]
theorem DI.skip {nx:List (List Int)} {ss:List Int} {a:Int} {k:Nat} {m:List Bool} {td:List Int} (h:DI nx ss a k m td) (hk:k < (nth nx a.toNat).length) (hm:mkd m (nth (nth nx a.toNat) k)):DI nx ss a (k + 1) m td :=
  ⟨h.ln,h.nd,h.st,h.rc,fun x hx q=>by
    rcases h.cl x hx q with c | c | ⟨rfl,c⟩
    · exact .inl c
    · exact .inr (.inl c)
    · refine .inr (.inr ⟨rfl,fun y hy=>?_⟩)
      rw [take_memS hk] at hy
      rcases hy with hy | rfl
      · exact c y hy
      · exact hm,h.bd⟩
theorem DI.mark {nx:List (List Int)} (hx:Xp nx) {ss:List Int} {a:Int} {k:Nat} {m:List Bool} {td:List Int} (h:DI nx ss a k m td) (ha:Nd nx a) (hma:mkd m a) (hk:k < (nth nx a.toNat).length) (hm:nth m (nth (nth nx a.toNat) k).toNat = false):DI nx ss a (k + 1) (m.set (nth (nth nx a.toNat) k).toNat true) (td ++ [nth (nth nx a.toNat) k]):=by
  have hy:Nd nx (nth (nth nx a.toNat) k):=Jg hx ha (Xl hk)
  have hyl:(nth (nth nx a.toNat) k).toNat < m.length:=by rw [h.ln];have:=hy.1;have:=hy.2;omega
  have hs:∀ {x},Nd nx x → (mkd (m.set (nth (nth nx a.toNat) k).toNat true) x ↔ nth (nth nx a.toNat) k = x ∨ mkd m x):=fun q=>mk_set h.ln hy q
  have up:∀ x,mkd m x → mkd (m.set (nth (nth nx a.toNat) k).toNat true) x:=fun x q=>by
    unfold mkd at q ⊢
    by_cases e:(nth (nth nx a.toNat) k).toNat = x.toNat
    · rw [e] at hyl ⊢;exact Wf hyl _
    · rw [Wi e];exact q
  refine ⟨by rw [List.length_set];exact h.ln,fun x q=>?_,fun s q=>up s (h.st s q),fun x q1 q2=>?_,fun x q1 q2=>?_,?_⟩
  · rw [List.mem_append,List.mem_singleton] at q
    rcases q with q | rfl
    · exact ⟨(h.nd x q).1,up x (h.nd x q).2⟩
    · exact ⟨hy,(hs hy).2 (.inl rfl)⟩
  · rcases (hs q1).1 q2 with rfl | q
    · obtain ⟨s,s1,s2⟩:=h.rc a ha hma
      exact ⟨s,s1,s2.trans (.edge (Xl hk))⟩
    · exact h.rc x q1 q
  · rcases (hs q1).1 q2 with rfl | q
    · exact .inl (List.mem_append_right _ (by simp))
    · rcases h.cl x q1 q with c | c | ⟨rfl,c⟩
      · exact .inl (List.mem_append_left _ c)
      · exact .inr (.inl fun y z=>up y (c y z))
      · refine .inr (.inr ⟨rfl,fun y z=>?_⟩)
        rw [take_memS hk] at z
        rcases z with z | rfl
        · exact up y (c y z)
        · exact (hs hy).2 (.inl rfl)
  · have:=un_set hyl hm
    have:=h.bd
    simp only [List.length_append,List.length_singleton];omega
theorem DI.done {nx:List (List Int)} (hx:Xp nx) {ss:List Int} {a:Int} {m:List Bool} (h:DI nx ss a (nth nx a.toNat).length m []) (hs:∀ x,x ∈ ss → Nd nx x):m = rchL nx ss:=by
  have hcl:∀ x y,Rch nx x y → Nd nx x → mkd m x → mkd m y:=by
    intro x y r
    induction r with
    | refl x=>exact fun _ q=>q
    | step e _ ih =>
      intro q1 q2
      refine ih (Jg hx q1 e) ?_
      rcases h.cl _ q1 q2 with c | c | ⟨rfl,c⟩
      · cases c
      · exact c _ e
      · rw [List.take_length] at c;exact c _ e
  apply List.ext_getElem (by rw [h.ln,zahs])
  intro i h1 h2
  rw [zahs] at h2
  rw [← Qy h1,← Qy (by rw [zahs];exact h2),nth_rchL h2]
  have hnd:Nd nx (i:Int):=⟨by omega,by omega⟩
  have key:mkd m (i:Int) ↔ RchS nx ss (i:Int):=by
    constructor
    · exact h.rc _ hnd
    · rintro ⟨s,s1,s2⟩
      exact hcl _ _ s2 (hs s s1) (h.st s s1)
  unfold mkd at key
  rw [Int.toNat_natCast] at key
  cases hb:nth m i with
  | true=>rw [B_yes (key.1 hb)]
  | false=>rw [B_no fun q=>by rw [key.2 q] at hb;cases hb]

structure LI (nx:List (List Int)) (a:Int) (R:Nat) (i:Nat) (m:List Bool) (q:List Int):Prop where
  ln:m.length = nx.length
  rq:∀ x,x ∈ q → Nd nx x ∧ ∃ y,y ∈ nth nx a.toNat ∧ Rch nx y x
  st:∀ y,y ∈ nth nx a.toNat → y ∈ q
  dn:∀ j,j < i → ¬ nth q j = a ∧ mkd m (nth q j)
  cl:∀ x,Nd nx x → mkd m x → ∀ y,y ∈ nth nx x.toNat → y ∈ q
  bd:q.length + R * un m ≤ R * (nx.length + 1)
theorem LI.start {nx:List (List Int)} (hx:Xp nx) {a:Int} (ha:Nd nx a) {R:Nat} (hR:∀ i,i < nx.length → (nth nx i).length ≤ R):LI nx a R 0 (zrP nx.length false) (nth nx a.toNat):=by
  refine ⟨by simp,fun x q=>⟨Jg hx ha q,x,q,.refl x⟩,fun y q=>q,fun j hj=>by omega,fun x q1 q2=>?_,?_⟩
  · unfold mkd at q2
    have:=q1.1;have:=q1.2
    rw [Qy (by simp;omega)] at q2
    simp at q2
  · have:=hR a.toNat (by have:=ha.1;have:=ha.2;omega)
    have h2:un (zrP nx.length false) ≤ nx.length:=by have:=un_le (zrP nx.length false);simpa using this
    have h3:R * un (zrP nx.length false) ≤ R * nx.length:=Nat.mul_le_mul_left R h2
    rw [Nat.mul_add,Nat.mul_one];omega
theorem LI.skip {nx:List (List Int)} {a:Int} {R i:Nat} {m:List Bool} {q:List Int} (h:LI nx a R i m q) (hi:i < q.length) (e:¬ nth q i = a) (hm:mkd m (nth q i)):LI nx a R (i + 1) m q :=
  ⟨h.ln,h.rq,h.st,fun j hj=>by
    by_cases c:j = i
    · subst c;exact ⟨e,hm⟩
    · exact h.dn j (by omega),h.cl,h.bd⟩
theorem LI.step {nx:List (List Int)} (hx:Xp nx) {a:Int} {R i:Nat} (hR:∀ i,i < nx.length → (nth nx i).length ≤ R) {m:List Bool} {q:List Int} (h:LI nx a R i m q) (hi:i < q.length) (e:¬ nth q i = a) (hm:nth m (nth q i).toNat = false):LI nx a R (i + 1) (m.set (nth q i).toNat true) (q ++ nth nx (nth q i).toNat):=by
  obtain ⟨hv,y0,y1,y2⟩:=h.rq _ (Xl hi)
  have hvl:(nth q i).toNat < nx.length:=by have:=hv.1;have:=hv.2;omega
  have hs:∀ {x},Nd nx x → (mkd (m.set (nth q i).toNat true) x ↔ nth q i = x ∨ mkd m x):=fun c=>mk_set h.ln hv c
  have hq:∀ j,j < q.length → nth (q ++ nth nx (nth q i).toNat) j = nth q j:=fun j hj=>Vg hj
  refine ⟨by rw [List.length_set];exact h.ln,fun x c=>?_,fun y c=>List.mem_append_left _ (h.st y c),fun j hj=>?_,fun x c1 c2 y c3=>?_,?_⟩
  · rw [List.mem_append] at c
    rcases c with c | c
    · exact h.rq x c
    · exact ⟨Jg hx hv c,y0,y1,y2.trans (.edge c)⟩
  · by_cases c:j = i
    · subst c
      rw [hq j hi]
      exact ⟨e,(hs hv).2 (.inl rfl)⟩
    · obtain ⟨d1,d2⟩:=h.dn j (by omega)
      rw [hq j (by omega)]
      exact ⟨d1,(hs (h.rq _ (Xl (by omega))).1).2 (.inr d2)⟩
  · rcases (hs c1).1 c2 with rfl | c
    · exact List.mem_append_right _ c3
    · exact List.mem_append_left _ (h.cl x c1 c y c3)
  · have h1:=un_set (by rw [h.ln];exact hvl) hm
    have h2:=h.bd
    have h3:=hR _ hvl
    have h4:R * un m = R * un (m.set (nth q i).toNat true) + R:=by rw [← h1,Nat.mul_add,Nat.mul_one]
    rw [List.length_append];omega
theorem LI.done {nx:List (List Int)} (hx:Xp nx) {a:Int} (ha:Nd nx a) {R i:Nat} {m:List Bool} {q:List Int} (h:LI nx a R i m q) (hi:q.length ≤ i):¬ Cyc nx a:=by
  have hcl:∀ x y,Rch nx x y → Nd nx x → x ∈ q → y ∈ q:=by
    intro x y r
    induction r with
    | refl x=>exact fun _ c=>c
    | step e _ ih =>
      intro c1 c2
      obtain ⟨j,hj,ej⟩:=zaob c2
      have:=(h.dn j (by omega)).2
      rw [ej] at this
      exact ih (Jg hx c1 e) (h.cl _ c1 this _ e)
  rintro ⟨y,y1,y2⟩
  have:=hcl y a y2 (Jg hx ha y1) (h.st y y1)
  obtain ⟨j,hj,ej⟩:=zaob this
  exact (h.dn j (by omega)).1 ej
end Go.Proofs.Ytnfldmfamnhpcaa.Vm

