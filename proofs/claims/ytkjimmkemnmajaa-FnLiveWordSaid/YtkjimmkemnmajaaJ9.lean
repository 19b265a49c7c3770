import Derived.Test.YtkjimmkemnmajaaJ5
import Derived.Test.YtkjimmkemnmajaaTr
/-
  spec.l4Components, cycles and what is reached: plain. No conditions.
-/
namespace Go.Proofs.Ytkjimmkemnmajaa.Vm
open Go
open List renaming replicate → zrP
set_option linter.unusedVariables false
set_option linter.unusedSimpArgs false
set_option maxRecDepth 200000

def Cf (xs:List Int) (i k:Nat) (c:Int):Prop:=(c = -1 ∧ ∀ j,j < k → ¬ nth xs j = nth xs i) ∨ (0 ≤ c ∧ ∃ j,j < i ∧ nth xs j = nth xs i ∧ c = nth (named xs i) j)
theorem Cf.zero (xs:List Int) (i:Nat):Cf xs i 0 (-1):=.inl ⟨rfl,fun j hj=>by omega⟩
theorem Cf.new {xs:List Int} {i:Nat} {c:Int} (h:Cf xs i i c) (hc:c < 0) (hi:i < xs.length):named xs (i + 1) = named xs i ++ [((dist (xs.take i)).length:Int)] ∧ (dist (xs.take (i + 1))).length = (dist (xs.take i)).length + 1:=by
  rcases h with ⟨rfl,h⟩ | ⟨h,_⟩
  · obtain ⟨h1,h2⟩:=named_new hi h
    exact ⟨h1,by rw [h2];simp⟩
  · omega
theorem Cf.old {xs:List Int} {i k:Nat} {c:Int} (h:Cf xs i k c) (hc:¬ c < 0) (hi:i < xs.length):named xs (i + 1) = named xs i ++ [c] ∧ (dist (xs.take (i + 1))).length = (dist (xs.take i)).length:=by
  rcases h with ⟨rfl,h⟩ | ⟨_,j,h1,h2,h3⟩
  · omega
  · obtain ⟨g1,g2⟩:=named_old hi h1 h2
    exact ⟨by rw [g1,h3],by rw [g2]⟩
def Cyc (nx:List (List Int)) (x:Int):Prop:=∃ y,y ∈ nth nx x.toNat ∧ Rch nx y x
noncomputable def cycL (nx:List (List Int)):List Bool:=(List.range nx.length).map fun i:Nat=>Vm.B (Cyc nx (i:Int))
theorem zanj (nx:List (List Int)):(cycL nx).length = nx.length:=by simp [cycL]
theorem nth_cycL {nx:List (List Int)} {i:Nat} (h:i < nx.length):nth (cycL nx) i = Vm.B (Cyc nx (i:Int)):=by
  rw [Ql (by rw [zanj];exact h)];simp [cycL]
theorem Rch.cases' {nx:List (List Int)} {x y:Int} (h:Rch nx x y):x = y ∨ ∃ z,z ∈ nth nx x.toNat ∧ Rch nx z y:=by
  cases h with
  | refl=>exact .inl rfl
  | step e k=>exact .inr ⟨_,e,k⟩
def SameN (nx my:List (List Int)):Prop:=nx.length = my.length ∧ ∀ i,i < nx.length → ∀ y,y ∈ nth nx i ↔ y ∈ nth my i
theorem SameN.symm {nx my:List (List Int)} (h:SameN nx my):SameN my nx:=⟨h.1.symm,fun i hi y=>(h.2 i (by rw [h.1];exact hi) y).symm⟩
theorem SameN.rch {nx my:List (List Int)} (h:SameN nx my) (hx:Xc nx) {x y:Int} (r:Rch nx x y):Nd nx x → Rch my x y:=by
  induction r with
  | refl x=>exact fun _=>.refl x
  | step e _ ih =>
    intro q
    exact .step ((h.2 _ (by have:=q.1;have:=q.2;omega) _).1 e) (ih (Zm hx q e))
theorem SameN.nextOk {nx my:List (List Int)} (h:SameN nx my) (hx:Xc nx):Xc my:=fun j hj k hk=>by
  rw [← h.1] at hj ⊢
  obtain ⟨i,hi,e⟩:=Js ((h.2 j hj _).2 (Xe hk))
  rw [← e];exact hx j hj i hi
theorem SameN.rch_iff {nx my:List (List Int)} (h:SameN nx my) (hx:Xc nx) {x y:Int} (q:Nd nx x):Rch nx x y ↔ Rch my x y :=
  ⟨fun r=>h.rch hx r q,fun r=>h.symm.rch (h.nextOk hx) r ⟨q.1,by rw [← h.1];exact q.2⟩⟩
theorem SameN.cyc {nx my:List (List Int)} (h:SameN nx my) (hx:Xc nx) {x:Int} (q:Nd nx x):Cyc nx x ↔ Cyc my x:=by
  have hi:x.toNat < nx.length:=by have:=q.1;have:=q.2;omega
  constructor
  · rintro ⟨y,y1,y2⟩
    exact ⟨y,(h.2 _ hi y).1 y1,h.rch hx y2 (Zm hx q y1)⟩
  · rintro ⟨y,y1,y2⟩
    have y3:=(h.2 _ hi y).2 y1
    exact ⟨y,y3,(h.rch_iff hx (Zm hx q y3)).2 y2⟩
theorem idxOf_inj' {l:List Int} {x y:Int} (hx:x ∈ l) (hy:y ∈ l) (e:l.idxOf x = l.idxOf y):x = y:=by
  have h1:=List.idxOf_lt_length_of_mem hx
  have h2:=List.idxOf_lt_length_of_mem hy
  rw [← List.getElem_idxOf h1,← List.getElem_idxOf h2]
  congr 1
theorem named_same {xs:List Int} {k i j:Nat} (h:k ≤ xs.length) (hi:i < k) (hj:j < k):nth (named xs k) i = nth (named xs k) j ↔ nth xs i = nth xs j:=by
  have hm:∀ i,i < k → nth xs i ∈ dist (xs.take k):=fun i hi=>by
    rw [zain xs k h,Vb]
    exact ⟨i,by simp;omega,by rw [Jz hi]⟩
  rw [zakq h hi,zakq h hj]
  constructor
  · intro e
    exact idxOf_inj' (hm i hi) (hm j hj) (by omega)
  · intro e;rw [e]
theorem zapm {nx:List (List Int)} (hx:Xc nx) {i j:Nat} (hi:i < nx.length) (hj:j < nx.length):nth (Ze nx) i = nth (Ze nx) j ↔ Rch nx (i:Int) (j:Int) ∧ Rch nx (j:Int) (i:Int):=by
  unfold Ze
  rw [named_same (by rw [part_len hx];exact Nat.le_refl _) hi hj]
  have:=(parts_ok hx (x:=(i:Int)) (y:=(j:Int)) ⟨by omega,by omega⟩ ⟨by omega,by omega⟩).2
  simpa only [gt,Int.toNat_natCast] using this
theorem compsL_rng {nx:List (List Int)} (hx:Xc nx) {i:Nat} (hi:i < nx.length):0 ≤ nth (Ze nx) i ∧ nth (Ze nx) i < nx.length:=named_rng (by rw [part_len hx];exact Nat.le_refl _) hi
def cnts (ps:List Int) (n k:Nat):List Int:=(List.range n).map fun p:Nat=>(((ps.take k).filter (fun x=>decide (x = (p:Int)))).length:Int)
theorem zajh (ps:List Int) (n k:Nat):(cnts ps n k).length = n:=by simp [cnts]
theorem cnts_zero (ps:List Int) (n:Nat):cnts ps n 0 = zrP n 0:=by
  apply List.ext_getElem (by simp [cnts])
  intro i h1 h2
  simp [cnts]
theorem zamc {ps:List Int} {n k p:Nat} (h:p < n):nth (cnts ps n k) p = (((ps.take k).filter (fun x=>decide (x = (p:Int)))).length:Int):=by
  rw [Ql (by rw [zajh];exact h)];simp [cnts]
theorem cnts_le {ps:List Int} {n k p:Nat} (h:p < n):0 ≤ nth (cnts ps n k) p ∧ nth (cnts ps n k) p ≤ ps.length:=by
  rw [zamc h]
  have:=List.length_filter_le (fun x=>decide (x = (p:Int))) (ps.take k)
  rw [List.length_take] at this
  omega
theorem cnts_succ {ps:List Int} {n k:Nat} (h:k < ps.length) (h0:0 ≤ nth ps k) (h1:nth ps k < n):(cnts ps n k).set (nth ps k).toNat (nth (cnts ps n k) (nth ps k).toNat + 1) = cnts ps n (k + 1):=by
  apply List.ext_getElem (by simp [cnts])
  intro i h2 h3
  rw [zajh] at h3
  rw [← Ql h2,← Ql (by rw [zajh];exact h3),zamc h3,List.take_succ_eq_append_getElem h,← Ql h,List.filter_append,List.length_append]
  by_cases e:(nth ps k).toNat = i
  · subst e
    rw [Zt (by rw [zajh];exact h3),zamc h3]
    have:nth ps k = ((nth ps k).toNat:Int):=by omega
    rw [List.filter_cons,if_pos (by simpa using this)];simp
  · rw [Zn e,zamc h3]
    have:¬ nth ps k = (i:Int):=by omega
    rw [List.filter_cons,if_neg (by simpa using this)];simp
theorem many_iff {ps:List Int} {i:Nat} (h:i < ps.length):1 < (ps.filter (fun x=>decide (x = nth ps i))).length ↔ ∃ j,j < ps.length ∧ ¬ j = i ∧ nth ps j = nth ps i:=by
  have e:ps = ps.take i ++ nth ps i :: ps.drop (i + 1):=by
    rw [Ql h]
    have:=List.take_append_drop i ps
    rw [List.drop_eq_getElem_cons h] at this
    exact this.symm
  have e2:(ps.filter (fun x=>decide (x = nth ps i))).length = ((ps.take i).filter (fun x=>decide (x = nth ps i))).length + 1 + ((ps.drop (i + 1)).filter (fun x=>decide (x = nth ps i))).length:=by
    conv=>lhs;rw [show List.filter (fun x=>decide (x = nth ps i)) ps = List.filter (fun x=>decide (x = nth ps i)) (ps.take i ++ nth ps i :: ps.drop (i + 1)) from congrArg _ e]
    rw [List.filter_append,List.filter_cons,if_pos (by simp),List.length_append,List.length_cons];omega
  rw [e2]
  constructor
  · intro q
    rcases Nat.eq_zero_or_pos ((ps.take i).filter (fun x=>decide (x = nth ps i))).length with z | z
    · have z2:0 < ((ps.drop (i + 1)).filter (fun x=>decide (x = nth ps i))).length:=by omega
      obtain ⟨x,hx⟩:=List.exists_mem_of_length_pos z2
      rw [List.mem_filter] at hx
      obtain ⟨j,hj,e3⟩:=List.getElem_of_mem hx.1
      simp only [List.length_drop] at hj
      refine ⟨i + 1 + j,by omega,by omega,?_⟩
      rw [Ql (show i + 1 + j < ps.length by omega)]
      rw [List.getElem_drop] at e3
      rw [e3];simpa using hx.2
    · obtain ⟨x,hx⟩:=List.exists_mem_of_length_pos z
      rw [List.mem_filter] at hx
      obtain ⟨j,hj,e3⟩:=List.getElem_of_mem hx.1
      simp only [List.length_take] at hj
      refine ⟨j,by omega,by omega,?_⟩
      rw [Ql (show j < ps.length by omega)]
      rw [List.getElem_take] at e3
      rw [e3];simpa using hx.2
  · rintro ⟨j,j1,j2,j3⟩
    rcases Nat.lt_or_ge j i with q | q
    · have:nth ps j ∈ (ps.take i).filter (fun x=>decide (x = nth ps i)):=by
        rw [List.mem_filter]
        refine ⟨?_,by simpa using j3⟩
        rw [List.mem_take_iff_getElem]
        exact ⟨j,by omega,by rw [Ql j1]⟩
      have:=List.length_pos_of_mem this
      omega
    · have:nth ps j ∈ (ps.drop (i + 1)).filter (fun x=>decide (x = nth ps i)):=by
        rw [List.mem_filter]
        refine ⟨?_,by simpa using j3⟩
        rw [List.mem_drop_iff_getElem]
        exact ⟨j - (i + 1),by omega,by rw [Ql j1];congr 1;omega⟩
      have:=List.length_pos_of_mem this
      omega
theorem cyc_iff {nx:List (List Int)} (hx:Xc nx) {i:Nat} (hi:i < nx.length):(1 < nth (cnts (Ze nx) nx.length nx.length) (nth (Ze nx) i).toNat ∨ (i:Int) ∈ nth nx i) ↔ Cyc nx (i:Int):=by
  have hr:=compsL_rng hx hi
  have hl:=zanl hx
  have hnd:Nd nx (i:Int):=⟨by omega,by omega⟩
  have e:nth (cnts (Ze nx) nx.length nx.length) (nth (Ze nx) i).toNat = (((Ze nx).filter (fun x=>decide (x = nth (Ze nx) i))).length:Int):=by
    rw [zamc (by omega)]
    rw [List.take_of_length_le (by omega),Int.toNat_of_nonneg hr.1]
  rw [e]
  have hm:=many_iff (ps:=Ze nx) (i:=i) (by omega)
  constructor
  · rintro (q | q)
    · obtain ⟨j,j1,j2,j3⟩:=hm.1 (by omega)
      rw [hl] at j1
      obtain ⟨r1,r2⟩:=(zapm hx j1 hi).1 j3
      rcases r2.cases' with z | ⟨z,z1,z2⟩
      · omega
      · exact ⟨z,z1,z2.trans r1⟩
    · exact ⟨(i:Int),by simpa using q,.refl _⟩
  · rintro ⟨y,y1,y2⟩
    by_cases q:y = (i:Int)
    · subst q;right;simpa using y1
    · left
      have hy:=Zm hx hnd y1
      have hyl:y.toNat < nx.length:=by have:=hy.1;have:=hy.2;omega
      have:1 < ((Ze nx).filter (fun x=>decide (x = nth (Ze nx) i))).length:=hm.2 ⟨y.toNat,by omega,(fun e=>q (by have:=hy.1;omega)),(zapm hx hyl hi).2 (by rw [Int.toNat_of_nonneg hy.1];exact ⟨y2,.edge y1⟩)⟩
      omega

def RchS (nx:List (List Int)) (ss:List Int) (x:Int):Prop:=∃ s,s ∈ ss ∧ Rch nx s x
noncomputable def rchL (nx:List (List Int)) (ss:List Int):List Bool:=(List.range nx.length).map fun i:Nat=>Vm.B (RchS nx ss (i:Int))
theorem zage (nx:List (List Int)) (ss:List Int):(rchL nx ss).length = nx.length:=by simp [rchL]
theorem nth_rchL {nx:List (List Int)} {ss:List Int} {i:Nat} (h:i < nx.length):nth (rchL nx ss) i = Vm.B (RchS nx ss (i:Int)):=by
  rw [Ql (by rw [zage];exact h)];simp [rchL]
theorem zanr {nx:List (List Int)} (hx:Xc nx) {ss:List Int} (hS:Starts nx.length ss) {y:Int}:y ∈ (bfsE nx ss).2 ↔ RchS nx ss y:=by
  have hB:=Zq hx hS
  obtain ⟨d,hd⟩:=bfsE_dp hx hS
  have hle:=hB.le
  constructor
  · intro q
    obtain ⟨m,m1,m2⟩:=Js q
    obtain ⟨u1,u2,u3,u4⟩:=up_way hB hd m m1 (nx.length + 1) (by omega)
    have:=way_rch u2 (d m) (by rw [List.length_reverse,u1];omega)
    rw [u4,m2] at this
    rw [m2] at u3
    exact ⟨_,u3,this⟩
  · rintro ⟨s,s1,q⟩
    obtain ⟨w,w1,w2,w3,w4⟩:=rch_way q
    obtain ⟨m,m1,m2,_⟩:=walk_met hx hS hd w1 (by rw [w3];exact s1) (w.length - 1) (by omega)
    rw [w4] at m2
    rw [← m2];exact Xe m1
def mkd (m:List Bool) (x:Int):Prop:=nth m x.toNat = true
def un (m:List Bool):Nat:=(m.filter (fun x=>!x)).length
theorem un_set:∀ {m:List Bool} {k:Nat},k < m.length → nth m k = false → un (m.set k true) + 1 = un m
  | [],k,h,_=>by simp at h
  | x :: P,0,h,hx=>by
    have:x = false:=hx
    subst this
    simp [un]
  | x :: P,k + 1,h,hx=>by
    have ih:=un_set (m:=P) (k:=k) (by simpa using h) hx
    unfold un at ih ⊢
    rw [List.set_cons_succ,List.filter_cons,List.filter_cons]
    split <;> (try simp only [List.length_cons]) <;> omega
theorem un_le (m:List Bool):un m ≤ m.length:=List.length_filter_le ..
theorem mk_set {nx:List (List Int)} {m:List Bool} {x y:Int} (hl:m.length = nx.length) (hx:Nd nx x) (hy:Nd nx y):mkd (m.set x.toNat true) y ↔ x = y ∨ mkd m y:=by
  obtain ⟨h1,h2⟩:=hx
  obtain ⟨h3,h4⟩:=hy
  unfold mkd
  by_cases e:x.toNat = y.toNat
  · have:x = y:=by omega
    subst this
    rw [Zt (by omega)];simp
  · rw [Zn e]
    have:¬ x = y:=fun q=>e (by rw [q])
    simp [this]

structure DI (nx:List (List Int)) (ss:List Int) (a:Int) (k:Nat) (m:List Bool) (td:List Int):Prop where
  ln:m.length = nx.length
  nd:∀ x,x ∈ td → Nd nx x ∧ mkd m x
  st:∀ s,s ∈ ss → mkd m s
  rc:∀ x,Nd nx x → mkd m x → RchS nx ss x
  cl:∀ x,Nd nx x → mkd m x → x ∈ td ∨ (∀ y,y ∈ nth nx x.toNat → mkd m y) ∨ (x = a ∧ ∀ y,y ∈ (nth nx a.toNat).take k → mkd m y)
  bd:td.length + un m ≤ ss.length + nx.length
def Xr (n:Nat) (ss:List Int) (k:Nat):List Bool:=(ss.take k).foldl (fun m x=>m.set x.toNat true) (zrP n false)
theorem zacg (n:Nat) (ss:List Int):Xr n ss 0 = zrP n false:=by simp [Xr]
theorem zach {n:Nat} {ss:List Int} {k:Nat} (h:k < ss.length):(Xr n ss k).set (nth ss k).toNat true = Xr n ss (k + 1):=by
  unfold Xr
  rw [List.take_succ_eq_append_getElem h,List.foldl_append,← Ql h];rfl
theorem zacr (n:Nat) (ss:List Int) (k:Nat):(Xr n ss k).length = n:=by
  have:∀ (l:List Int) (m:List Bool),(l.foldl (fun m x=>m.set x.toNat true) m).length = m.length:=by
    intro l
    induction l with
    | nil=>intro m;rfl
    | cons x l ih=>intro m;rw [List.foldl_cons,ih,List.length_set]
  rw [Xr,this,List.length_replicate]
theorem zakt {nx:List (List Int)} {ss:List Int} (hs:∀ x,x ∈ ss → Nd nx x):∀ k,k ≤ ss.length → ∀ x,Nd nx x → (mkd (Xr nx.length ss k) x ↔ x ∈ ss.take k)
  | 0,_,x,hx=>by
    have:=hx.1;have:=hx.2
    rw [zacg]
    unfold mkd
    rw [Ql (by simp;omega)];simp
  | k + 1,hk,x,hx=>by
    have ih:=zakt hs k (by omega) x hx
    rw [← zach (by omega),mk_set (nx:=nx) (zacr ..) (hs _ (Xe (by omega))) hx,ih,List.take_succ_eq_append_getElem (by omega),← Ql (by omega),List.mem_append,List.mem_singleton]
    constructor
    · rintro (q | q)
      · exact .inr q.symm
      · exact .inl q
    · rintro (q | q)
      · exact .inr q
      · exact .inl q.symm
theorem DI.start {nx:List (List Int)} {ss:List Int} (hs:∀ x,x ∈ ss → Nd nx x):DI nx ss (-1) 0 (Xr nx.length ss ss.length) ss:=by
  have hm:∀ x,Nd nx x → (mkd (Xr nx.length ss ss.length) x ↔ x ∈ ss):=fun x hx=>by
    have:=zakt hs ss.length (Nat.le_refl _) x hx
    rwa [List.take_length] at this
  refine ⟨zacr ..,fun x q=>⟨hs x q,(hm x (hs x q)).2 q⟩,fun s q=>(hm s (hs s q)).2 q,fun x hx q=>⟨x,(hm x hx).1 q,.refl x⟩,fun x hx q=>.inl ((hm x hx).1 q),?_⟩
  have:=un_le (Xr nx.length ss ss.length)
  rw [zacr] at this
  omega
theorem DI.pop {nx:List (List Int)} {ss:List Int} {a:Int} {m:List Bool} {td:List Int} (h:DI nx ss a (nth nx a.toNat).length m td) (ht:0 < td.length):DI nx ss (nth td (td.length - 1)) 0 m (td.take (td.length - 1)):=by
  have e:td = td.take (td.length - 1) ++ [nth td (td.length - 1)]:=by
    rw [Ql (by omega)]
    have:=List.take_append_drop (td.length - 1) td
    rw [List.drop_eq_getElem_cons (by omega),show td.length - 1 + 1 = td.length by omega,List.drop_length] at this
    exact this.symm
  refine ⟨h.ln,fun x q=>h.nd x (List.mem_of_mem_take q),h.st,h.rc,fun x hx q=>?_,?_⟩
  · rcases h.cl x hx q with c | c | ⟨rfl,c⟩
    · rw [e,List.mem_append,List.mem_singleton] at c
      rcases c with c | c
      · exact .inl c
      · exact .inr (.inr ⟨c,fun y hy=>by simp at hy⟩)
    · exact .inr (.inl c)
    · rw [List.take_length] at c
      exact .inr (.inl c)
  · have:=h.bd
    rw [List.length_take];omega
theorem DI.none {nx:List (List Int)} {ss:List Int} {m:List Bool} {td:List Int} (h:DI nx ss (-1) 0 m td):DI nx ss (-1) (nth nx (-1:Int).toNat).length m td :=
  ⟨h.ln,h.nd,h.st,h.rc,fun x hx q=>by
    rcases h.cl x hx q with c | c | ⟨rfl,c⟩
    · exact .inl c
    · exact .inr (.inl c)
    · have:=hx.1;omega,h.bd⟩
theorem take_memS {ns:List Int} {k:Nat} (h:k < ns.length) {y:Int}:y ∈ ns.take (k + 1) ↔ y ∈ ns.take k ∨ y = nth ns k:=by
  rw [List.take_succ_eq_append_getElem h,← Ql h,List.mem_append,List.mem_singleton]
theorem DI.skip {nx:List (List Int)} {ss:List Int} {a:Int} {k:Nat} {m:List Bool} {td:List Int} (h:DI nx ss a k m td) (hk:k < (nth nx a.toNat).length) (hm:mkd m (nth (nth nx a.toNat) k)):DI nx ss a (k + 1) m td :=
  ⟨h.ln,h.nd,h.st,h.rc,fun x hx q=>by
    rcases h.cl x hx q with c | c | ⟨rfl,c⟩
    · exact .inl c
    · exact .inr (.inl c)
    · refine .inr (.inr ⟨rfl,fun y hy=>?_⟩)
      rw [take_memS hk] at hy
      rcases hy with hy | rfl
      · exact c y hy
      · exact hm,h.bd⟩
theorem DI.mark {nx:List (List Int)} (hx:Xc nx) {ss:List Int} {a:Int} {k:Nat} {m:List Bool} {td:List Int} (h:DI nx ss a k m td) (ha:Nd nx a) (hma:mkd m a) (hk:k < (nth nx a.toNat).length) (hm:nth m (nth (nth nx a.toNat) k).toNat = false):DI nx ss a (k + 1) (m.set (nth (nth nx a.toNat) k).toNat true) (td ++ [nth (nth nx a.toNat) k]):=by
  have hy:Nd nx (nth (nth nx a.toNat) k):=Zm hx ha (Xe hk)
  have hyl:(nth (nth nx a.toNat) k).toNat < m.length:=by rw [h.ln];have:=hy.1;have:=hy.2;omega
  have hs:∀ {x},Nd nx x → (mkd (m.set (nth (nth nx a.toNat) k).toNat true) x ↔ nth (nth nx a.toNat) k = x ∨ mkd m x):=fun q=>mk_set h.ln hy q
  have up:∀ x,mkd m x → mkd (m.set (nth (nth nx a.toNat) k).toNat true) x:=fun x q=>by
    unfold mkd at q ⊢
    by_cases e:(nth (nth nx a.toNat) k).toNat = x.toNat
    · rw [e] at hyl ⊢;exact Zt hyl _
    · rw [Zn e];exact q
  refine ⟨by rw [List.length_set];exact h.ln,fun x q=>?_,fun s q=>up s (h.st s q),fun x q1 q2=>?_,fun x q1 q2=>?_,?_⟩
  · rw [List.mem_append,List.mem_singleton] at q
    rcases q with q | rfl
    · exact ⟨(h.nd x q).1,up x (h.nd x q).2⟩
    · exact ⟨hy,(hs hy).2 (.inl rfl)⟩
  · rcases (hs q1).1 q2 with rfl | q
    · obtain ⟨s,s1,s2⟩:=h.rc a ha hma
      exact ⟨s,s1,s2.trans (.edge (Xe hk))⟩
    · exact h.rc x q1 q
  · rcases (hs q1).1 q2 with rfl | q
    · exact .inl (List.mem_append_right _ (by simp))
    · rcases h.cl x q1 q with c | c | ⟨rfl,c⟩
      · exact .inl (List.mem_append_left _ c)
      · exact .inr (.inl fun y z=>up y (c y z))
      · refine .inr (.inr ⟨rfl,fun y z=>?_⟩)
        rw [take_memS hk] at z
        rcases z with z | rfl
        · exact up y (c y z)
        · exact (hs hy).2 (.inl rfl)
  · have:=un_set hyl hm
    have:=h.bd
    simp only [List.length_append,List.length_singleton];omega
theorem DI.done {nx:List (List Int)} (hx:Xc nx) {ss:List Int} {a:Int} {m:List Bool} (h:DI nx ss a (nth nx a.toNat).length m []) (hs:∀ x,x ∈ ss → Nd nx x):m = rchL nx ss:=by
  have hcl:∀ x y,Rch nx x y → Nd nx x → mkd m x → mkd m y:=by
    intro x y r
    induction r with
    | refl x=>exact fun _ q=>q
    | step e _ ih =>
      intro q1 q2
      refine ih (Zm hx q1 e) ?_
      rcases h.cl _ q1 q2 with c | c | ⟨rfl,c⟩
      · cases c
      · exact c _ e
      · rw [List.take_length] at c;exact c _ e
  apply List.ext_getElem (by rw [h.ln,zage])
  intro i h1 h2
  rw [zage] at h2
  rw [← Ql h1,← Ql (by rw [zage];exact h2),nth_rchL h2]
  have hnd:Nd nx (i:Int):=⟨by omega,by omega⟩
  have key:mkd m (i:Int) ↔ RchS nx ss (i:Int):=by
    constructor
    · exact h.rc _ hnd
    · rintro ⟨s,s1,s2⟩
      exact hcl _ _ s2 (hs s s1) (h.st s s1)
  unfold mkd at key
  rw [Int.toNat_natCast] at key
  cases hb:nth m i with
  | true=>rw [B_yes (key.1 hb)]
  | false=>rw [B_no fun q=>by rw [key.2 q] at hb;cases hb]

structure LI (nx:List (List Int)) (a:Int) (R:Nat) (i:Nat) (m:List Bool) (q:List Int):Prop where
  ln:m.length = nx.length
  rq:∀ x,x ∈ q → Nd nx x ∧ ∃ y,y ∈ nth nx a.toNat ∧ Rch nx y x
  st:∀ y,y ∈ nth nx a.toNat → y ∈ q
  dn:∀ j,j < i → ¬ nth q j = a ∧ mkd m (nth q j)
  cl:∀ x,Nd nx x → mkd m x → ∀ y,y ∈ nth nx x.toNat → y ∈ q
  bd:q.length + R * un m ≤ R * (nx.length + 1)
theorem LI.start {nx:List (List Int)} (hx:Xc nx) {a:Int} (ha:Nd nx a) {R:Nat} (hR:∀ i,i < nx.length → (nth nx i).length ≤ R):LI nx a R 0 (zrP nx.length false) (nth nx a.toNat):=by
  refine ⟨by simp,fun x q=>⟨Zm hx ha q,x,q,.refl x⟩,fun y q=>q,fun j hj=>by omega,fun x q1 q2=>?_,?_⟩
  · unfold mkd at q2
    have:=q1.1;have:=q1.2
    rw [Ql (by simp;omega)] at q2
    simp at q2
  · have:=hR a.toNat (by have:=ha.1;have:=ha.2;omega)
    have h2:un (zrP nx.length false) ≤ nx.length:=by have:=un_le (zrP nx.length false);simpa using this
    have h3:R * un (zrP nx.length false) ≤ R * nx.length:=Nat.mul_le_mul_left R h2
    rw [Nat.mul_add,Nat.mul_one];omega
theorem LI.found {nx:List (List Int)} {a:Int} {R i:Nat} {m:List Bool} {q:List Int} (h:LI nx a R i m q) (hi:i < q.length) (e:nth q i = a):Cyc nx a:=by
  obtain ⟨_,y,y1,y2⟩:=h.rq _ (Xe hi)
  rw [e] at y2
  exact ⟨y,y1,y2⟩
theorem LI.skip {nx:List (List Int)} {a:Int} {R i:Nat} {m:List Bool} {q:List Int} (h:LI nx a R i m q) (hi:i < q.length) (e:¬ nth q i = a) (hm:mkd m (nth q i)):LI nx a R (i + 1) m q :=
  ⟨h.ln,h.rq,h.st,fun j hj=>by
    by_cases c:j = i
    · subst c;exact ⟨e,hm⟩
    · exact h.dn j (by omega),h.cl,h.bd⟩
theorem LI.step {nx:List (List Int)} (hx:Xc nx) {a:Int} {R i:Nat} (hR:∀ i,i < nx.length → (nth nx i).length ≤ R) {m:List Bool} {q:List Int} (h:LI nx a R i m q) (hi:i < q.length) (e:¬ nth q i = a) (hm:nth m (nth q i).toNat = false):LI nx a R (i + 1) (m.set (nth q i).toNat true) (q ++ nth nx (nth q i).toNat):=by
  obtain ⟨hv,y0,y1,y2⟩:=h.rq _ (Xe hi)
  have hvl:(nth q i).toNat < nx.length:=by have:=hv.1;have:=hv.2;omega
  have hs:∀ {x},Nd nx x → (mkd (m.set (nth q i).toNat true) x ↔ nth q i = x ∨ mkd m x):=fun c=>mk_set h.ln hv c
  have hq:∀ j,j < q.length → nth (q ++ nth nx (nth q i).toNat) j = nth q j:=fun j hj=>Xl hj
  refine ⟨by rw [List.length_set];exact h.ln,fun x c=>?_,fun y c=>List.mem_append_left _ (h.st y c),fun j hj=>?_,fun x c1 c2 y c3=>?_,?_⟩
  · rw [List.mem_append] at c
    rcases c with c | c
    · exact h.rq x c
    · exact ⟨Zm hx hv c,y0,y1,y2.trans (.edge c)⟩
  · by_cases c:j = i
    · subst c
      rw [hq j hi]
      exact ⟨e,(hs hv).2 (.inl rfl)⟩
    · obtain ⟨d1,d2⟩:=h.dn j (by omega)
      rw [hq j (by omega)]
      exact ⟨d1,(hs (h.rq _ (Xe (by omega))).1).2 (.inr d2)⟩
  · rcases (hs c1).1 c2 with rfl | c
    · exact List.mem_append_right _ c3
    · exact List.mem_append_left _ (h.cl x c1 c y c3)
  · have h1:=un_set (by rw [h.ln];exact hvl) hm
    have h2:=h.bd
    have h3:=hR _ hvl
    have h4:R * un m = R * un (m.set (nth q i).toNat true) + R:=by rw [← h1,Nat.mul_add,Nat.mul_one]
    rw [List.length_append];omega
theorem LI.done {nx:List (List Int)} (hx:Xc nx) {a:Int} (ha:Nd nx a) {R i:Nat} {m:List Bool} {q:List Int} (h:LI nx a R i m q) (hi:q.length ≤ i):¬ Cyc nx a:=by
  have hcl:∀ x y,Rch nx x y → Nd nx x → x ∈ q → y ∈ q:=by
    intro x y r
    induction r with
    | refl x=>exact fun _ c=>c
    | step e _ ih =>
      intro c1 c2
      obtain ⟨j,hj,ej⟩:=Js c2
      have:=(h.dn j (by omega)).2
      rw [ej] at this
      exact ih (Zm hx c1 e) (h.cl _ c1 this _ e)
  rintro ⟨y,y1,y2⟩
  have:=hcl y a y2 (Zm hx ha y1) (h.st y y1)
  obtain ⟨j,hj,ej⟩:=Js this
  exact (h.dn j (by omega)).1 ej
def lms (R:Nat) (i:Nat) (m:List Bool) (q:List Int):Nat:=(R + 1) * un m + (q.length - i)
theorem lms_skip {R i:Nat} {m:List Bool} {q:List Int} (hi:i < q.length):lms R (i + 1) m q < lms R i m q:=by unfold lms;omega
theorem lms_step {nx:List (List Int)} {R i:Nat} {m:List Bool} {q l:List Int} (hi:i < q.length) {k:Nat} (hk:k < m.length) (hm:nth m k = false) (hl:l.length ≤ R):lms R (i + 1) (m.set k true) (q ++ l) < lms R i m q:=by
  have:=un_set hk hm
  unfold lms
  rw [← this,Nat.mul_add,Nat.mul_one,List.length_append];omega

def oNd (x:List Int):D:=if x = [] then .nil else .fr 1 x.length (cat cI x)
def oN (x:List Int):List D:=[oNd x]
theorem zalz:oNd [] = .nil:=rfl
theorem Wf {x:List Int} (h:¬ x = []):oNd x = .fr 1 x.length (cat cI x):=by rw [oNd,if_neg h]
theorem oNd_leaf (x:List Int):leaf (oNd x) = true:=by
  unfold oNd;split <;> rfl
theorem oNd_dat (x:List Int):dat (oNd x) = li cI x:=by
  by_cases h:x = []
  · subst h;simp [zalz,dat,li,cat]
  · rw [Wf h];exact fr_dat x
instance:Wide oN 1:=⟨fun _=>rfl,by omega,fun a=>by simp [oN,oNd_leaf]⟩
instance:Own oN cL 2:=⟨fun a=>by
    by_cases h:a = []
    · subst h;simp [oN,zalz,Zy,closed]
    · simp [oN,Wf h,Zy];exact fr_closed a,fun a=>by simp [oN,cL,oNd_dat],fun a N=>by
    by_cases h:a = []
    · subst h;simp [oN,zalz,bndL,bnd]
    · simp only [oN,Wf h];exact ⟨fr_bnd N a,trivial⟩,fun a H j hj=>by
    by_cases h:a = []
    · subst h
      obtain ⟨j,rfl⟩:∃ i,j = i + 1:=⟨j - 1,by omega⟩
      simp [oN,zalz,deref,cL,li,cat]
    · simp only [oN,Wf h,cL,List.map_cons,List.map_nil]
      have:=fr_deref (sz:=1) (f:=cI) H hj a
      simpa [fr] using this⟩
theorem oN_set {xs:List (List Int)} {i:Nat} {junk:List D} {y:List Int} (h:i < xs.length):(cat oN xs ++ junk).set i (oNd y) = cat oN (xs.set i y) ++ junk:=zann h rfl
theorem oN_rep (n:Nat):cat oN (zrP n []) = zrP n .nil:=by
  induction n with
  | zero=>rfl
  | succ n ih=>rw [List.replicate_succ,List.replicate_succ,Xj,ih];rfl
theorem oN_get {xs:List (List Int)} {i:Nat} (h:i < xs.length) (junk:List D):(cat oN xs ++ junk).getD i .any = oNd (nth xs i):=by
  have h1:i < (cat oN xs).length:=by rw [Qz];omega
  rw [List.getD_eq_getElem?_getD,List.getElem?_append_left h1]
  have:=cat_get1 (f:=oN) h
  rw [List.getD_eq_getElem?_getD] at this
  exact this
def addE (r:List (List Int)) (f t:Int):List (List Int):=r.set f.toNat (nth r f.toNat ++ [t])
theorem addE_len (r:List (List Int)) (f t:Int):(addE r f t).length = r.length:=by simp [addE]
theorem zaij {r:List (List Int)} {f t:Int} {i:Nat} (hf:f.toNat < r.length):nth (addE r f t) i = if f.toNat = i then nth r i ++ [t] else nth r i:=by
  unfold addE
  by_cases e:f.toNat = i
  · subst e;rw [Zt hf,if_pos rfl]
  · rw [Zn e,if_neg e]
theorem zaio {r:List (List Int)} {f t:Int} {i:Nat} (hf:f.toNat < r.length) (y:Int):y ∈ nth (addE r f t) i ↔ y ∈ nth r i ∨ (f.toNat = i ∧ y = t):=by
  rw [zaij hf]
  split
  · rename_i e;simp [e]
  · rename_i e;simp [e]
def addD (r:List (List Int)) (f t:Int):List (List Int):=if t ∈ nth r f.toNat then r else addE r f t
theorem addD_len (r:List (List Int)) (f t:Int):(addD r f t).length = r.length:=by unfold addD;split;rfl;exact addE_len ..
theorem mem_addD {r:List (List Int)} {f t:Int} {i:Nat} (hf:f.toNat < r.length) (y:Int):y ∈ nth (addD r f t) i ↔ y ∈ nth r i ∨ (f.toNat = i ∧ y = t):=by
  unfold addD
  split
  · rename_i h
    constructor
    · exact .inl
    · rintro (q | ⟨rfl,rfl⟩)
      · exact q
      · exact h
  · exact zaio hf y
def InRng (n:Nat) (es:List Tr4):Prop:=∀ i,i < es.length → (0 ≤ (nth es i).1 ∧ (nth es i).1 < n) ∧ 0 ≤ (nth es i).2.2.2 ∧ (nth es i).2.2.2 < n
def nxE (n:Nat) (es:List Tr4) (k:Nat):List (List Int):=(es.take k).foldl (fun r e=>addE r e.1 e.2.2.2) (zrP n [])
def nxD (n:Nat) (es:List Tr4) (k:Nat):List (List Int):=(es.take k).foldl (fun r e=>addD r e.1 e.2.2.2) (zrP n [])
theorem zaih (n:Nat) (es:List Tr4):nxE n es 0 = zrP n []:=by simp [nxE]
theorem nxD_zero (n:Nat) (es:List Tr4):nxD n es 0 = zrP n []:=by simp [nxD]
theorem Yb {n:Nat} {es:List Tr4} {k:Nat} (h:k < es.length):nxE n es (k + 1) = addE (nxE n es k) (nth es k).1 (nth es k).2.2.2:=by
  unfold nxE;rw [List.take_succ_eq_append_getElem h,← Ql h,List.foldl_append];rfl
theorem zama {n:Nat} {es:List Tr4} {k:Nat} (h:k < es.length):nxD n es (k + 1) = addD (nxD n es k) (nth es k).1 (nth es k).2.2.2:=by
  unfold nxD;rw [List.take_succ_eq_append_getElem h,← Ql h,List.foldl_append];rfl
theorem Xp (n:Nat) (es:List Tr4):∀ k,k ≤ es.length → (nxE n es k).length = n
  | 0,_=>by simp [nxE]
  | k + 1,h=>by rw [Yb (by omega),addE_len,Xp n es k (by omega)]
theorem Yj (n:Nat) (es:List Tr4):∀ k,k ≤ es.length → (nxD n es k).length = n
  | 0,_=>by simp [nxD]
  | k + 1,h=>by rw [zama (by omega),addD_len,Yj n es k (by omega)]
theorem nxE_row {n:Nat} {es:List Tr4} (hr:InRng n es):∀ k,k ≤ es.length → ∀ i,(nth (nxE n es k) i).length ≤ k
  | 0,_,i=>by
    rw [zaih]
    simp only [nth,List.getD_eq_getElem?_getD]
    rcases Nat.lt_or_ge i n with q | q
    · simp [q]
    · rw [List.getElem?_eq_none (by simpa using q)];simp [default]
  | k + 1,h,i=>by
    have ih:=nxE_row hr k (by omega) i
    have hk:=(hr k (by omega)).1
    rw [Yb (by omega),zaij (by rw [Xp n es k (by omega)];omega)]
    split
    · simp;omega
    · omega
theorem nx_same {n:Nat} {es:List Tr4} (hr:InRng n es):∀ k,k ≤ es.length → ∀ i y,y ∈ nth (nxE n es k) i ↔ y ∈ nth (nxD n es k) i
  | 0,_,i,y=>by rw [zaih,nxD_zero]
  | k + 1,h,i,y=>by
    have ih:=nx_same hr k (by omega) i y
    have hk:=(hr k (by omega)).1
    rw [Yb (by omega),zama (by omega),zaio (by rw [Xp n es k (by omega)];omega),mem_addD (by rw [Yj n es k (by omega)];omega),ih]
theorem nx_sameN {n:Nat} {es:List Tr4} (hr:InRng n es):SameN (nxE n es es.length) (nxD n es es.length) :=
  ⟨by rw [Xp n es _ (Nat.le_refl _),Yj n es _ (Nat.le_refl _)],fun i _ y=>nx_same hr _ (Nat.le_refl _) i y⟩
theorem nxE_rng {n:Nat} {es:List Tr4} (hr:InRng n es):∀ k,k ≤ es.length → ∀ i y,y ∈ nth (nxE n es k) i → 0 ≤ y ∧ y < n
  | 0,_,i,y=>by
    rw [zaih]
    simp only [nth,List.getD_eq_getElem?_getD]
    rcases Nat.lt_or_ge i n with q | q
    · simp [q]
    · rw [List.getElem?_eq_none (by simpa using q)];simp [default]
  | k + 1,h,i,y=>by
    have ih:=nxE_rng hr k (by omega) i y
    have hk:=(hr k (by omega)).1
    rw [Yb (by omega),zaio (by rw [Xp n es k (by omega)];omega)]
    rintro (q | ⟨_,rfl⟩)
    · exact ih q
    · exact (hr k (by omega)).2
theorem Zh {n:Nat} {es:List Tr4} (hr:InRng n es):Xc (nxE n es es.length):=fun j hj k hk=>by
  have:=nxE_rng hr es.length (Nat.le_refl _) j _ (Xe hk)
  rw [Xp n es _ (Nat.le_refl _)];exact this
theorem nxD_ok {n:Nat} {es:List Tr4} (hr:InRng n es):Xc (nxD n es es.length):=(nx_sameN hr).nextOk (Zh hr)
theorem nxD_row {n:Nat} {es:List Tr4} (hr:InRng n es):∀ k,k ≤ es.length → ∀ i,(nth (nxD n es k) i).length ≤ k
  | 0,_,i=>by
    rw [nxD_zero]
    simp only [nth,List.getD_eq_getElem?_getD]
    rcases Nat.lt_or_ge i n with q | q
    · simp [q]
    · rw [List.getElem?_eq_none (by simpa using q)];simp [default]
  | k + 1,h,i=>by
    have ih:=nxD_row hr k (by omega) i
    have hk:=(hr k (by omega)).1
    rw [zama (by omega),addD]
    split
    · omega
    · rw [zaij (by rw [Yj n es k (by omega)];omega)]
      split
      · simp;omega
      · omega
theorem nxE_nextS {n:Nat} {es:List Tr4} (hr:InRng n es) (h:es.length ≤ 1048576):NextS (nxE n es es.length):=fun j hj=>Nat.le_trans (nxE_row hr _ (Nat.le_refl _) j) h
theorem nxD_nextS {n:Nat} {es:List Tr4} (hr:InRng n es) (h:es.length ≤ 1048576):NextS (nxD n es es.length):=fun j hj=>Nat.le_trans (nxD_row hr _ (Nat.le_refl _) j) h

def Liv (nx:List (List Int)) (acc:List Bool) (ss:List Int):Prop:=∃ x,Nd nx x ∧ RchS nx ss x ∧ Cyc nx x ∧ nth acc x.toNat = true
noncomputable def livL (nx:List (List Int)) (acc:List Bool):List Bool:=(List.range nx.length).map fun i:Nat=>Vm.B (Liv nx acc [(i:Int)])
theorem zaip (nx:List (List Int)) (acc:List Bool):(livL nx acc).length = nx.length:=by simp [livL]
theorem SameN.liv {nx my:List (List Int)} (h:SameN nx my) (hx:Xc nx) {acc:List Bool} {ss:List Int} (hs:∀ s,s ∈ ss → Nd nx s):Liv nx acc ss ↔ Liv my acc ss:=by
  constructor
  · rintro ⟨x,x1,⟨s,s1,s2⟩,x3,x4⟩
    exact ⟨x,⟨x1.1,by rw [← h.1];exact x1.2⟩,⟨s,s1,(h.rch_iff hx (hs s s1)).1 s2⟩,(h.cyc hx x1).1 x3,x4⟩
  · rintro ⟨x,x1,⟨s,s1,s2⟩,x3,x4⟩
    have x1':Nd nx x:=⟨x1.1,by rw [h.1];exact x1.2⟩
    exact ⟨x,x1',⟨s,s1,(h.rch_iff hx (hs s s1)).2 s2⟩,(h.cyc hx x1').2 x3,x4⟩
end Go.Proofs.Ytkjimmkemnmajaa.Vm

