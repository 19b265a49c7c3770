import Derived.Test.YtmiimodggpjkmaaW16
import Derived.Test.YtmiimodggpjkmaaJ9
import Derived.Test.YtmiimodggpjkmaaQ1
import Derived.Test.YtmiimodggpjkmaaJ10
/-
  Quotients, plain; marks held in graphs; the first of each block. No conditions.
-/
namespace Go.Proofs.Ytmiimodggpjkmaa.Vm
open Go
open Nat renaming sub_pos_of_lt → zsP
open List renaming getD_eq_getElem?_getD → zg,drop_one → zd
noncomputable section
set_option linter.unusedVariables false
set_option linter.unusedSimpArgs false
set_option maxRecDepth 200000

def fsN (p:List Int):Nat → List Int
  | 0=>[]
  | i + 1=>if nth p i = most p i then fsN p i ++ [(i:Int)] else fsN p i
theorem fsN_len (p:List Int):∀ i,((fsN p i).length:Int) = most p i
  | 0=>rfl
  | i + 1=>by
    have ih:=fsN_len p i
    simp only [fsN,most]
    split
    · simp;omega
    · exact ih
theorem fsN_le (p:List Int):∀ i,(fsN p i).length ≤ i
  | 0=>by simp [fsN]
  | i + 1=>by
    have ih:=fsN_le p i
    simp only [fsN]
    split
    · simp;omega
    · omega
theorem zapn {p:List Int} {i:Nat} (h:nth p i = ((fsN p i).length:Int)):fsN p (i + 1) = fsN p i ++ [(i:Int)]:=by
  rw [fsN_len] at h
  rw [fsN,if_pos h]
theorem fsN_no {p:List Int} {i:Nat} (h:¬ nth p i = ((fsN p i).length:Int)):fsN p (i + 1) = fsN p i:=by
  rw [fsN_len] at h
  rw [fsN,if_neg h]
theorem fsN_mem {p:List Int}:∀ {i:Nat} {x:Int},x ∈ fsN p i → 0 ≤ x ∧ x < i
  | 0,x,h=>by simp [fsN] at h
  | i + 1,x,h=>by
    simp only [fsN] at h
    split at h
    · rcases List.mem_append.1 h with q | q
      · have:=fsN_mem q;omega
      · simp at q;omega
    · have:=fsN_mem h;omega
theorem fsN_places {p:List Int} {n:Nat} (h:p.length = n):Places n (fsN p p.length):=fun i hi=>by
  have:=fsN_mem (Xs hi)
  omega
theorem most_mono (p:List Int) {i:Nat}:∀ d,most p i ≤ most p (i + d)
  | 0=>Int.le_refl _
  | d + 1=>by
    have ih:=most_mono p (i:=i) d
    show most p i ≤ most p (i + d + 1)
    simp only [most]
    split <;> omega
theorem part_lt {p:List Int} (hP:Xy p) {i j:Nat} (hj:j < i) (hi:i ≤ p.length):nth p j < most p i:=by
  have h1:=(hP j (by omega)).2
  have h2:=most_mono p (i:=j + 1) (i - (j + 1))
  rw [show j + 1 + (i - (j + 1)) = i by omega] at h2
  have h3:nth p j < most p (j + 1):=by
    simp only [most]
    split <;> omega
  omega
theorem part_has (p:List Int):∀ i (v:Int),0 ≤ v → v < most p i → ∃ j,j < i ∧ nth p j = v
  | 0,v,h0,h1=>by simp only [most] at h1;omega
  | i + 1,v,h0,h1=>by
    simp only [most] at h1
    split at h1
    · rename_i e
      by_cases q:v = most p i
      · exact ⟨i,by omega,by rw [e,q]⟩
      · obtain ⟨j,j1,j2⟩:=part_has p i v h0 (by omega)
        exact ⟨j,by omega,j2⟩
    · obtain ⟨j,j1,j2⟩:=part_has p i v h0 h1
      exact ⟨j,by omega,j2⟩
theorem findI_leQ {α:Type} [Inhabited α] {f:α → Bool} {xs:List α} {j:Nat} (hj:j < xs.length) (h:f (nth xs j) = true):findI f xs ≤ j:=by
  unfold findI
  split
  · rename_i i hi
    rw [List.findIdx?_eq_some_iff_getElem] at hi
    obtain ⟨q1,q2,q3⟩:=hi
    rcases Nat.lt_or_ge j i with q | q
    · have:=q3 j q
      rw [Qv hj] at h
      exact absurd h (by simpa using this)
    · omega
  · omega
theorem first_iff {p:List Int} (hP:Xy p) {i:Nat} (hi:i < p.length):findI (isN (nth p i)) p = (i:Int) ↔ nth p i = ((fsN p i).length:Int):=by
  rw [fsN_len]
  constructor
  · intro h
    refine Classical.byContradiction fun c=>?_
    have h2:=hP i hi
    obtain ⟨j,j1,j2⟩:=part_has p i (nth p i) h2.1 (by omega)
    have:=findI_leQ (f:=isN (nth p i)) (xs:=p) (j:=j) (by omega) (by simp [isN,j2])
    omega
  · intro h
    refine zajq (k:=i) (fun j hj=>?_) hi (by simp [isN])
    have:=part_lt hP hj (by omega)
    simp only [isN,decide_eq_false_iff_not]
    omega
def ddN (xs:List Int):Nat → List Int
  | 0=>[]
  | m + 1=>if nth xs m ∈ ddN xs m then ddN xs m else ddN xs m ++ [nth xs m]
theorem ddN_le (xs:List Int):∀ m,(ddN xs m).length ≤ m
  | 0=>by simp [ddN]
  | m + 1=>by
    have:=ddN_le xs m
    simp only [ddN]
    split
    · omega
    · simp;omega
theorem ddN_in {xs:List Int} {m:Nat} (h:nth xs m ∈ ddN xs m):ddN xs (m + 1) = ddN xs m:=by rw [ddN,if_pos h]
theorem ddN_new {xs:List Int} {m:Nat} (h:¬ nth xs m ∈ ddN xs m):ddN xs (m + 1) = ddN xs m ++ [nth xs m]:=by rw [ddN,if_neg h]
def qS (a:List Ints2) (p:List Int) (i:Nat):List Ints2:=(fsN p i).map fun x=>nth a x.toNat
def qR (b:List (List Int)) (p:List Int) (x:Int):List Int:=ddN (pickL p (nth b x.toNat)) (nth b x.toNat).length
def qN (b:List (List Int)) (p:List Int) (i:Nat):List (List Int):=(fsN p i).map fun x=>qR b p x
theorem Vw (a:List Ints2) (p:List Int) (i:Nat):(qS a p i).length = (fsN p i).length:=by simp [qS]
theorem qN_len (b:List (List Int)) (p:List Int) (i:Nat):(qN b p i).length = (fsN p i).length:=by simp [qN]
theorem qS_yes {a:List Ints2} {p:List Int} {i:Nat} (h:nth p i = ((fsN p i).length:Int)):qS a p (i + 1) = qS a p i ++ [nth a i]:=by simp [qS,zapn h]
theorem qN_yes {b:List (List Int)} {p:List Int} {i:Nat} (h:nth p i = ((fsN p i).length:Int)):qN b p (i + 1) = qN b p i ++ [qR b p i]:=by simp [qN,zapn h]
theorem qS_no {a:List Ints2} {p:List Int} {i:Nat} (h:¬ nth p i = ((fsN p i).length:Int)):qS a p (i + 1) = qS a p i:=by simp [qS,fsN_no h]
theorem qN_no {b:List (List Int)} {p:List Int} {i:Nat} (h:¬ nth p i = ((fsN p i).length:Int)):qN b p (i + 1) = qN b p i:=by simp [qN,fsN_no h]
def QgOk (a:List Ints2) (b:List (List Int)) (p:List Int):Prop:=GraphOk a b ∧ Xy p ∧ p.length = a.length
theorem QgOk.row {a:List Ints2} {b:List (List Int)} {p:List Int} (h:QgOk a b p) {i:Nat} (hi:i < p.length):Places p.length (nth b i) ∧ (nth b i).length ≤ 60:=by
  obtain ⟨⟨g1,g2,g3,g4,g5⟩,hP,e⟩:=h
  have h5:=(g5 i (by omega)).2
  have hl:=h5.len
  exact ⟨fun k hk=>by have:=h5 k hk;omega,by omega⟩

@[go_sem] def Γqa1:FuncId → Con:=Γj4
theorem Γqa1_ok:∀ g,ConOk Try.prog g (Γqa1 g):=Γj4_ok

@[go_sem] def Γqa2:FuncId → Con:=Γqa1
theorem Γqa2_ok:∀ g,ConOk Try.prog g (Γqa2 g):=Γqa1_ok

@[go_sem] def Γqa3:FuncId → Con:=Γqa2
theorem Ur:∀ g,ConOk Try.prog g (Γqa3 g):=Γqa2_ok

structure LB where
  k:Nat
  lb:Nat
  cl:Nat
  jl:Nat
  H:Hp
structure LBm (xs:List Int) (x:LB):Prop where
  h:x.H x.lb = some (cat cI xs ++ List.replicate x.jl .any)
  r1:xs.length ≤ x.cl
  r2:x.cl ≤ xs.length + x.jl

set_option maxHeartbeats 2000000 in
theorem firsts_pure (p:List Int) (h0:p.length ≤ 1048576):Pure Try.prog 44 [li cI p] (fr 1 cI (fsN p p.length)):=by
  refine Pure.of_walk Try.func44 rfl (by simp [Try.f44]) (by simp [-zd,go_sem]) fun B hK=>?_
  (repeat' (first
 | refine Qs ?_
 | refine Qc (id:=0) Ur [] (by kernel_rfl) ?_;simp [-zg,-zd,↓Qb,↓Qa,go_sem]
 | refine Qc (id:=1) Ur [] (by kernel_rfl) ?_;simp [-zg,-zd,↓Qb,↓Qa,go_sem];try ((refine Zj 3 rfl fun lb cl jl q1 hcl hjl=>?_);(clear q1);(refine Qw (fun H1=>LBm (fsN p 0) ⟨0,lb,cl,jl,H1⟩) ⟨by simp [upd,fsN,Xj],by simp [fsN],by simp [fsN];omega⟩ fun H1 w1=>?_))
 | refine Qc (id:=2) Ur [] (by kernel_rfl) ?_;simp [-zg,-zd,↓Qb,↓Qa,go_sem]
 | refine Qc (id:=3) Ur [] (by kernel_rfl) ?_;simp [-zg,-zd,↓Qb,↓Qa,go_sem]
 | refine Qc (id:=5) Ur [] (by kernel_rfl) ?_;simp [-zg,-zd,↓Qb,↓Qa,go_sem,c9,Qg c9,zsP c9]
 | ((obtain ⟨m1,m2,m3⟩:=g2);(have hle:=fsN_le p q.k);(have hys:=zapn c18);(have hyl:=congrArg List.length hys);(rw [List.length_append,List.length_singleton] at hyl));refine Qc (id:=6) Ur [] (by kernel_rfl) ?_;simp [-zg,-zd,↓Qb,↓Qa,go_sem,m1,m2,m3,Wd,Xz,(show (fsN p q.k).length ≤ 9223372036854775806 by omega),(show 2 * ((fsN p q.k).length + 1) * 8 ≤ 281474976710656 by omega),(show (fsN p q.k).length ≤ (fsN p q.k).length + q.jl by omega)];try ((refine Zj 3 rfl fun lb2 cl2 jl2 q2 hc2 hj2=>?_);(clear q2);(refine Qw (fun H2=>LBm (fsN p (q.k + 1)) ⟨q.k + 1,lb2,cl2,jl2,H2⟩) ⟨by simp [upd,hys],by dsimp only;omega,by dsimp only;omega⟩ fun H2 w2=>?_))
 | refine Qc (id:=4) Ur [] (by kernel_rfl) ?_;simp [-zg,-zd,↓Qb,↓Qa,go_sem,wrapS (k:=q.k) (by omega)]
 | ((obtain ⟨kx,lx,cx,jx,Hx⟩:=q);(dsimp only at *);(obtain rfl:kx = p.length:=by omega);(obtain ⟨m1,m2,m3⟩:=g2);(dsimp only at m1 m2 m3);(refine Ji 3 (b:=lx) (all:=cat cI (fsN p p.length) ++ List.replicate jx D.any) rfl m1 (by omega) (by simp [Qt]) (by simp [Qt];omega) ?_));refine Qc (id:=7) Ur [] (by kernel_rfl) ?_;simp [-zg,-zd,↓Qb,↓Qa,go_sem,Xz]
 | refine Qd (c:=.tmp 9) ?_;simp [-zg,-zd,↓Qb,↓Qa,go_sem];try first | (refine ⟨?_,?_⟩ <;> refine zA ?_) | (refine ⟨fun c9=>?_,fun c9=>?_⟩ <;> (try simp [B_iff,B_not] at c9))
 | refine Qd (c:=.tmp 18) ?_;simp [-zg,-zd,↓Qb,↓Qa,go_sem];try first | (refine ⟨?_,?_⟩ <;> refine zA ?_) | (refine ⟨fun c18=>?_,fun c18=>?_⟩ <;> (try simp [B_iff,B_not] at c18))
 | (refine Qe (id:=0) (Qy (ι:=LB) (fun q:LB=>⟨(upd (upd (upd (fun _=>.any) 0 (li cI p)) 3 (.sl q.lb 1 0 (fsN p q.k).length q.cl)) 4 (.int .i64 q.k)),q.H⟩) (fun q=>q.k ≤ p.length ∧ LBm (fsN p q.k) q) (fun q=>p.length - q.k) (⟨0,lb,cl,jl,H1⟩) ?_ ?_ ?_);exact ⟨Nat.zero_le _,w1⟩;((repeat' (first | exact Qh (by assumption) | exact Qj | refine Qk ?_ ?_ | refine Qi ?_)) <;> simp [-zg,-zd,↓Qb,↓Qa,go_sem,fsN]);rintro q ⟨g1,g2⟩)
 | (refine ⟨⟨q.k + 1,q.lb,q.cl,q.jl,q.H⟩,⟨by dsimp only;omega,by dsimp only;rw [fsN_no c18];exact ⟨g2.h,g2.r1,g2.r2⟩⟩,by first | omega | (simp;done) | (simp;omega),?_⟩;((repeat' (first | exact Qh (by assumption) | exact Qj | refine Qk ?_ ?_ | refine Qi ?_)) <;> simp [-zg,-zd,↓Qb,↓Qa,go_sem,fsN_no c18]))
 | (refine Qe ?_)
 | (refine Qr ?_;simp [-zg,-zd,↓Qb,↓Qa,go_sem])
 | (refine Qq ?_;simp [-zg,-zd,↓Qb,↓Qa,go_sem])
 | (refine Qp ?_;simp [-zg,-zd,↓Qb,↓Qa,go_sem,Try.results44])
 | (intro hx;refine zA ?_)
 | (refine ⟨?_,?_⟩ <;> refine zA ?_)
 | (intro hx;constructor <;> intro hs)
 | (constructor <;> intro hs)
 | (refine ⟨?_,fun hs=>?_⟩;refine zA ?_)
 | (refine ⟨fun hs=>?_,?_⟩;rotate_left;refine zA ?_;rotate_left)
 | (refine ⟨⟨q.k + 1,lb2,cl2,jl2,H2⟩,⟨by dsimp only;omega,w2⟩,by dsimp only;omega,?_⟩;((repeat' (first | exact Qh (by assumption) | exact Qj | refine Qk ?_ ?_ | refine Qi ?_)) <;> simp [-zg,-zd,go_sem,hyl]);done)))
@[go_sem] def zahh:Con:=.pure fun
  | [.list n_p c_p]=>((Is cI n_p c_p) ∧ ((de cI c_p).length ≤ 1048576),fr 1 cI (fsN (de cI c_p) (de cI c_p).length))
  | _=>(False,.any)
theorem zaom:ConOk Try.prog 44 zahh:=by
  refine ⟨Qn Try.func44 (by decide) rfl,fun args h=>?_⟩
  revert h
  dsimp only
  split
  · intro h
    obtain ⟨⟨p,rfl,rfl⟩,h0⟩:=h
    try simp only [Qo] at *
    exact ⟨firsts_pure p h0,by simp [go_sem]⟩
  · intro h
    exact h.elim
@[go_sem] def Γqa4:FuncId → Con:=ext Γqa3 44 zahh
theorem Uq:∀ g,ConOk Try.prog g (Γqa4 g):=Qm Ur zaom

set_option maxHeartbeats 2000000 in
theorem statesX_pure (a:List Ints2) (bb:List (List Int)) (ys:List Int) (hn:ys.length ≤ 1048576) (hp:Places a.length ys) (hs:msum mP a a.length ≤ 1048576):Pure Try.prog 45 [.st [li cP a,li cL bb],li cI ys] (fr 2 oP (ys.map fun y=>nth a y.toNat)):=by
  refine Pure.of_walk Try.func45 rfl (by simp [Try.f45]) (by simp [-zd,go_sem]) fun B hK=>?_
  obtain ⟨zs,hz⟩:∃ zs,(ys.map fun y=>nth a y.toNat) = zs:=⟨_,rfl⟩;have hzl:zs.length = ys.length:=(by rw [← hz];simp);have hzn:∀ k,k < ys.length → nth zs k = nth a (nth ys k).toNat:=(fun k hk=>by rw [← hz,Qv (by simpa using hk),Qv hk];simp);rw [hz]
  all_goals (repeat' (first
 | refine Qs ?_
 | refine Qc (id:=0) Uq [] (by kernel_rfl) ?_;simp [-zg,-zd,↓Qb,↓Qa,go_sem];try (refine Xb hK 2 ?_;simp [go_sem])
 | refine Qc (id:=1) Uq [] (by kernel_rfl) ?_;simp [-zg,-zd,↓Qb,↓Qa,go_sem]
 | refine Qc (id:=2) Uq [] (by kernel_rfl) ?_;simp [-zg,-zd,↓Qb,↓Qa,go_sem]
 | refine Qc (id:=3) Uq [] (by kernel_rfl) ?_;simp [-zg,-zd,↓Qb,↓Qa,go_sem]
 | ((obtain ⟨p1,p2,p3⟩:=hp.at c12);(have hsi:=msum_at (m:=mP) p3);(simp only [mP] at hsi);(have hsn:cat oP (zs.take k) ++ [D.fr 1 (nth a (nth ys k).toNat).1.length (cat cI (nth a (nth ys k).toNat).1),D.fr 1 (nth a (nth ys k).toNat).2.length (cat cI (nth a (nth ys k).toNat).2)] = cat oP (zs.take (k + 1)):=(by rw [List.take_succ_eq_append_getElem (by omega),← Qv (by omega),hzn k c12,Xi,Xd];rfl)));refine Xm (id:=5) Uq mixed [] [] (by kernel_rfl) (by kernel_rfl) (by simp [-zg,-zd,↓Qb,↓Qa,go_sem,c12,Qg c12,zsP c12,p1,p2,p3,Qg p3,zsP p3]) ?_;simp [-zg,-zd,↓Qb,↓Qa,go_sem,c12,Qg c12,zsP c12,p1,p2,p3,Qg p3,zsP p3];try (refine Xb hK 7 ?_;simp [go_sem])
 | refine Xm (id:=6) Uq mixed [] [7] (by kernel_rfl) (by kernel_rfl) (by simp [-zg,-zd,↓Qb,↓Qa,go_sem,(show (nth a (nth ys k).toNat).1.length ≤ 9223372036854775807 by omega),(show 2 * (nth a (nth ys k).toNat).1.length * 8 ≤ 281474976710656 by omega),(show (nth a (nth ys k).toNat).2.length ≤ 9223372036854775807 by omega),(show 2 * (nth a (nth ys k).toNat).2.length * 8 ≤ 281474976710656 by omega),(show k ≤ 9223372036854775806 by omega),(show 2 * (k + 1) * 48 ≤ 281474976710656 by omega),(show k + 1 ≤ 9223372036854775807 by omega),(show makeD [D.nil,D.nil] 2 = [D.nil,D.nil] from rfl),hsn]) ?_;simp [-zg,-zd,↓Qb,↓Qa,go_sem,(show (nth a (nth ys k).toNat).1.length ≤ 9223372036854775807 by omega),(show 2 * (nth a (nth ys k).toNat).1.length * 8 ≤ 281474976710656 by omega),(show (nth a (nth ys k).toNat).2.length ≤ 9223372036854775807 by omega),(show 2 * (nth a (nth ys k).toNat).2.length * 8 ≤ 281474976710656 by omega),(show k ≤ 9223372036854775806 by omega),(show 2 * (k + 1) * 48 ≤ 281474976710656 by omega),(show k + 1 ≤ 9223372036854775807 by omega),(show makeD [D.nil,D.nil] 2 = [D.nil,D.nil] from rfl),hsn]
 | refine Qc (id:=4) Uq [] (by kernel_rfl) ?_;simp [-zg,-zd,↓Qb,↓Qa,go_sem,wrapS (k:=k) (by omega)]
 | ((obtain rfl:k = ys.length:=by omega));refine Qc (id:=7) Uq [] (by kernel_rfl) ?_;simp [-zg,-zd,↓Qb,↓Qa,go_sem,(show zs.take ys.length = zs from List.take_of_length_le (by omega)),hzl]
 | refine Qd (c:=.tmp 12) ?_;simp [-zg,-zd,↓Qb,↓Qa,go_sem];try first | (refine ⟨?_,?_⟩ <;> refine zA ?_) | (refine ⟨fun c12=>?_,fun c12=>?_⟩ <;> (try simp [B_iff,B_not] at c12))
 | (refine Qe (id:=0) (Qy (ι:=Nat) (fun k:Nat=>⟨(upd (upd (upd (upd (fun _=>.any) 1 (li cI ys)) 2 (.pd [li cP a,li cL bb])) 5 (.fr 2 k (cat oP (zs.take k)))) 6 (.int .i64 k)),fun _=>none⟩) (fun k=>k ≤ ys.length) (fun k=>ys.length - k) (0) ?_ ?_ ?_);exact Nat.zero_le _;((repeat' (first | exact Qh (by assumption) | exact Qj | refine Qk ?_ ?_ | refine Qi ?_)) <;> simp [-zg,-zd,↓Qb,↓Qa,go_sem,cat]);rintro k hk)
 | (refine ⟨k + 1,by omega,by first | omega | (simp;done) | (simp;omega),?_⟩;((repeat' (first | exact Qh (by assumption) | exact Qj | refine Qk ?_ ?_ | refine Qi ?_)) <;> simp [-zg,-zd,↓Qb,↓Qa,go_sem,cat]))
 | (refine Qe ?_)
 | (refine Qr ?_;simp [-zg,-zd,↓Qb,↓Qa,go_sem])
 | (refine Qq ?_;simp [-zg,-zd,↓Qb,↓Qa,go_sem])
 | (refine Qp ?_;simp [-zg,-zd,↓Qb,↓Qa,go_sem,Try.results45])
 | (intro hx;refine zA ?_)
 | (refine ⟨?_,?_⟩ <;> refine zA ?_)
 | (intro hx;constructor <;> intro hs)
 | (constructor <;> intro hs)
 | (refine ⟨?_,fun hs=>?_⟩;refine zA ?_)
 | (refine ⟨fun hs=>?_,?_⟩;rotate_left;refine zA ?_;rotate_left)))
@[go_sem] def zaex:Con:=.pure fun
  | [.st [.list n_a c_a,.list n_bb c_bb],.list n_ys c_ys]=>((Is cP n_a c_a) ∧ (Is cL n_bb c_bb) ∧ (Is cI n_ys c_ys) ∧ ((de cI c_ys).length ≤ 1048576) ∧ (Places (de cP c_a).length (de cI c_ys)) ∧ (msum mP (de cP c_a) (de cP c_a).length ≤ 1048576),fr 2 oP ((de cI c_ys).map fun y=>nth (de cP c_a) y.toNat))
  | _=>(False,.any)
theorem zall:ConOk Try.prog 45 zaex:=by
  refine ⟨Qn Try.func45 (by decide) rfl,fun args h=>?_⟩
  revert h
  dsimp only
  split
  · intro h
    obtain ⟨⟨a,rfl,rfl⟩,⟨bb,rfl,rfl⟩,⟨ys,rfl,rfl⟩,hn,hp,hs⟩:=h
    try simp only [Qo] at *
    exact ⟨statesX_pure a bb ys hn hp hs,by simp [go_sem]⟩
  · intro h
    exact h.elim
@[go_sem] def Γqa5:FuncId → Con:=ext Γqa4 45 zaex
theorem Zg:∀ g,ConOk Try.prog g (Γqa5 g):=Qm Uq zall


section
variable {P:Program} {B:Base} {n:Nat} {S:St}
theorem zalp {sz:Nat} {μ:Nat → Nat} {I:Nat → Prop} {w:World} {v:Value} {f:List Nat} (h:Rep μ I w .nil v f):Rep μ I w (.fr sz 0 []) v f:=by
  simp only [Rep] at h ⊢
  exact ⟨Nat.zero_le _,by simp,.inl ⟨trivial,h.1,h.2⟩⟩
theorem AW_boxNilQ1 {c:Code} {Q:Exit → St → Prop} (t sz:Nat) {d:D} (hT:S.T t = .box [d,.nil]) (h:AW P B n c Q ⟨upd S.T t (.box [d,.fr sz 0 []]),S.H⟩):AW P B n c Q S :=
  zahr t hT (fun μ I w vs f hr=>by
    simp only [RepL] at hr ⊢
    obtain ⟨v,vs',f1,f2,e1,e2,r1,v2,vs2,g1,g2,e3,e4,r2,r3⟩:=hr
    exact ⟨v,vs',f1,f2,e1,e2,r1,v2,vs2,g1,g2,e3,e4,zalp r2,r3⟩) (fun N hb=>by simp only [bndL,bnd] at hb ⊢;exact ⟨hb.1,trivial,trivial⟩) h
theorem AW_boxNilQ2 {c:Code} {Q:Exit → St → Prop} (t z1 z2:Nat) (hT:S.T t = .box [.nil,.nil]) (h:AW P B n c Q ⟨upd S.T t (.box [.fr z1 0 [],.fr z2 0 []]),S.H⟩):AW P B n c Q S :=
  zahr t hT (fun μ I w vs f hr=>by
    simp only [RepL] at hr ⊢
    obtain ⟨v,vs',f1,f2,e1,e2,r1,v2,vs2,g1,g2,e3,e4,r2,r3⟩:=hr
    exact ⟨v,vs',f1,f2,e1,e2,zalp r1,v2,vs2,g1,g2,e3,e4,zalp r2,r3⟩) (fun N hb=>by simp only [bndL,bnd];exact ⟨trivial,trivial,trivial⟩) h
end
theorem qR_eq (b:List (List Int)) (p:List Int) (x:Int):qR b p x = ddN (pickL p (nth b x.toNat)) (nth b x.toNat).length:=rfl
theorem nth_qN {b:List (List Int)} {p:List Int} {i k:Nat} (h:k < (fsN p i).length):nth (qN b p i) k = qR b p (nth (fsN p i) k):=by
  rw [Qv (by rw [qN_len];exact h),Qv h];simp [qN]
theorem snoc_oLq (xs:List (List Int)) (y:List Int):cat oL xs ++ [D.fr 1 y.length (cat cI y)] = cat oL (xs ++ [y]):=by rw [Xi,Xd];rfl
structure LBg (w:Nat) (gs:List D) (xs:List Int) (x:LB):Prop where
  m:LBm xs x
  g:x.H w = some gs
  ne:¬ x.lb = w
set_option maxHeartbeats 8000000 in

theorem specQg_pure (a:List Ints2) (b:List (List Int)) (p:List Int) (hm:msum mP a a.length ≤ 1048576):Pure Try.prog 9 [.st [li cP a,li cL b],li cI p] (.tup [if Vm.B (GraphOk a b ∧ Xy p ∧ p.length = a.length) = true then .st [fr 2 oP (qS a p p.length),fr 1 oL (qN b p p.length)] else .st [.nil,.nil],.bool (Vm.B (GraphOk a b ∧ Xy p ∧ p.length = a.length))]):=by
  refine Pure.of_walk Try.func9 rfl (by simp [Try.f9]) (by simp [-zd,go_sem]) fun B hK=>?_
  cases hg:Vm.B (GraphOk a b ∧ Xy p ∧ p.length = a.length)
  all_goals (repeat' (first
 | refine Qs ?_
 | refine Qc (id:=0) Zg [] (by kernel_rfl) ?_;simp [-zg,-zd,↓Qb,↓Qa,go_sem];try ((refine Xb hK 2 ?_);simp [go_sem])
 | refine Qc (id:=1) Zg [] (by kernel_rfl) ?_;simp [-zg,-zd,↓Qb,↓Qa,go_sem,hg]
 | refine Qc (id:=2) Zg [] (by kernel_rfl) ?_;simp [-zg,-zd,↓Qb,↓Qa,go_sem]
 | ((have hQ:QgOk a b p:=(by rw [B_iff] at hg;exact hg));(obtain ⟨⟨g1,g2,g3,g4,g5⟩,hP,e⟩:=id hQ);(have hfl:=fsN_le p p.length);(have hfp:=fsN_places (p:=p) e);(have hrow:=fun i hi=>hQ.row (i:=i) hi);(have hqn:=fun k h=>nth_qN (b:=b) (p:=p) (i:=p.length) (k:=k) h);(have hqs:(fsN p p.length).map (fun y=>nth a y.toNat) = qS a p p.length:=rfl);(have hql:=qN_len b p p.length);(have hsl:=Vw a p p.length);(obtain ⟨Fs,hFs⟩:∃ F,fsN p p.length = F:=⟨_,rfl⟩);(rw [hFs] at hfl hfp hqs hql hsl);(simp only [hFs] at hqn);(obtain ⟨SS,hSS⟩:∃ F,qS a p p.length = F:=⟨_,rfl⟩);(obtain ⟨NN,hNN⟩:∃ F,qN b p p.length = F:=⟨_,rfl⟩);(rw [hSS] at hqs hsl ⊢);(rw [hNN] at hql ⊢);(simp only [hNN] at hqn));refine Qc (id:=3) Zg [] (by kernel_rfl) ?_;simp [-zg,-zd,↓Qb,↓Qa,go_sem,hFs,(show p.length ≤ 1048576 by omega)];try ((refine Xb hK 6 ?_);simp [go_sem])
 | refine Qc (id:=4) Zg [] (by kernel_rfl) ?_;simp [-zg,-zd,↓Qb,↓Qa,go_sem,hfp,hm,hqs,(show Fs.length ≤ 1048576 by omega)];try ((refine AW_boxNilQ1 7 1 rfl ?_);(refine Zf 7 rfl fun w qw=>?_);(clear qw);(refine Qw (fun H1=>H1 w = some [.fr 2 SS.length (cat oP SS),.fr 1 0 (cat oL (NN.take 0))]) (by simp [upd,fr,Xj,hsl]) fun H1 w1=>?_))
 | refine Qc (id:=5) Zg [] (by kernel_rfl) ?_;simp [-zg,-zd,↓Qb,↓Qa,go_sem]
 | refine Qc (id:=6) Zg [] (by kernel_rfl) ?_;simp [-zg,-zd,↓Qb,↓Qa,go_sem]
 | refine Qc (id:=8) Zg [] (by kernel_rfl) ?_;simp [-zg,-zd,↓Qb,↓Qa,go_sem];try ((refine Zj 9 rfl fun lb cl jl ql hcl hjl=>?_);(dsimp only at ql);(have nlw:¬ lb = w:=(by rintro rfl;rw [i2] at ql;cases ql));(clear ql);(obtain ⟨f,hf⟩:∃ f,nth Fs i.1 = f:=⟨_,rfl⟩);(have hfr:=hfp i.1 c26);(rw [hf] at hfr);(obtain ⟨f0,f1⟩:=hfr);(have ft:f.toNat < a.length:=(by omega));(have ftb:f.toNat < b.length:=(by omega));(obtain ⟨hpl,hrl⟩:=hrow f.toNat (by omega));(obtain ⟨row,hrw⟩:∃ r,nth b f.toNat = r:=⟨_,rfl⟩);(rw [hrw] at hpl hrl);(obtain ⟨xs,hxs⟩:∃ x,pickL p row = x:=⟨_,rfl⟩);(have hxl:xs.length = row.length:=(by rw [← hxs,zaku]));(have hxn:∀ m,m < row.length → nth p (nth row m).toNat = nth xs m:=(fun m h=>by rw [← hxs,nth_pickL h]));(have hni:=hqn i.1 c26);(rw [hf,qR_eq,hrw,hxs] at hni);(refine Qw (fun H2=>LBg w [.fr 2 SS.length (cat oP SS),.fr 1 i.1 (cat oL (NN.take i.1))] (ddN xs 0) ⟨0,lb,cl,jl,H2⟩) ⟨⟨by simp [upd,ddN,Xj],by simp [ddN],by simp [ddN];omega⟩,by simp [upd,nlw,Ne.symm nlw,i2],nlw⟩ fun H2 w2=>?_))
 | refine Qc (id:=9) Zg [] (by kernel_rfl) ?_;simp [-zg,-zd,↓Qb,↓Qa,go_sem]
 | refine Xm (id:=10) Zg mixed [] [] (by kernel_rfl) (by kernel_rfl) (by simp [-zg,-zd,↓Qb,↓Qa,go_sem,c26,Qg c26,zsP c26,hf,f0,f1,ft,ftb,Qg ftb,zsP ftb,hrw,(show f < (b.length:Int) by omega)]) ?_;simp [-zg,-zd,↓Qb,↓Qa,go_sem,c26,Qg c26,zsP c26,hf,f0,f1,ft,ftb,Qg ftb,zsP ftb,hrw,(show f < (b.length:Int) by omega)]
 | ((obtain ⟨p0,p1⟩:=hpl q.k c40);(obtain ⟨y,hy⟩:∃ y,nth row q.k = y:=⟨_,rfl⟩);(have hxq:=hxn q.k c40);(rw [hy] at p0 p1 hxq);(have yt:y.toNat < p.length:=(by omega)));refine Xm (id:=12) Zg mixed [] [] (by kernel_rfl) (by kernel_rfl) (by simp [-zg,-zd,↓Qb,↓Qa,go_sem,c26,Qg c26,zsP c26,hf,f0,f1,ft,ftb,Qg ftb,zsP ftb,hrw,(show f < (b.length:Int) by omega),c40,Qg c40,zsP c40,hy,p0,p1,yt,Qg yt,zsP yt,hxq]) ?_;simp [-zg,-zd,↓Qb,↓Qa,go_sem,c26,Qg c26,zsP c26,hf,f0,f1,ft,ftb,Qg ftb,zsP ftb,hrw,(show f < (b.length:Int) by omega),c40,Qg c40,zsP c40,hy,p0,p1,yt,Qg yt,zsP yt,hxq]
 | ((obtain ⟨⟨m1,m2,m3⟩,m4,m5⟩:=id k2);(have hdl:=ddN_le xs q.k);(obtain ⟨z,hz⟩:∃ z,nth xs q.k = z:=⟨_,rfl⟩);(rw [hz]));refine Qc (id:=13) Zg [] (by kernel_rfl) ?_;simp [-zg,-zd,↓Qb,↓Qa,go_sem,m1,hz,Xz]
 | ((have hnew:¬ nth xs q.k ∈ ddN xs q.k:=(by rw [hz];exact c60));(have hys:=ddN_new hnew);(rw [hz] at hys);(have hyl:=congrArg List.length hys);(rw [List.length_append,List.length_singleton] at hyl));refine Qc (id:=14) Zg [] (by kernel_rfl) ?_;simp [-zg,-zd,↓Qb,↓Qa,go_sem,m1,m3,m5,Ne.symm m5,Wd,Xz,(show (ddN xs q.k).length ≤ 9223372036854775806 by omega),(show 2 * ((ddN xs q.k).length + 1) * 8 ≤ 281474976710656 by omega),(show (ddN xs q.k).length ≤ (ddN xs q.k).length + q.jl by omega)];try ((refine Zj 9 rfl fun lb2 cl2 jl2 q2 hc2 hj2=>?_);(dsimp only at q2);(have nl2:¬ lb2 = w:=(by rintro rfl;simp [upd,m4,m5,Ne.symm m5] at q2));(clear q2);(refine Qw (fun H3=>LBg w [.fr 2 SS.length (cat oP SS),.fr 1 i.1 (cat oL (NN.take i.1))] (ddN xs (q.k + 1)) ⟨q.k + 1,lb2,cl2,jl2,H3⟩) ⟨⟨by simp [upd,hys],by dsimp only;omega,by dsimp only;omega⟩,by simp [upd,nl2,Ne.symm nl2,m4,m5,Ne.symm m5],nl2⟩ fun H3 w3=>?_))
 | (try (have hin:nth xs q.k ∈ ddN xs q.k:=(by rw [hz];assumption)));refine Qc (id:=11) Zg [] (by kernel_rfl) ?_;simp [-zg,-zd,↓Qb,↓Qa,go_sem,wrapS (k:=q.k) (by omega)]
 | ((obtain ⟨kx,lx,cx,jx,Hx⟩:=q);(dsimp only at *);(obtain rfl:kx = row.length:=by omega);(obtain ⟨⟨m1,m2,m3⟩,m4,m5⟩:=id k2);(dsimp only at m1 m2 m3 m4 m5);(have hdl:=ddN_le xs row.length);(have hNt:=List.take_succ_eq_append_getElem (l:=NN) (i:=i.1) (by omega));(rw [← Qv (by omega),hni] at hNt);(refine Ji 9 (b:=lx) (all:=cat cI (ddN xs row.length) ++ List.replicate jx D.any) rfl m1 (by omega) (by simp [Qt]) (by simp [Qt];omega) ?_);(rw [Nat.mul_one,Xz]));refine Qc (id:=15) Zg [] (by kernel_rfl) ?_;simp [-zg,-zd,↓Qb,↓Qa,go_sem,m4,m5,Ne.symm m5,(show i.1 ≤ 9223372036854775806 by omega),(show 2 * (i.1 + 1) * 24 ≤ 281474976710656 by omega),(show i.1 + 1 ≤ 9223372036854775807 by omega)];try ((refine Qw (fun H9=>H9 w = some [.fr 2 SS.length (cat oP SS),.fr 1 (i.1 + 1) (cat oL (NN.take (i.1 + 1)))]) (by simp [upd,m4,m5,Ne.symm m5,hNt,← snoc_oLq]) fun H9 t9=>?_))
 | refine Qc (id:=7) Zg [] (by kernel_rfl) ?_;simp [-zg,-zd,↓Qb,↓Qa,go_sem,wrapS (k:=i.1) (by omega)]
 | ((obtain ⟨kx,Hx⟩:=i);(dsimp only at *);(obtain rfl:kx = Fs.length:=by omega);(rw [List.take_of_length_le (by omega),← hql] at i2));refine Qc (id:=16) Zg [] (by kernel_rfl) ?_;simp [-zg,-zd,↓Qb,↓Qa,go_sem,i2]
 | refine Qd (c:=.tmp 15) ?_;simp [-zg,-zd,↓Qb,↓Qa,go_sem];try first | (refine ⟨?_,?_⟩ <;> refine zA ?_) | (refine ⟨fun c15=>?_,fun c15=>?_⟩ <;> (try simp [B_iff,B_not] at c15))
 | refine Qd (c:=.tmp 26) ?_;simp [-zg,-zd,↓Qb,↓Qa,go_sem];try first | (refine ⟨?_,?_⟩ <;> refine zA ?_) | (refine ⟨fun c26=>?_,fun c26=>?_⟩ <;> (try simp [B_iff,B_not] at c26))
 | refine Qd (c:=.tmp 40) ?_;simp [-zg,-zd,↓Qb,↓Qa,go_sem];try first | (refine ⟨?_,?_⟩ <;> refine zA ?_) | (refine ⟨fun c40=>?_,fun c40=>?_⟩ <;> (try simp [B_iff,B_not] at c40))
 | refine Qd (c:=.tmp 60) ?_;simp [-zg,-zd,↓Qb,↓Qa,go_sem];try first | (refine ⟨?_,?_⟩ <;> refine zA ?_) | (refine ⟨fun c60=>?_,fun c60=>?_⟩ <;> (try simp [B_iff,B_not] at c60))
 | (refine Qe (id:=0) (Qy (ι:=Nat × Hp) (fun i:Nat × Hp=>⟨(upd (upd (upd (upd (upd (upd (upd (fun _=>.any) 1 (li cI p)) 2 (.pd [li cP a,li cL b])) 4 (.box [.nil,.nil])) 5 (.bool false)) 6 (li cI Fs)) 7 (.ptr w 0)) 8 (.int .i64 i.1)),i.2⟩) (fun i=>i.1 ≤ Fs.length ∧ i.2 w = some [.fr 2 SS.length (cat oP SS),.fr 1 i.1 (cat oL (NN.take i.1))]) (fun i=>Fs.length - i.1) ((0,H1)) ?_ ?_ ?_);exact ⟨Nat.zero_le _,w1⟩;((repeat' (first | exact Qh (by assumption) | exact Qj | refine Qk ?_ ?_ | refine Qi ?_)) <;> simp [-zg,-zd,↓Qb,↓Qa,go_sem]);rintro i ⟨i1,i2⟩)
 | (refine ⟨(i.1 + 1,H9),⟨by dsimp only;omega,t9⟩,by first | omega | (simp;done) | (simp;omega),?_⟩;((repeat' (first | exact Qh (by assumption) | exact Qj | refine Qk ?_ ?_ | refine Qi ?_)) <;> simp [-zg,-zd,↓Qb,↓Qa,go_sem]))
 | (refine Qe (id:=2) (Qy (ι:=LB) (fun q:LB=>⟨(upd (upd (upd (upd (upd (upd (upd (upd (upd (fun _=>.any) 1 (li cI p)) 2 (.pd [li cP a,li cL b])) 4 (.box [.nil,.nil])) 5 (.bool false)) 6 (li cI Fs)) 7 (.ptr w 0)) 8 (.int .i64 i.1)) 9 (.sl q.lb 1 0 (ddN xs q.k).length q.cl)) 10 (.int .i64 q.k)),q.H⟩) (fun q=>q.k ≤ row.length ∧ LBg w [.fr 2 SS.length (cat oP SS),.fr 1 i.1 (cat oL (NN.take i.1))] (ddN xs q.k) q) (fun q=>row.length - q.k) (⟨0,lb,cl,jl,H2⟩) ?_ ?_ ?_);exact ⟨Nat.zero_le _,w2⟩;((repeat' (first | exact Qh (by assumption) | exact Qj | refine Qk ?_ ?_ | refine Qi ?_)) <;> simp [-zg,-zd,↓Qb,↓Qa,go_sem,ddN]);rintro q ⟨k1,k2⟩)
 | (refine ⟨⟨q.k + 1,q.lb,q.cl,q.jl,q.H⟩,⟨by dsimp only;omega,by dsimp only;rw [ddN_in hin];exact ⟨⟨k2.m.h,k2.m.r1,k2.m.r2⟩,k2.g,k2.ne⟩⟩,by first | omega | (simp;done) | (simp;omega),?_⟩;((repeat' (first | exact Qh (by assumption) | exact Qj | refine Qk ?_ ?_ | refine Qi ?_)) <;> simp [-zg,-zd,↓Qb,↓Qa,go_sem,ddN_in hin]))
 | (refine Qe ?_)
 | (refine Qr ?_;simp [-zg,-zd,↓Qb,↓Qa,go_sem])
 | (refine Qq ?_;simp [-zg,-zd,↓Qb,↓Qa,go_sem])
 | (refine Qp ?_;simp [-zg,-zd,↓Qb,↓Qa,go_sem,Try.results9])
 | (intro hx;refine zA ?_)
 | (refine ⟨?_,?_⟩ <;> refine zA ?_)
 | (intro hx;constructor <;> intro hs)
 | (constructor <;> intro hs)
 | (refine ⟨?_,fun hs=>?_⟩;refine zA ?_)
 | (refine ⟨fun hs=>?_,?_⟩;rotate_left;refine zA ?_;rotate_left)
 | (refine ⟨⟨q.k + 1,lb2,cl2,jl2,H3⟩,⟨by dsimp only;omega,w3⟩,by dsimp only;omega,?_⟩;((repeat' (first | exact Qh (by assumption) | exact Qj | refine Qk ?_ ?_ | refine Qi ?_)) <;> simp [-zg,-zd,go_sem,hyl]);done)))
  all_goals (first
 | (simp [fr];done)
 | skip)
@[go_sem] def zaeg:Con:=.pure fun
  | [.st [.list n_a c_a,.list n_b c_b],.list n_p c_p]=>((Is cP n_a c_a) ∧ (Is cL n_b c_b) ∧ (Is cI n_p c_p) ∧ (msum mP (de cP c_a) (de cP c_a).length ≤ 1048576),.tup [if Vm.B (GraphOk (de cP c_a) (de cL c_b) ∧ Xy (de cI c_p) ∧ (de cI c_p).length = (de cP c_a).length) = true then .st [fr 2 oP (qS (de cP c_a) (de cI c_p) (de cI c_p).length),fr 1 oL (qN (de cL c_b) (de cI c_p) (de cI c_p).length)] else .st [.nil,.nil],.bool (Vm.B (GraphOk (de cP c_a) (de cL c_b) ∧ Xy (de cI c_p) ∧ (de cI c_p).length = (de cP c_a).length))])
  | _=>(False,.any)
theorem zagl:ConOk Try.prog 9 zaeg:=by
  refine ⟨Qn Try.func9 (by decide) rfl,fun args h=>?_⟩
  revert h
  dsimp only
  split
  · intro h
    obtain ⟨⟨a,rfl,rfl⟩,⟨b,rfl,rfl⟩,⟨p,rfl,rfl⟩,hm⟩:=h
    try simp only [Qo] at *
    exact ⟨specQg_pure a b p hm,by simp [go_sem]⟩
  · intro h
    exact h.elim
@[go_sem] def Γqa6:FuncId → Con:=ext Γqa5 9 zaeg
theorem Γqa6_ok:∀ g,ConOk Try.prog g (Γqa6 g):=Qm Zg zagl

end
end Go.Proofs.Ytmiimodggpjkmaa.Vm

