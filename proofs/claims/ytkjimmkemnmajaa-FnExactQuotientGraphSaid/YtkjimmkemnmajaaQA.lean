/-
  Quotients, plain; marks held in graphs; the first of each block. No conditions.
-/
import Derived.Test.YtkjimmkemnmajaaW16
import Derived.Test.YtkjimmkemnmajaaJ9
import Derived.Test.YtkjimmkemnmajaaQ1
import Derived.Test.YtkjimmkemnmajaaJ10
namespace Go.Proofs.Ytkjimmkemnmajaa.Vm
open Go
open Nat renaming sub_pos_of_lt → zsP
open List renaming getD_eq_getElem?_getD → zg,drop_one → zd
noncomputable section
set_option linter.unusedVariables false
set_option linter.unusedSimpArgs false
set_option maxRecDepth 200000

def fsN (p:List Int):Nat → List Int
  | 0=>[]
  | i + 1=>if nth p i = most p i then fsN p i ++ [(i:Int)] else fsN p i
theorem fsN_len (p:List Int):∀ i,((fsN p i).length:Int) = most p i
  | 0=>rfl
  | i + 1=>by
    have ih:=fsN_len p i
    simp only [fsN,most]
    split
    · simp;omega
    · exact ih
theorem fsN_le (p:List Int):∀ i,(fsN p i).length ≤ i
  | 0=>by simp [fsN]
  | i + 1=>by
    have ih:=fsN_le p i
    simp only [fsN]
    split
    · simp;omega
    · omega
theorem fsN_yes {p:List Int} {i:Nat} (h:nth p i = ((fsN p i).length:Int)):fsN p (i + 1) = fsN p i ++ [(i:Int)]:=by
  rw [fsN_len] at h
  rw [fsN,if_pos h]
theorem fsN_no {p:List Int} {i:Nat} (h:¬ nth p i = ((fsN p i).length:Int)):fsN p (i + 1) = fsN p i:=by
  rw [fsN_len] at h
  rw [fsN,if_neg h]
theorem fsN_mem {p:List Int}:∀ {i:Nat} {x:Int},x ∈ fsN p i → 0 ≤ x ∧ x < i
  | 0,x,h=>by simp [fsN] at h
  | i + 1,x,h=>by
    simp only [fsN] at h
    split at h
    · rcases List.mem_append.1 h with q | q
      · have:=fsN_mem q;omega
      · simp at q;omega
    · have:=fsN_mem h;omega
theorem fsN_places {p:List Int} {n:Nat} (h:p.length = n):Places n (fsN p p.length):=fun i hi=>by
  have:=fsN_mem (Zm hi)
  omega
theorem most_mono (p:List Int) {i:Nat}:∀ d,most p i ≤ most p (i + d)
  | 0=>Int.le_refl _
  | d + 1=>by
    have ih:=most_mono p (i:=i) d
    show most p i ≤ most p (i + d + 1)
    simp only [most]
    split <;> omega
theorem part_lt {p:List Int} (hP:Xd p) {i j:Nat} (hj:j < i) (hi:i ≤ p.length):nth p j < most p i:=by
  have h1:=(hP j (by omega)).2
  have h2:=most_mono p (i:=j + 1) (i - (j + 1))
  rw [show j + 1 + (i - (j + 1)) = i by omega] at h2
  have h3:nth p j < most p (j + 1):=by
    simp only [most]
    split <;> omega
  omega
theorem part_has (p:List Int):∀ i (v:Int),0 ≤ v → v < most p i → ∃ j,j < i ∧ nth p j = v
  | 0,v,h0,h1=>by simp only [most] at h1;omega
  | i + 1,v,h0,h1=>by
    simp only [most] at h1
    split at h1
    · rename_i e
      by_cases q:v = most p i
      · exact ⟨i,by omega,by rw [e,q]⟩
      · obtain ⟨j,j1,j2⟩:=part_has p i v h0 (by omega)
        exact ⟨j,by omega,j2⟩
    · obtain ⟨j,j1,j2⟩:=part_has p i v h0 h1
      exact ⟨j,by omega,j2⟩
theorem findI_leQ {α:Type} [Inhabited α] {f:α → Bool} {xs:List α} {j:Nat} (hj:j < xs.length) (h:f (nth xs j) = true):findI f xs ≤ j:=by
  unfold findI
  split
  · rename_i i hi
    rw [List.findIdx?_eq_some_iff_getElem] at hi
    obtain ⟨q1,q2,q3⟩:=hi
    rcases Nat.lt_or_ge j i with q | q
    · have:=q3 j q
      rw [Qt hj] at h
      exact absurd h (by simpa using this)
    · omega
  · omega
theorem first_iff {p:List Int} (hP:Xd p) {i:Nat} (hi:i < p.length):findI (isN (nth p i)) p = (i:Int) ↔ nth p i = ((fsN p i).length:Int):=by
  rw [fsN_len]
  constructor
  · intro h
    refine Classical.byContradiction fun c=>?_
    have h2:=hP i hi
    obtain ⟨j,j1,j2⟩:=part_has p i (nth p i) h2.1 (by omega)
    have:=findI_leQ (f:=isN (nth p i)) (xs:=p) (j:=j) (by omega) (by simp [isN,j2])
    omega
  · intro h
    refine zagj (k:=i) (fun j hj=>?_) hi (by simp [isN])
    have:=part_lt hP hj (by omega)
    simp only [isN,decide_eq_false_iff_not]
    omega
def ddN (xs:List Int):Nat → List Int
  | 0=>[]
  | m + 1=>if nth xs m ∈ ddN xs m then ddN xs m else ddN xs m ++ [nth xs m]
theorem ddN_le (xs:List Int):∀ m,(ddN xs m).length ≤ m
  | 0=>by simp [ddN]
  | m + 1=>by
    have:=ddN_le xs m
    simp only [ddN]
    split
    · omega
    · simp;omega
theorem ddN_in {xs:List Int} {m:Nat} (h:nth xs m ∈ ddN xs m):ddN xs (m + 1) = ddN xs m:=by rw [ddN,if_pos h]
theorem ddN_new {xs:List Int} {m:Nat} (h:¬ nth xs m ∈ ddN xs m):ddN xs (m + 1) = ddN xs m ++ [nth xs m]:=by rw [ddN,if_neg h]
def qS (a:List Ints2) (p:List Int) (i:Nat):List Ints2:=(fsN p i).map fun x=>nth a x.toNat
def qR (b:List (List Int)) (p:List Int) (x:Int):List Int:=ddN (pickL p (nth b x.toNat)) (nth b x.toNat).length
def qN (b:List (List Int)) (p:List Int) (i:Nat):List (List Int):=(fsN p i).map fun x=>qR b p x
theorem qS_len (a:List Ints2) (p:List Int) (i:Nat):(qS a p i).length = (fsN p i).length:=by simp [qS]
theorem qN_len (b:List (List Int)) (p:List Int) (i:Nat):(qN b p i).length = (fsN p i).length:=by simp [qN]
theorem qS_yes {a:List Ints2} {p:List Int} {i:Nat} (h:nth p i = ((fsN p i).length:Int)):qS a p (i + 1) = qS a p i ++ [nth a i]:=by simp [qS,fsN_yes h]
theorem qN_yes {b:List (List Int)} {p:List Int} {i:Nat} (h:nth p i = ((fsN p i).length:Int)):qN b p (i + 1) = qN b p i ++ [qR b p i]:=by simp [qN,fsN_yes h]
theorem qS_no {a:List Ints2} {p:List Int} {i:Nat} (h:¬ nth p i = ((fsN p i).length:Int)):qS a p (i + 1) = qS a p i:=by simp [qS,fsN_no h]
theorem qN_no {b:List (List Int)} {p:List Int} {i:Nat} (h:¬ nth p i = ((fsN p i).length:Int)):qN b p (i + 1) = qN b p i:=by simp [qN,fsN_no h]
def QgOk (a:List Ints2) (b:List (List Int)) (p:List Int):Prop:=GraphOk a b ∧ Xd p ∧ p.length = a.length
theorem QgOk.row {a:List Ints2} {b:List (List Int)} {p:List Int} (h:QgOk a b p) {i:Nat} (hi:i < p.length):Places p.length (nth b i) ∧ (nth b i).length ≤ 60:=by
  obtain ⟨⟨g1,g2,g3,g4,g5⟩,hP,e⟩:=h
  have h5:=(g5 i (by omega)).2
  have hl:=h5.len
  exact ⟨fun k hk=>by have:=h5 k hk;omega,by omega⟩

theorem heldLL_pure (xs:List (List Int)) (k:Int) (h0:0 ≤ k) (h1:k + msum mL xs xs.length ≤ 1099511627776) (hm:mkLL k xs = xs):Pure Try.prog 113 [li cL xs,.int .i64 k] (.int .i64 (k + msum mL xs xs.length)):=by
  refine Pure.of_walk Try.func113 rfl (by simp [Try.f113]) (by simp [-zd,go_sem]) fun B hK=>?_
  (repeat' (first
 | refine Qr ?_
 | (refine Xn 0 rfl fun hlen=>?_);refine Qc (id:=0) Jf [] (by kernel_rfl) ?_;simp [-zg,-zd,↓Qb,↓Qa,go_sem]
 | refine Qc (id:=1) Jf [] (by kernel_rfl) ?_;simp [-zg,-zd,↓Qb,↓Qa,go_sem]
 | refine Qc (id:=2) Jf [] (by kernel_rfl) ?_;simp [-zg,-zd,↓Qb,↓Qa,go_sem]
 | ((have hst:nth xs i = marks (k + msum mL xs i) (nth xs i).length:=(by have:=nth_mkLL (k:=k) c9;rwa [hm] at this));(have hms:=Ja (m:=mL) c9);(have hmo:=zabk (m:=mL) (xs:=xs) (show i + 1 ≤ xs.length from c9));(have hhi:heldI (k + msum mL xs i) (nth xs i) = k + msum mL xs (i + 1):=(by rw [hst,zaat,hms];simp only [mL];omega));(simp only [mL] at hms));refine Qc (id:=4) Jf [] (by kernel_rfl) ?_;simp [-zg,-zd,↓Qb,↓Qa,go_sem,c9,Qh c9,zsP c9,hhi,(show 0 ≤ k + (msum mL xs i:Int) by omega),(show k + (msum mL xs i:Int) + (nth xs i).length ≤ 1099511627776 by omega)]
 | refine Qc (id:=5) Jf [] (by kernel_rfl) ?_;simp [-zg,-zd,↓Qb,↓Qa,go_sem,(show ¬ (k + (msum mL xs (i + 1):Int) < 0) by omega)]
 | refine Qc (id:=6) Jf [] (by kernel_rfl) ?_;simp [-zg,-zd,↓Qb,↓Qa,go_sem]
 | refine Qc (id:=3) Jf [] (by kernel_rfl) ?_;simp [-zg,-zd,↓Qb,↓Qa,go_sem,wrapS (k:=i) (by omega)]
 | refine Qc (id:=7) Jf [] (by kernel_rfl) ?_;simp [-zg,-zd,↓Qb,↓Qa,go_sem]
 | refine Qe (c:=.tmp 9) ?_;simp [-zg,-zd,↓Qb,↓Qa,go_sem];try first | (refine ⟨?_,?_⟩ <;> refine zA ?_) | (refine ⟨fun c9=>?_,fun c9=>?_⟩ <;> (try simp [B_iff,B_not] at c9))
 | refine Qe (c:=.tmp 19) ?_;simp [-zg,-zd,↓Qb,↓Qa,go_sem];try first | (refine ⟨?_,?_⟩ <;> refine zA ?_) | (refine ⟨fun c19=>?_,fun c19=>?_⟩ <;> (try simp [B_iff,B_not] at c19))
 | (refine Qf (id:=0) (Xa (ι:=Nat) (fun i:Nat=>⟨(upd (upd (upd (fun _=>.any) 0 (li cL xs)) 1 (.int .i64 (k + msum mL xs i))) 5 (.int .i64 i)),fun _=>none⟩) (fun i=>i ≤ xs.length) (fun i=>xs.length - i) (0) ?_ ?_ ?_);exact Nat.zero_le _;((repeat' (first | exact Qi (by assumption) | exact Qk | refine Ql ?_ ?_ | refine Qj ?_)) <;> simp [-zg,-zd,↓Qb,↓Qa,go_sem,Jp]);rintro i hi)
 | (refine ⟨i + 1,by omega,by first | omega | (simp;done) | (simp;omega),?_⟩;((repeat' (first | exact Qi (by assumption) | exact Qk | refine Ql ?_ ?_ | refine Qj ?_)) <;> simp [-zg,-zd,↓Qb,↓Qa,go_sem,Jp]))
 | (refine Qf ?_)
 | (refine Qp ?_;simp [-zg,-zd,↓Qb,↓Qa,go_sem])
 | (refine Qo ?_;simp [-zg,-zd,↓Qb,↓Qa,go_sem])
 | (refine Qs ?_;simp [-zg,-zd,↓Qb,↓Qa,go_sem,Try.results113])
 | (intro hx;refine zA ?_)
 | (refine ⟨?_,?_⟩ <;> refine zA ?_)
 | (intro hx;constructor <;> intro hs)
 | (constructor <;> intro hs)
 | (refine ⟨?_,fun hs=>?_⟩;refine zA ?_)
 | (refine ⟨fun hs=>?_,?_⟩;rotate_left;refine zA ?_;rotate_left)))
  all_goals (first
 | (exfalso;omega)
 | (rw [msum_ge (by omega)])
 | skip)
@[go_sem] def zadm:Con:=.pure fun
  | [.list n_xs c_xs,.int .i64 k]=>((Is cL n_xs c_xs) ∧ (0 ≤ k) ∧ (k + msum mL (de cL c_xs) (de cL c_xs).length ≤ 1099511627776) ∧ (mkLL k (de cL c_xs) = (de cL c_xs)),.int .i64 (k + msum mL (de cL c_xs) (de cL c_xs).length))
  | _=>(False,.any)
theorem zahl:ConOk Try.prog 113 zadm:=by
  refine ⟨Qm Try.func113 (by decide) rfl,fun args h=>?_⟩
  revert h
  dsimp only
  split
  · intro h
    obtain ⟨⟨xs,rfl,rfl⟩,h0,h1,hm⟩:=h
    try simp only [Qu] at *
    exact ⟨heldLL_pure xs _ h0 h1 hm,by simp [go_sem]⟩
  · intro h
    exact h.elim
@[go_sem] def Γqa1:FuncId → Con:=ext Γj4 113 zadm
theorem Ze:∀ g,ConOk Try.prog g (Γqa1 g):=Qq Jf zahl

theorem heldPP_pure (xs:List Ints2) (k:Int) (h0:0 ≤ k) (h1:k + msum mP xs xs.length ≤ 1099511627776) (hm:mkPP k xs = xs):Pure Try.prog 112 [li cP xs,.int .i64 k] (.int .i64 (k + msum mP xs xs.length)):=by
  refine Pure.of_walk Try.func112 rfl (by simp [Try.f112]) (by simp [-zd,go_sem]) fun B hK=>?_
  (repeat' (first
 | refine Qr ?_
 | (refine Xn 0 rfl fun hlen=>?_);refine Qc (id:=0) Ze [] (by kernel_rfl) ?_;simp [-zg,-zd,↓Qb,↓Qa,go_sem]
 | refine Qc (id:=1) Ze [] (by kernel_rfl) ?_;simp [-zg,-zd,↓Qb,↓Qa,go_sem]
 | refine Qc (id:=2) Ze [] (by kernel_rfl) ?_;simp [-zg,-zd,↓Qb,↓Qa,go_sem]
 | ((have hst:=nth_mkPP (k:=k) c9);(rw [hm] at hst);(have hs1:(nth xs i).1 = marks (k + msum mP xs i) (nth xs i).1.length:=congrArg Prod.fst hst);(have hs2:(nth xs i).2 = marks (k + msum mP xs i + (nth xs i).1.length) (nth xs i).2.length:=congrArg Prod.snd hst);(have hms:=Ja (m:=mP) c9);(have hmo:=zabk (m:=mP) (xs:=xs) (show i + 1 ≤ xs.length from c9));(simp only [mP] at hms);(have hh1:heldI (k + msum mP xs i) (nth xs i).1 = k + msum mP xs i + (nth xs i).1.length:=(by rw [hs1,zaat,Xk]));(have hh2:heldI (k + msum mP xs i + (nth xs i).1.length) (nth xs i).2 = k + msum mP xs (i + 1):=(by rw [hs2,zaat,hms];omega));(clear hst hs1 hs2));refine Qc (id:=4) Ze [] (by kernel_rfl) ?_;simp [-zg,-zd,↓Qb,↓Qa,go_sem,c9,Qh c9,zsP c9,hh1,(show 0 ≤ k + (msum mP xs i:Int) by omega),(show k + (msum mP xs i:Int) + (nth xs i).1.length ≤ 1099511627776 by omega)]
 | refine Qc (id:=5) Ze [] (by kernel_rfl) ?_;simp [-zg,-zd,↓Qb,↓Qa,go_sem,(show ¬ (k + (msum mP xs i:Int) + (nth xs i).1.length < 0) by omega)]
 | refine Qc (id:=6) Ze [] (by kernel_rfl) ?_;simp [-zg,-zd,↓Qb,↓Qa,go_sem]
 | refine Qc (id:=7) Ze [] (by kernel_rfl) ?_;simp [-zg,-zd,↓Qb,↓Qa,go_sem,c9,Qh c9,zsP c9,hh2,(show 0 ≤ k + (msum mP xs i:Int) + (nth xs i).1.length by omega),(show k + (msum mP xs i:Int) + (nth xs i).1.length + (nth xs i).2.length ≤ 1099511627776 by omega)]
 | refine Qc (id:=8) Ze [] (by kernel_rfl) ?_;simp [-zg,-zd,↓Qb,↓Qa,go_sem,(show ¬ (k + (msum mP xs (i + 1):Int) < 0) by omega)]
 | refine Qc (id:=9) Ze [] (by kernel_rfl) ?_;simp [-zg,-zd,↓Qb,↓Qa,go_sem]
 | refine Qc (id:=3) Ze [] (by kernel_rfl) ?_;simp [-zg,-zd,↓Qb,↓Qa,go_sem,wrapS (k:=i) (by omega)]
 | refine Qc (id:=10) Ze [] (by kernel_rfl) ?_;simp [-zg,-zd,↓Qb,↓Qa,go_sem]
 | refine Qe (c:=.tmp 9) ?_;simp [-zg,-zd,↓Qb,↓Qa,go_sem];try first | (refine ⟨?_,?_⟩ <;> refine zA ?_) | (refine ⟨fun c9=>?_,fun c9=>?_⟩ <;> (try simp [B_iff,B_not] at c9))
 | refine Qe (c:=.tmp 20) ?_;simp [-zg,-zd,↓Qb,↓Qa,go_sem];try first | (refine ⟨?_,?_⟩ <;> refine zA ?_) | (refine ⟨fun c20=>?_,fun c20=>?_⟩ <;> (try simp [B_iff,B_not] at c20))
 | refine Qe (c:=.tmp 29) ?_;simp [-zg,-zd,↓Qb,↓Qa,go_sem];try first | (refine ⟨?_,?_⟩ <;> refine zA ?_) | (refine ⟨fun c29=>?_,fun c29=>?_⟩ <;> (try simp [B_iff,B_not] at c29))
 | (refine Qf (id:=0) (Xa (ι:=Nat) (fun i:Nat=>⟨(upd (upd (upd (fun _=>.any) 0 (li cP xs)) 1 (.int .i64 (k + msum mP xs i))) 5 (.int .i64 i)),fun _=>none⟩) (fun i=>i ≤ xs.length) (fun i=>xs.length - i) (0) ?_ ?_ ?_);exact Nat.zero_le _;((repeat' (first | exact Qi (by assumption) | exact Qk | refine Ql ?_ ?_ | refine Qj ?_)) <;> simp [-zg,-zd,↓Qb,↓Qa,go_sem,Jp]);rintro i hi)
 | (refine ⟨i + 1,by omega,by first | omega | (simp;done) | (simp;omega),?_⟩;((repeat' (first | exact Qi (by assumption) | exact Qk | refine Ql ?_ ?_ | refine Qj ?_)) <;> simp [-zg,-zd,↓Qb,↓Qa,go_sem,Jp]))
 | (refine Qf ?_)
 | (refine Qp ?_;simp [-zg,-zd,↓Qb,↓Qa,go_sem])
 | (refine Qo ?_;simp [-zg,-zd,↓Qb,↓Qa,go_sem])
 | (refine Qs ?_;simp [-zg,-zd,↓Qb,↓Qa,go_sem,Try.results112])
 | (intro hx;refine zA ?_)
 | (refine ⟨?_,?_⟩ <;> refine zA ?_)
 | (intro hx;constructor <;> intro hs)
 | (constructor <;> intro hs)
 | (refine ⟨?_,fun hs=>?_⟩;refine zA ?_)
 | (refine ⟨fun hs=>?_,?_⟩;rotate_left;refine zA ?_;rotate_left)))
  all_goals (first
 | (exfalso;omega)
 | (rw [msum_ge (by omega)])
 | skip)
@[go_sem] def zadl:Con:=.pure fun
  | [.list n_xs c_xs,.int .i64 k]=>((Is cP n_xs c_xs) ∧ (0 ≤ k) ∧ (k + msum mP (de cP c_xs) (de cP c_xs).length ≤ 1099511627776) ∧ (mkPP k (de cP c_xs) = (de cP c_xs)),.int .i64 (k + msum mP (de cP c_xs) (de cP c_xs).length))
  | _=>(False,.any)
theorem zahk:ConOk Try.prog 112 zadl:=by
  refine ⟨Qm Try.func112 (by decide) rfl,fun args h=>?_⟩
  revert h
  dsimp only
  split
  · intro h
    obtain ⟨⟨xs,rfl,rfl⟩,h0,h1,hm⟩:=h
    try simp only [Qu] at *
    exact ⟨heldPP_pure xs _ h0 h1 hm,by simp [go_sem]⟩
  · intro h
    exact h.elim
@[go_sem] def Γqa2:FuncId → Con:=ext Γqa1 112 zadl
theorem Jd:∀ g,ConOk Try.prog g (Γqa2 g):=Qq Ze zahk

theorem heldG_pure (a:List Ints2) (b:List (List Int)) (k:Int) (h0:0 ≤ k) (h1:k + msum mP a a.length + msum mL b b.length ≤ 1099511627776) (hm:mkPP k a = a) (hn:mkLL (k + msum mP a a.length) b = b):Pure Try.prog 36 [.st [li cP a,li cL b],.int .i64 k] (.int .i64 (k + msum mP a a.length + msum mL b b.length)):=by
  refine Pure.of_walk Try.func36 rfl (by simp [Try.f36]) (by simp [-zd,go_sem]) fun B hK=>?_
  (repeat' (first
 | refine Qr ?_
 | refine Qc (id:=0) Jd [] (by kernel_rfl) ?_;simp [-zg,-zd,↓Qb,↓Qa,go_sem];try (refine Xg hK 2 ?_;simp [go_sem])
 | refine Qc (id:=1) Jd [] (by kernel_rfl) ?_;simp [-zg,-zd,↓Qb,↓Qa,go_sem,h0,hm,(show k + (msum mP a a.length:Int) ≤ 1099511627776 by omega)]
 | refine Qc (id:=2) Jd [] (by kernel_rfl) ?_;simp [-zg,-zd,↓Qb,↓Qa,go_sem,(show ¬ (k + (msum mP a a.length:Int) < 0) by omega)]
 | refine Qc (id:=3) Jd [] (by kernel_rfl) ?_;simp [-zg,-zd,↓Qb,↓Qa,go_sem]
 | refine Qc (id:=4) Jd [] (by kernel_rfl) ?_;simp [-zg,-zd,↓Qb,↓Qa,go_sem,hn,h1,(show 0 ≤ k + (msum mP a a.length:Int) by omega)]
 | refine Qc (id:=5) Jd [] (by kernel_rfl) ?_;simp [-zg,-zd,↓Qb,↓Qa,go_sem,(show ¬ (k + (msum mP a a.length:Int) + (msum mL b b.length:Int) < 0) by omega)]
 | refine Qc (id:=6) Jd [] (by kernel_rfl) ?_;simp [-zg,-zd,↓Qb,↓Qa,go_sem]
 | refine Qc (id:=7) Jd [] (by kernel_rfl) ?_;simp [-zg,-zd,↓Qb,↓Qa,go_sem]
 | refine Qe (c:=.tmp 10) ?_;simp [-zg,-zd,↓Qb,↓Qa,go_sem];try first | (refine ⟨?_,?_⟩ <;> refine zA ?_) | (refine ⟨fun c10=>?_,fun c10=>?_⟩ <;> (try simp [B_iff,B_not] at c10))
 | refine Qe (c:=.tmp 16) ?_;simp [-zg,-zd,↓Qb,↓Qa,go_sem];try first | (refine ⟨?_,?_⟩ <;> refine zA ?_) | (refine ⟨fun c16=>?_,fun c16=>?_⟩ <;> (try simp [B_iff,B_not] at c16))
 | (refine Qf ?_)
 | (refine Qp ?_;simp [-zg,-zd,↓Qb,↓Qa,go_sem])
 | (refine Qo ?_;simp [-zg,-zd,↓Qb,↓Qa,go_sem])
 | (refine Qs ?_;simp [-zg,-zd,↓Qb,↓Qa,go_sem,Try.results36])
 | (intro hx;refine zA ?_)
 | (refine ⟨?_,?_⟩ <;> refine zA ?_)
 | (intro hx;constructor <;> intro hs)
 | (constructor <;> intro hs)
 | (refine ⟨?_,fun hs=>?_⟩;refine zA ?_)
 | (refine ⟨fun hs=>?_,?_⟩;rotate_left;refine zA ?_;rotate_left)))
  all_goals (first
 | (exfalso;omega)
 | skip)
@[go_sem] def zaef:Con:=.pure fun
  | [.st [.list n_a c_a,.list n_b c_b],.int .i64 k]=>((Is cP n_a c_a) ∧ (Is cL n_b c_b) ∧ (0 ≤ k) ∧ (k + msum mP (de cP c_a) (de cP c_a).length + msum mL (de cL c_b) (de cL c_b).length ≤ 1099511627776) ∧ (mkPP k (de cP c_a) = (de cP c_a)) ∧ (mkLL (k + msum mP (de cP c_a) (de cP c_a).length) (de cL c_b) = (de cL c_b)),.int .i64 (k + msum mP (de cP c_a) (de cP c_a).length + msum mL (de cL c_b) (de cL c_b).length))
  | _=>(False,.any)
theorem heldG_pureC_ok:ConOk Try.prog 36 zaef:=by
  refine ⟨Qm Try.func36 (by decide) rfl,fun args h=>?_⟩
  revert h
  dsimp only
  split
  · intro h
    obtain ⟨⟨a,rfl,rfl⟩,⟨b,rfl,rfl⟩,h0,h1,hm,hn⟩:=h
    try simp only [Qu] at *
    exact ⟨heldG_pure a b _ h0 h1 hm hn,by simp [go_sem]⟩
  · intro h
    exact h.elim
@[go_sem] def Γqa3:FuncId → Con:=ext Γqa2 36 zaef
theorem Jc:∀ g,ConOk Try.prog g (Γqa3 g):=Qq Jd heldG_pureC_ok

structure LB where
  k:Nat
  lb:Nat
  cl:Nat
  jl:Nat
  H:Hp
structure LBm (xs:List Int) (x:LB):Prop where
  h:x.H x.lb = some (cat cI xs ++ List.replicate x.jl .any)
  r1:xs.length ≤ x.cl
  r2:x.cl ≤ xs.length + x.jl

set_option maxHeartbeats 2000000 in
theorem firsts_pure (p:List Int) (h0:p.length ≤ 1048576):Pure Try.prog 95 [li cI p] (fr 1 cI (fsN p p.length)):=by
  refine Pure.of_walk Try.func95 rfl (by simp [Try.f95]) (by simp [-zd,go_sem]) fun B hK=>?_
  (repeat' (first
 | refine Qr ?_
 | refine Qc (id:=0) Jc [] (by kernel_rfl) ?_;simp [-zg,-zd,↓Qb,↓Qa,go_sem]
 | refine Qc (id:=1) Jc [] (by kernel_rfl) ?_;simp [-zg,-zd,↓Qb,↓Qa,go_sem];try ((refine Zi 3 rfl fun lb cl jl q1 hcl hjl=>?_);(clear q1);(refine Xo (fun H1=>LBm (fsN p 0) ⟨0,lb,cl,jl,H1⟩) ⟨by simp [upd,fsN,zagr],by simp [fsN],by simp [fsN];omega⟩ fun H1 w1=>?_))
 | refine Qc (id:=2) Jc [] (by kernel_rfl) ?_;simp [-zg,-zd,↓Qb,↓Qa,go_sem]
 | refine Qc (id:=3) Jc [] (by kernel_rfl) ?_;simp [-zg,-zd,↓Qb,↓Qa,go_sem]
 | refine Qc (id:=5) Jc [] (by kernel_rfl) ?_;simp [-zg,-zd,↓Qb,↓Qa,go_sem,c9,Qh c9,zsP c9]
 | ((obtain ⟨m1,m2,m3⟩:=g2);(have hle:=fsN_le p q.k);(have hys:=fsN_yes c18);(have hyl:=congrArg List.length hys);(rw [List.length_append,List.length_singleton] at hyl));refine Qc (id:=6) Jc [] (by kernel_rfl) ?_;simp [-zg,-zd,↓Qb,↓Qa,go_sem,m1,m2,m3,snoc_cI,Xc,(show (fsN p q.k).length ≤ 9223372036854775806 by omega),(show 2 * ((fsN p q.k).length + 1) * 8 ≤ 281474976710656 by omega),(show (fsN p q.k).length ≤ (fsN p q.k).length + q.jl by omega)];try ((refine Zi 3 rfl fun lb2 cl2 jl2 q2 hc2 hj2=>?_);(clear q2);(refine Xo (fun H2=>LBm (fsN p (q.k + 1)) ⟨q.k + 1,lb2,cl2,jl2,H2⟩) ⟨by simp [upd,hys],by dsimp only;omega,by dsimp only;omega⟩ fun H2 w2=>?_))
 | refine Qc (id:=4) Jc [] (by kernel_rfl) ?_;simp [-zg,-zd,↓Qb,↓Qa,go_sem,wrapS (k:=q.k) (by omega)]
 | ((obtain ⟨kx,lx,cx,jx,Hx⟩:=q);(dsimp only at *);(obtain rfl:kx = p.length:=by omega);(obtain ⟨m1,m2,m3⟩:=g2);(dsimp only at m1 m2 m3);(refine Jr 3 (b:=lx) (all:=cat cI (fsN p p.length) ++ List.replicate jx D.any) rfl m1 (by omega) (by simp [Qw]) (by simp [Qw];omega) ?_));refine Qc (id:=7) Jc [] (by kernel_rfl) ?_;simp [-zg,-zd,↓Qb,↓Qa,go_sem,Xc]
 | refine Qe (c:=.tmp 9) ?_;simp [-zg,-zd,↓Qb,↓Qa,go_sem];try first | (refine ⟨?_,?_⟩ <;> refine zA ?_) | (refine ⟨fun c9=>?_,fun c9=>?_⟩ <;> (try simp [B_iff,B_not] at c9))
 | refine Qe (c:=.tmp 18) ?_;simp [-zg,-zd,↓Qb,↓Qa,go_sem];try first | (refine ⟨?_,?_⟩ <;> refine zA ?_) | (refine ⟨fun c18=>?_,fun c18=>?_⟩ <;> (try simp [B_iff,B_not] at c18))
 | (refine Qf (id:=0) (Xa (ι:=LB) (fun q:LB=>⟨(upd (upd (upd (fun _=>.any) 0 (li cI p)) 3 (.sl q.lb 1 0 (fsN p q.k).length q.cl)) 4 (.int .i64 q.k)),q.H⟩) (fun q=>q.k ≤ p.length ∧ LBm (fsN p q.k) q) (fun q=>p.length - q.k) (⟨0,lb,cl,jl,H1⟩) ?_ ?_ ?_);exact ⟨Nat.zero_le _,w1⟩;((repeat' (first | exact Qi (by assumption) | exact Qk | refine Ql ?_ ?_ | refine Qj ?_)) <;> simp [-zg,-zd,↓Qb,↓Qa,go_sem,fsN]);rintro q ⟨g1,g2⟩)
 | (refine ⟨⟨q.k + 1,q.lb,q.cl,q.jl,q.H⟩,⟨by dsimp only;omega,by dsimp only;rw [fsN_no c18];exact ⟨g2.h,g2.r1,g2.r2⟩⟩,by first | omega | (simp;done) | (simp;omega),?_⟩;((repeat' (first | exact Qi (by assumption) | exact Qk | refine Ql ?_ ?_ | refine Qj ?_)) <;> simp [-zg,-zd,↓Qb,↓Qa,go_sem,fsN_no c18]))
 | (refine Qf ?_)
 | (refine Qp ?_;simp [-zg,-zd,↓Qb,↓Qa,go_sem])
 | (refine Qo ?_;simp [-zg,-zd,↓Qb,↓Qa,go_sem])
 | (refine Qs ?_;simp [-zg,-zd,↓Qb,↓Qa,go_sem,Try.results95])
 | (intro hx;refine zA ?_)
 | (refine ⟨?_,?_⟩ <;> refine zA ?_)
 | (intro hx;constructor <;> intro hs)
 | (constructor <;> intro hs)
 | (refine ⟨?_,fun hs=>?_⟩;refine zA ?_)
 | (refine ⟨fun hs=>?_,?_⟩;rotate_left;refine zA ?_;rotate_left)
 | (refine ⟨⟨q.k + 1,lb2,cl2,jl2,H2⟩,⟨by dsimp only;omega,w2⟩,by dsimp only;omega,?_⟩;((repeat' (first | exact Qi (by assumption) | exact Qk | refine Ql ?_ ?_ | refine Qj ?_)) <;> simp [-zg,-zd,go_sem,hyl]);done)))
@[go_sem] def zadp:Con:=.pure fun
  | [.list n_p c_p]=>((Is cI n_p c_p) ∧ ((de cI c_p).length ≤ 1048576),fr 1 cI (fsN (de cI c_p) (de cI c_p).length))
  | _=>(False,.any)
theorem zahm:ConOk Try.prog 95 zadp:=by
  refine ⟨Qm Try.func95 (by decide) rfl,fun args h=>?_⟩
  revert h
  dsimp only
  split
  · intro h
    obtain ⟨⟨p,rfl,rfl⟩,h0⟩:=h
    try simp only [Qu] at *
    exact ⟨firsts_pure p h0,by simp [go_sem]⟩
  · intro h
    exact h.elim
@[go_sem] def Γqa4:FuncId → Con:=ext Γqa3 95 zadp
theorem Jb:∀ g,ConOk Try.prog g (Γqa4 g):=Qq Jc zahm

set_option maxHeartbeats 2000000 in
theorem statesX_pure (a:List Ints2) (bb:List (List Int)) (ys:List Int) (hn:ys.length ≤ 1048576) (hp:Places a.length ys) (hs:msum mP a a.length ≤ 1048576):Pure Try.prog 96 [.st [li cP a,li cL bb],li cI ys] (fr 2 oP (ys.map fun y=>nth a y.toNat)):=by
  refine Pure.of_walk Try.func96 rfl (by simp [Try.f96]) (by simp [-zd,go_sem]) fun B hK=>?_
  obtain ⟨zs,hz⟩:∃ zs,(ys.map fun y=>nth a y.toNat) = zs:=⟨_,rfl⟩;have hzl:zs.length = ys.length:=(by rw [← hz];simp);have hzn:∀ k,k < ys.length → nth zs k = nth a (nth ys k).toNat:=(fun k hk=>by rw [← hz,Qt (by simpa using hk),Qt hk];simp);rw [hz]
  all_goals (repeat' (first
 | refine Qr ?_
 | refine Qc (id:=0) Jb [] (by kernel_rfl) ?_;simp [-zg,-zd,↓Qb,↓Qa,go_sem];try (refine Xg hK 2 ?_;simp [go_sem])
 | refine Qc (id:=1) Jb [] (by kernel_rfl) ?_;simp [-zg,-zd,↓Qb,↓Qa,go_sem]
 | refine Qc (id:=2) Jb [] (by kernel_rfl) ?_;simp [-zg,-zd,↓Qb,↓Qa,go_sem]
 | refine Qc (id:=3) Jb [] (by kernel_rfl) ?_;simp [-zg,-zd,↓Qb,↓Qa,go_sem]
 | ((obtain ⟨p1,p2,p3⟩:=hp.at c12);(have hsi:=msum_at (m:=mP) p3);(simp only [mP] at hsi);(have hsn:cat oP (zs.take k) ++ [D.fr 1 (nth a (nth ys k).toNat).1.length (cat cI (nth a (nth ys k).toNat).1),D.fr 1 (nth a (nth ys k).toNat).2.length (cat cI (nth a (nth ys k).toNat).2)] = cat oP (zs.take (k + 1)):=(by rw [List.take_succ_eq_append_getElem (by omega),← Qt (by omega),hzn k c12,Jo,Zx];rfl)));refine Xw (id:=5) Jb mixed [] [] (by kernel_rfl) (by kernel_rfl) (by simp [-zg,-zd,↓Qb,↓Qa,go_sem,c12,Qh c12,zsP c12,p1,p2,p3,Qh p3,zsP p3]) ?_;simp [-zg,-zd,↓Qb,↓Qa,go_sem,c12,Qh c12,zsP c12,p1,p2,p3,Qh p3,zsP p3];try (refine Xg hK 7 ?_;simp [go_sem])
 | refine Xw (id:=6) Jb mixed [] [7] (by kernel_rfl) (by kernel_rfl) (by simp [-zg,-zd,↓Qb,↓Qa,go_sem,(show (nth a (nth ys k).toNat).1.length ≤ 9223372036854775807 by omega),(show 2 * (nth a (nth ys k).toNat).1.length * 8 ≤ 281474976710656 by omega),(show (nth a (nth ys k).toNat).2.length ≤ 9223372036854775807 by omega),(show 2 * (nth a (nth ys k).toNat).2.length * 8 ≤ 281474976710656 by omega),(show k ≤ 9223372036854775806 by omega),(show 2 * (k + 1) * 48 ≤ 281474976710656 by omega),(show k + 1 ≤ 9223372036854775807 by omega),(show makeD [D.nil,D.nil] 2 = [D.nil,D.nil] from rfl),hsn]) ?_;simp [-zg,-zd,↓Qb,↓Qa,go_sem,(show (nth a (nth ys k).toNat).1.length ≤ 9223372036854775807 by omega),(show 2 * (nth a (nth ys k).toNat).1.length * 8 ≤ 281474976710656 by omega),(show (nth a (nth ys k).toNat).2.length ≤ 9223372036854775807 by omega),(show 2 * (nth a (nth ys k).toNat).2.length * 8 ≤ 281474976710656 by omega),(show k ≤ 9223372036854775806 by omega),(show 2 * (k + 1) * 48 ≤ 281474976710656 by omega),(show k + 1 ≤ 9223372036854775807 by omega),(show makeD [D.nil,D.nil] 2 = [D.nil,D.nil] from rfl),hsn]
 | refine Qc (id:=4) Jb [] (by kernel_rfl) ?_;simp [-zg,-zd,↓Qb,↓Qa,go_sem,wrapS (k:=k) (by omega)]
 | ((obtain rfl:k = ys.length:=by omega));refine Qc (id:=7) Jb [] (by kernel_rfl) ?_;simp [-zg,-zd,↓Qb,↓Qa,go_sem,(show zs.take ys.length = zs from List.take_of_length_le (by omega)),hzl]
 | refine Qe (c:=.tmp 12) ?_;simp [-zg,-zd,↓Qb,↓Qa,go_sem];try first | (refine ⟨?_,?_⟩ <;> refine zA ?_) | (refine ⟨fun c12=>?_,fun c12=>?_⟩ <;> (try simp [B_iff,B_not] at c12))
 | (refine Qf (id:=0) (Xa (ι:=Nat) (fun k:Nat=>⟨(upd (upd (upd (upd (fun _=>.any) 1 (li cI ys)) 2 (.pd [li cP a,li cL bb])) 5 (.fr 2 k (cat oP (zs.take k)))) 6 (.int .i64 k)),fun _=>none⟩) (fun k=>k ≤ ys.length) (fun k=>ys.length - k) (0) ?_ ?_ ?_);exact Nat.zero_le _;((repeat' (first | exact Qi (by assumption) | exact Qk | refine Ql ?_ ?_ | refine Qj ?_)) <;> simp [-zg,-zd,↓Qb,↓Qa,go_sem,cat]);rintro k hk)
 | (refine ⟨k + 1,by omega,by first | omega | (simp;done) | (simp;omega),?_⟩;((repeat' (first | exact Qi (by assumption) | exact Qk | refine Ql ?_ ?_ | refine Qj ?_)) <;> simp [-zg,-zd,↓Qb,↓Qa,go_sem,cat]))
 | (refine Qf ?_)
 | (refine Qp ?_;simp [-zg,-zd,↓Qb,↓Qa,go_sem])
 | (refine Qo ?_;simp [-zg,-zd,↓Qb,↓Qa,go_sem])
 | (refine Qs ?_;simp [-zg,-zd,↓Qb,↓Qa,go_sem,Try.results96])
 | (intro hx;refine zA ?_)
 | (refine ⟨?_,?_⟩ <;> refine zA ?_)
 | (intro hx;constructor <;> intro hs)
 | (constructor <;> intro hs)
 | (refine ⟨?_,fun hs=>?_⟩;refine zA ?_)
 | (refine ⟨fun hs=>?_,?_⟩;rotate_left;refine zA ?_;rotate_left)))
@[go_sem] def zace:Con:=.pure fun
  | [.st [.list n_a c_a,.list n_bb c_bb],.list n_ys c_ys]=>((Is cP n_a c_a) ∧ (Is cL n_bb c_bb) ∧ (Is cI n_ys c_ys) ∧ ((de cI c_ys).length ≤ 1048576) ∧ (Places (de cP c_a).length (de cI c_ys)) ∧ (msum mP (de cP c_a) (de cP c_a).length ≤ 1048576),fr 2 oP ((de cI c_ys).map fun y=>nth (de cP c_a) y.toNat))
  | _=>(False,.any)
theorem zafn:ConOk Try.prog 96 zace:=by
  refine ⟨Qm Try.func96 (by decide) rfl,fun args h=>?_⟩
  revert h
  dsimp only
  split
  · intro h
    obtain ⟨⟨a,rfl,rfl⟩,⟨bb,rfl,rfl⟩,⟨ys,rfl,rfl⟩,hn,hp,hs⟩:=h
    try simp only [Qu] at *
    exact ⟨statesX_pure a bb ys hn hp hs,by simp [go_sem]⟩
  · intro h
    exact h.elim
@[go_sem] def Γqa5:FuncId → Con:=ext Γqa4 96 zace
theorem Xp:∀ g,ConOk Try.prog g (Γqa5 g):=Qq Jb zafn

end
end Go.Proofs.Ytkjimmkemnmajaa.Vm

