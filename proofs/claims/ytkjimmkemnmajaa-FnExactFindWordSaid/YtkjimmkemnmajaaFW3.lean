import Derived.Test.YtkjimmkemnmajaaJ9
import Derived.Test.YtkjimmkemnmajaaN9
/-
  FindWord, plain: the values along a way; from where a state is found. No conditions. (Ground for FnExactFindWord.)
-/
namespace Go.Proofs.Ytkjimmkemnmajaa.Vm
open Go
open Nat renaming sub_pos_of_lt → zsP
open List renaming getD_eq_getElem?_getD → zg,drop_one → zd,replicate → zrP
open Ne renaming symm → zS
noncomputable section
set_option linter.unusedVariables false
set_option linter.unusedSimpArgs false
set_option maxRecDepth 200000

def isE (f t:Int) (e:Tr4):Bool:=decide (e.1 = f) && decide (e.2.2.2 = t)
def Jd (es:List Tr4) (f t:Int):Int:=findI (isE f t) es
def valE (es:List Tr4) (f t:Int):Int:=(nth es (Jd es f t).toNat).2.2.1
def vals (es:List Tr4) (p:List Int):List Int:=(List.range (p.length - 1)).map fun i:Nat=>valE es (nth p i) (nth p (i + 1))
theorem Zo (es:List Tr4) (p:List Int):(vals es p).length = p.length - 1:=by simp [vals]
theorem nth_vals {es:List Tr4} {p:List Int} {i:Nat} (h:i + 1 < p.length):nth (vals es p) i = valE es (nth p i) (nth p (i + 1)):=by
  rw [Qm (by rw [Zo];omega)];simp [vals]
theorem vals_snoc (es:List Tr4) {p:List Int} (h:0 < p.length) (y:Int):vals es (p ++ [y]) = vals es p ++ [valE es (nth p (p.length - 1)) y]:=by
  apply List.ext_getElem (by simp [vals];omega)
  intro i h1 h2
  rw [Zo] at h1
  simp only [List.length_append,List.length_singleton] at h1
  rw [← Qm (by rw [Zo];simpa using h1),nth_vals (by simp;omega)]
  by_cases e:i = p.length - 1
  · subst e
    rw [List.getElem_append_right (by rw [Zo];exact Nat.le_refl _)]
    have e2:p.length - 1 + 1 = p.length:=by omega
    rw [Xd (by omega),e2,Zx]
    simp
  · rw [List.getElem_append_left (by rw [Zo];omega),← Qm (by rw [Zo];omega),nth_vals (by omega),Xd (by omega),Xd (by omega)]
theorem nxE_mem {n:Nat} {es:List Tr4} (hr:InRng n es):∀ k,k ≤ es.length → ∀ i,i < n → ∀ y,(y ∈ nth (nxE n es k) i ↔ ∃ j,j < k ∧ (nth es j).1 = (i:Int) ∧ (nth es j).2.2.2 = y)
  | 0,_,i,hi,y=>by
    rw [zagx,Qm (by simpa using hi)]
    simp
  | k + 1,h,i,hi,y=>by
    have ih:=nxE_mem hr k (by omega) i hi y
    have hk:=(hr k (by omega)).1
    rw [zadi (by omega),mem_addE (by rw [Xr n es k (by omega)];omega),ih]
    constructor
    · rintro (⟨j,j1,j2,j3⟩ | ⟨q1,q2⟩)
      · exact ⟨j,by omega,j2,j3⟩
      · exact ⟨k,by omega,by omega,q2.symm⟩
    · rintro ⟨j,j1,j2,j3⟩
      by_cases e:j = k
      · subst e;exact .inr ⟨by omega,j3.symm⟩
      · exact .inl ⟨j,by omega,j2,j3⟩
theorem firstE_ok {n:Nat} {es:List Tr4} (hr:InRng n es) {f t:Int} (hf:Nd (nxE n es es.length) f) (h:t ∈ nth (nxE n es es.length) f.toNat):0 ≤ Jd es f t ∧ (Jd es f t).toNat < es.length ∧ (nth es (Jd es f t).toNat).1 = f ∧ (nth es (Jd es f t).toNat).2.2.2 = t:=by
  have hn:=Xr n es es.length (Nat.le_refl _)
  have h1:=hf.1
  have h2:=hf.2
  obtain ⟨j,j1,j2,j3⟩:=(nxE_mem hr es.length (Nat.le_refl _) f.toNat (by omega) t).1 h
  have hf0:0 ≤ findI (isE f t) es:=by
    rw [zahk]
    exact ⟨j,j1,by simp [isE,j3];omega⟩
  unfold Jd
  unfold findI at hf0 ⊢
  split at hf0
  · rename_i i hi
    rw [List.findIdx?_eq_some_iff_getElem] at hi
    obtain ⟨q1,q2,_⟩:=hi
    simp only [Int.toNat_natCast]
    rw [Qm q1]
    simp [isE] at q2
    exact ⟨by omega,q1,q2.1,q2.2⟩
  · omega
def viaP (es:List Tr4) (P:List Int):List Int:=(List.range P.length).map fun x:Nat=>if nth P x < 0 then -1 else Jd es (nth P x) (x:Int)
theorem Ja (es:List Tr4) (P:List Int):(viaP es P).length = P.length:=by simp [viaP]
theorem nth_viaP {es:List Tr4} {P:List Int} {x:Nat} (h:x < P.length):nth (viaP es P) x = if nth P x < 0 then -1 else Jd es (nth P x) (x:Int):=by
  rw [Qm (by rw [Ja];exact h)];simp [viaP]
theorem viaP_set {es:List Tr4} {P:List Int} {x:Nat} (h:x < P.length) {u:Int} (hu:0 ≤ u):(viaP es P).set x (Jd es u (x:Int)) = viaP es (P.set x u):=by
  apply List.ext_getElem (by simp [viaP])
  intro i h1 h2
  rw [List.length_set,Ja] at h1
  rw [← Qm (by rw [List.length_set,Ja];exact h1),← Qm (by rw [Ja,List.length_set];exact h1),nth_viaP (by rw [List.length_set];exact h1)]
  by_cases e:x = i
  · subst e
    rw [Zm (by rw [Ja];exact h),Zm h,if_neg (by omega)]
  · rw [Za e,Za e,nth_viaP h1]
theorem up_cons {P:List Int} {f:Nat} {x:Int} (h:0 ≤ x):up P (f + 1) x = x :: up P f (nth P x.toNat):=by rw [up,if_neg (by omega)]
theorem vals_up (es:List Tr4) {P:List Int} {f:Nat} {x:Int} (h0:0 ≤ x) (hp:0 ≤ nth P x.toNat):vals es (up P (f + 2) x).reverse = vals es (up P (f + 1) (nth P x.toNat)).reverse ++ [valE es (nth P x.toNat) x]:=by
  rw [show f + 2 = (f + 1) + 1 from rfl,up_cons h0,List.reverse_cons]
  have e:=up_cons (P:=P) (f:=f) hp
  have hl:0 < (up P (f + 1) (nth P x.toNat)).reverse.length:=by rw [e];simp
  rw [vals_snoc es hl]
  congr 3
  rw [e,List.reverse_cons,List.length_append,List.length_singleton,Nat.add_sub_cancel,Zx]
theorem vals_root (es:List Tr4) {P:List Int} {f:Nat} {x:Int} (h0:0 ≤ x) (hp:nth P x.toNat < 0):vals es (up P (f + 1) x).reverse = []:=by
  rw [up_cons h0]
  cases f with
  | zero=>rfl
  | succ f=>rw [up,if_pos hp];rfl
theorem meets_snoc (v:Int) (l:List Int) (x:Int) (s:PQ):meets v (l ++ [x]) s = meet1 v (meets v l s) x:=by unfold meets;rw [List.foldl_append];rfl
theorem meets_nx {n:Nat} {es:List Tr4} (hr:InRng n es) {k:Nat} (h:k < es.length) {u:Int} (hu:0 ≤ u) (s:PQ):meets u (nth (nxE n es (k + 1)) u.toNat) s = if (nth es k).1 = u then meet1 u (meets u (nth (nxE n es k) u.toNat) s) (nth es k).2.2.2 else meets u (nth (nxE n es k) u.toNat) s:=by
  have hk:=(hr k h).1
  rw [zadi h,zagz (by rw [Xr n es k (by omega)];omega)]
  by_cases e:(nth es k).1 = u
  · rw [if_pos (by rw [e]),if_pos e,meets_snoc]
  · rw [if_neg (fun q=>e (by omega)),if_neg e]
theorem meet1_len (v:Int) (s:PQ) (x:Int):(meet1 v s x).1.length = s.1.length:=by unfold meet1;split <;> simp
theorem meet1_keep {v:Int} (hv:¬ v = -2) (s:PQ) (x:Int) {y:Nat} (h:¬ nth s.1 y = -2):¬ nth (meet1 v s x).1 y = -2:=by
  unfold meet1
  split
  · by_cases e:x.toNat = y
    · subst e
      rename_i q;exact absurd q h
    · show ¬ nth (s.1.set x.toNat v) y = -2
      rw [Za e];exact h
  · exact h
theorem meets_keep {v:Int} (hv:¬ v = -2) (l:List Int):∀ (s:PQ) {y:Nat},¬ nth s.1 y = -2 → ¬ nth (meets v l s).1 y = -2:=by
  induction l with
  | nil=>intro s y h;exact h
  | cons x l ih=>intro s y h;exact ih (meet1 v s x) (meet1_keep hv s x h)
theorem meet1_here {v:Int} (hv:¬ v = -2) (s:PQ) (x:Int) (hx:x.toNat < s.1.length):¬ nth (meet1 v s x).1 x.toNat = -2:=by
  unfold meet1
  split
  · show ¬ nth (s.1.set x.toNat v) x.toNat = -2
    rw [Zm hx];exact hv
  · assumption
theorem meets_met {v:Int} (hv:¬ v = -2) {l:List Int}:∀ (s:PQ),(∀ y,y ∈ l → y.toNat < s.1.length) → ∀ y,y ∈ l → ¬ nth (meets v l s).1 y.toNat = -2:=by
  induction l with
  | nil=>intro s _ y h;cases h
  | cons x l ih =>
    intro s hs y hy
    rcases List.mem_cons.1 hy with rfl | q
    · exact meets_keep hv l (meet1 v s y) (meet1_here hv s y (hs y (by simp)))
    · exact ih (meet1 v s x) (fun z hz=>by rw [meet1_len];exact hs z (List.mem_cons_of_mem _ hz)) y q
theorem firstE_at {n:Nat} {es:List Tr4} (hr:InRng n es) {k:Nat} (h:k < es.length) {u:Int} (hu:Nd (nxE n es es.length) u) {s:PQ} (hl:s.1.length = n) (h1:(nth es k).1 = u) (h2:nth (meets u (nth (nxE n es k) u.toNat) s).1 (nth es k).2.2.2.toNat = -2):Jd es u (nth es k).2.2.2 = (k:Int):=by
  have hn:=Xr n es es.length (Nat.le_refl _)
  have hu0:=hu.1
  have hu1:=hu.2
  refine zadr (k:=k) (fun j hj=>?_) h (by simp [isE,h1])
  simp only [isE,Bool.and_eq_false_iff,decide_eq_false_iff_not]
  refine Classical.byContradiction fun c=>?_
  have c1:(nth es j).1 = u ∧ (nth es j).2.2.2 = (nth es k).2.2.2:=by
    constructor
    · exact Classical.byContradiction fun q=>c (.inl q)
    · exact Classical.byContradiction fun q=>c (.inr q)
  have hm:(nth es k).2.2.2 ∈ nth (nxE n es k) u.toNat:=(nxE_mem hr k (by omega) u.toNat (by omega) _).2 ⟨j,hj,by rw [c1.1];omega,c1.2⟩
  refine meets_met (v:=u) (by omega) s (fun y hy=>?_) _ hm h2
  have:=nxE_rng hr k (by omega) u.toNat y hy
  omega
theorem nxE_pre {n:Nat} {es:List Tr4} (hr:InRng n es) (i:Nat):∀ d k,k + d = es.length → nth (nxE n es k) i <+: nth (nxE n es es.length) i
  | 0,k,h=>by
    have:k = es.length:=by omega
    subst this;exact List.prefix_rfl
  | d + 1,k,h=>by
    have ih:=nxE_pre hr i d (k + 1) (by omega)
    have hk:=(hr k (by omega)).1
    refine List.IsPrefix.trans ?_ ih
    rw [zadi (by omega),zagz (by rw [Xr n es k (by omega)];omega)]
    split
    · exact List.prefix_append _ _
    · exact List.prefix_rfl
theorem nxE_take {n:Nat} {es:List Tr4} (hr:InRng n es) (i:Nat) {k:Nat} (h:k ≤ es.length):nth (nxE n es k) i = (nth (nxE n es es.length) i).take (nth (nxE n es k) i).length ∧ (nth (nxE n es k) i).length ≤ (nth (nxE n es es.length) i).length:=by
  have hp:=nxE_pre hr i (es.length - k) k (by omega)
  exact ⟨List.prefix_iff_eq_take.1 hp,hp.length_le⟩

def Dn (c:List Tr4) (via:List Int):Nat → Int → Prop
  | 0,x=>(0 ≤ x ∧ x < via.length) ∧ nth via x.toNat < 0
  | d + 1,x=>(0 ≤ x ∧ x < via.length) ∧ (0 ≤ nth via x.toNat → nth via x.toNat < c.length ∧ Dn c via d (nth c (nth via x.toNat).toNat).1)
def bk (c:List Tr4) (via:List Int):Nat → Int → List Int
  | 0,_=>[]
  | d + 1,x=>if nth via x.toNat < 0 then [] else bk c via d (nth c (nth via x.toNat).toNat).1 ++ [(nth c (nth via x.toNat).toNat).2.2.1]
theorem Dn.rng {c:List Tr4} {via:List Int} {d:Nat} {x:Int} (h:Dn c via d x):0 ≤ x ∧ x < via.length:=by
  cases d <;> exact h.1
theorem bk_len (c:List Tr4) (via:List Int):∀ d x,(bk c via d x).length ≤ d
  | 0,_=>by simp [bk]
  | d + 1,x=>by
    rw [bk]
    split
    · simp
    · have:=bk_len c via d (nth c (nth via x.toNat).toNat).1
      simp;omega
theorem Dn.step {c:List Tr4} {via:List Int} {d:Nat} {x:Int} (h:Dn c via d x) (h0:0 ≤ nth via x.toNat):∃ e,d = e + 1 ∧ nth via x.toNat < c.length ∧ Dn c via e (nth c (nth via x.toNat).toNat).1 ∧ bk c via d x = bk c via e (nth c (nth via x.toNat).toNat).1 ++ [(nth c (nth via x.toNat).toNat).2.2.1]:=by
  cases d with
  | zero=>have:=h.2;omega
  | succ d=>exact ⟨d,rfl,(h.2 h0).1,(h.2 h0).2,by rw [bk,if_neg (by omega)]⟩
theorem bk_root {c:List Tr4} {via:List Int} {d:Nat} {x:Int} (h0:nth via x.toNat < 0):bk c via d x = []:=by
  cases d with
  | zero=>rfl
  | succ d=>rw [bk,if_pos h0]
structure LT where
  d:Nat
  x:Int
  o:List Int
set_option maxHeartbeats 1000000 in

theorem l7Letters_pure (a:List Int) (b:List Bool) (c:List Tr4) (via:List Int) (x:Int) (hn:via.length ≤ 1048576) (hD:Dn c via via.length x):Pure Try.prog 72 [.st [li cI a,li cB b,li cT c],li cI via,.int .i64 x] (fr 1 cI (bk c via via.length x)):=by
  refine Pure.of_walk Try.func72 rfl (by simp [Try.f72]) (by simp [-zd,go_sem]) fun B hK=>?_
  (repeat' (first
 | refine Qq ?_
 | refine Qc (id:=0) Vi [] (by kernel_rfl) ?_;simp [-zg,-zd,↓Qb,↓Qa,go_sem];try (refine Xa hK 3 ?_;simp [go_sem])
 | refine Qc (id:=1) Vi [] (by kernel_rfl) ?_;simp [-zg,-zd,↓Qb,↓Qa,go_sem]
 | ((obtain ⟨x0,x1⟩:=g1.rng);(have xt:y.x.toNat < via.length:=(by omega)));refine Qc (id:=2) Vi [] (by kernel_rfl) ?_;simp [-zg,-zd,↓Qb,↓Qa,go_sem,x0,x1,xt,Qk xt,zsP xt]
 | ((obtain ⟨e,s1,s2,s3,s4⟩:=g1.step c14);(have hk0:(nth via y.x.toNat).toNat < c.length:=(by omega));(have hlen:=congrArg List.length g2);(have hbl:=bk_len c via via.length x);(rw [List.length_append] at hlen);(have hol:y.o.length ≤ 1048576:=(by omega));(obtain ⟨kk,hkk⟩:∃ kk,nth via y.x.toNat = kk:=⟨_,rfl⟩);(rw [hkk] at s2 s3 s4 hk0);(have kk0:0 ≤ kk:=(by omega));(obtain ⟨u,hu⟩:∃ u,(nth c kk.toNat).1 = u:=⟨_,rfl⟩);(obtain ⟨v,hv⟩:∃ v,(nth c kk.toNat).2.2.1 = v:=⟨_,rfl⟩);(rw [hu,hv] at s4);(rw [hu] at s3));refine Xp (id:=3) Vi mixed [] [] (by kernel_rfl) (by kernel_rfl) (by simp [-zg,-zd,↓Qb,↓Qa,go_sem,x0,x1,xt,Qk xt,zsP xt,hkk,kk0,s2,hk0,Qk hk0,zsP hk0,hu,hv]) ?_;simp [-zg,-zd,↓Qb,↓Qa,go_sem,x0,x1,xt,Qk xt,zsP xt,hkk,kk0,s2,hk0,Qk hk0,zsP hk0,hu,hv];try ((refine Xa hK 8 ?_);(simp [go_sem]))
 | refine Qc (id:=4) Vi [] (by kernel_rfl) ?_;simp [-zg,-zd,↓Qb,↓Qa,go_sem,hu,hv,(show 1 + y.o.length ≤ 9223372036854775807 by omega),(show 2 * (1 + y.o.length) * 8 ≤ 281474976710656 by omega),(show y.o.length ≤ 9223372036854775807 by omega)]
 | refine Qc (id:=5) Vi [] (by kernel_rfl) ?_;simp [-zg,-zd,↓Qb,↓Qa,go_sem,hu,hv]
 | ((have hfin:bk c via via.length x = y.o:=(by rw [← g2,bk_root (by omega),List.nil_append])));refine Qc (id:=6) Vi [] (by kernel_rfl) ?_;simp [-zg,-zd,↓Qb,↓Qa,go_sem,hfin]
 | refine Qd (c:=.tmp 14) ?_;simp [-zg,-zd,↓Qb,↓Qa,go_sem];try first | (refine ⟨?_,?_⟩ <;> refine zA ?_) | (refine ⟨fun c14=>?_,fun c14=>?_⟩ <;> (try simp [B_iff,B_not] at c14))
 | (refine Qf (id:=0) (Qv (ι:=LT) (fun y:LT=>⟨(upd (upd (upd (upd (fun _=>.any) 1 (li cI via)) 2 (.int .i64 y.x)) 3 (.pd [li cI a,li cB b,li cT c])) 7 (.fr 1 y.o.length (cat cI y.o))),fun _=>none⟩) (fun y=>Dn c via y.d y.x ∧ bk c via y.d y.x ++ y.o = bk c via via.length x) (fun y=>y.d) (⟨via.length,x,[]⟩) ?_ ?_ ?_);exact ⟨hD,by simp⟩;((repeat' (first | exact Qg (by assumption) | exact Qi | refine Qj ?_ ?_ | refine Qh ?_)) <;> simp [-zg,-zd,↓Qb,↓Qa,go_sem,cat]);rintro y ⟨g1,g2⟩)
 | (refine ⟨⟨e,u,v :: y.o⟩,⟨s3,by dsimp only;rw [← g2,s4,List.append_assoc];rfl⟩,by first | omega | (simp;done) | (simp;omega),?_⟩;((repeat' (first | exact Qg (by assumption) | exact Qi | refine Qj ?_ ?_ | refine Qh ?_)) <;> simp [-zg,-zd,↓Qb,↓Qa,go_sem,Xk,cI,Nat.add_comm]))
 | (refine Qf ?_)
 | (refine Qo ?_;simp [-zg,-zd,↓Qb,↓Qa,go_sem])
 | (refine Qn ?_;simp [-zg,-zd,↓Qb,↓Qa,go_sem])
 | (refine Qr ?_;simp [-zg,-zd,↓Qb,↓Qa,go_sem,Try.results72])
 | (intro hx;refine zA ?_)
 | (refine ⟨?_,?_⟩ <;> refine zA ?_)
 | (intro hx;constructor <;> intro hs)
 | (constructor <;> intro hs)
 | (refine ⟨?_,fun hs=>?_⟩;refine zA ?_)
 | (refine ⟨fun hs=>?_,?_⟩;rotate_left;refine zA ?_;rotate_left)))
  all_goals (first
 | (rw [hfin];exact ⟨rfl,rfl⟩)
 | (rw [hfin])
 | skip)
@[go_sem] def zabf:Con:=.pure fun
  | [.st [.list n_a c_a,.list n_b c_b,.list n_c c_c],.list n_via c_via,.int .i64 x]=>((Is cI n_a c_a) ∧ (Is cB n_b c_b) ∧ (Is cT n_c c_c) ∧ (Is cI n_via c_via) ∧ ((de cI c_via).length ≤ 1048576) ∧ (Dn (de cT c_c) (de cI c_via) (de cI c_via).length x),fr 1 cI (bk (de cT c_c) (de cI c_via) (de cI c_via).length x))
  | _=>(False,.any)
theorem zaes:ConOk Try.prog 72 zabf:=by
  refine ⟨Qs Try.func72 (by decide) rfl,fun args h=>?_⟩
  revert h
  dsimp only
  split
  · intro h
    obtain ⟨⟨a,rfl,rfl⟩,⟨b,rfl,rfl⟩,⟨c,rfl,rfl⟩,⟨via,rfl,rfl⟩,hn,hD⟩:=h
    try simp only [Qw] at *
    exact ⟨l7Letters_pure a b c via _ hn hD,by simp [go_sem]⟩
  · intro h
    exact h.elim
@[go_sem] def Γw1:FuncId → Con:=ext Γn13 72 zabf
theorem Xq:∀ g,ConOk Try.prog g (Γw1 g):=Qp Vi zaes


theorem roots_neg (n:Nat) (ss:List Int):∀ k,k ≤ ss.length → ∀ j,nth (roots n (ss.take k)) j < 0 ∨ n ≤ j
  | 0,_,j=>by
    rcases Nat.lt_or_ge j n with q | q
    · left;simp only [List.take_zero,roots,List.foldl_nil];rw [Qm (by simpa using q)];simp
    · exact .inr q
  | k + 1,h,j=>by
    rw [zaec (by omega)]
    rcases roots_neg n ss k (by omega) j with q | q
    · left
      by_cases e:(nth ss k).toNat = j
      · subst e
        rcases Nat.lt_or_ge (nth ss k).toNat n with z | z
        · rw [Zm (by rw [zaco];exact z)];omega
        · rw [List.set_eq_of_length_le (by rw [zaco];exact z)];exact q
      · rw [Za e];exact q
    · exact .inr q
theorem viaP_roots (es:List Tr4) (n:Nat) (ss:List Int):viaP es (roots n ss) = zrP n (-1):=by
  apply List.ext_getElem (by simp [viaP])
  intro i h1 h2
  rw [List.length_replicate] at h2
  have:=roots_neg n ss ss.length (Nat.le_refl _) i
  rw [List.take_length] at this
  rw [← Qm h1,nth_viaP (by rw [zaco];exact h2),if_pos (by omega)]
  simp
structure QV (es:List Tr4) (b6 b7:Nat) (j6 j7:List D) (x:SQ):Prop where
  m6:x.H b6 = some (cat cI (viaP es x.s.1) ++ j6)
  m7:x.H b7 = some (cat cB (smP x.s.1) ++ j7)
  mq:x.H x.q = some (cat cI x.s.2 ++ zrP x.j .any)
  n6:¬ x.q = b6
  n7:¬ x.q = b7
  r1:x.s.2.length ≤ x.cp
  r2:x.cp ≤ x.s.2.length + x.j
set_option maxHeartbeats 4000000 in

theorem l7Tree_pure (a:List Int) (b:List Bool) (c:List Tr4) (ss:List Int) (hr:InRng b.length c) (hb:b.length ≤ 1048576) (hc:c.length ≤ 1048576) (hS:Starts b.length ss) (hsl:ss.length ≤ b.length):Pure Try.prog 70 [.st [li cI a,li cB b,li cT c],li cI ss] (.tup [fr 1 cI (viaP c (bfsE (nxE b.length c c.length) ss).1),fr 1 cI (bfsE (nxE b.length c c.length) ss).2]):=by
  refine Pure.of_walk Try.func70 rfl (by simp [Try.f70]) (by simp [-zd,go_sem]) fun B hK=>?_
  have hx:=Zk hr;have hnl:=Xr b.length c c.length (Nat.le_refl _);have htk:=fun i k (h:k ≤ c.length)=>nxE_take hr i h;have hS':Starts (nxE b.length c c.length).length ss:=(by rw [hnl];exact hS);have hmn:=fun k (h:k < c.length) u (hu:0 ≤ u) s=>meets_nx hr h (u:=u) hu s;obtain ⟨nx,hnx⟩:∃ nx,nxE b.length c c.length = nx:=⟨_,rfl⟩;have hfe:=fun k (h:k < c.length) u (hu:Nd (nxE b.length c c.length) u) s hl h1 h2=>firstE_at hr h (u:=u) hu (s:=s) hl h1 h2;rw [hnx] at hx hnl hS';simp only [hnx] at htk hfe;simp only [hnx]
  all_goals (repeat' (first
 | refine Qq ?_
 | refine Qc (id:=0) Xq [] (by kernel_rfl) ?_;simp [-zg,-zd,↓Qb,↓Qa,go_sem];try (refine Xa hK 2 ?_;simp [go_sem])
 | refine Qc (id:=1) Xq [] (by kernel_rfl) ?_;simp [-zg,-zd,↓Qb,↓Qa,go_sem]
 | refine Qc (id:=2) Xq [] (by kernel_rfl) ?_;simp [-zg,-zd,↓Qb,↓Qa,go_sem,make_cB,(by omega:(b.length:Int) ≤ 281474976710656),(by omega:(b.length:Int) ≤ 9223372036854775807)]
 | refine Qc (id:=3) Xq [] (by kernel_rfl) ?_;simp [-zg,-zd,↓Qb,↓Qa,go_sem]
 | refine Qc (id:=4) Xq [] (by kernel_rfl) ?_;simp [-zg,-zd,↓Qb,↓Qa,go_sem]
 | refine Qc (id:=6) Xq [] (by kernel_rfl) ?_;simp [-zg,-zd,↓Qb,↓Qa,go_sem,rep_snoc,(show k + 1 ≤ 9223372036854775807 by omega),(show k ≤ 9223372036854775806 by omega),(show 2 * (k + 1) * 8 ≤ 281474976710656 by omega)]
 | refine Qc (id:=5) Xq [] (by kernel_rfl) ?_;simp [-zg,-zd,↓Qb,↓Qa,go_sem,wrapS (k:=k) (by omega)]
 | ((obtain rfl:k = b.length:=by omega));refine Qc (id:=7) Xq [] (by kernel_rfl) ?_;simp [-zg,-zd,↓Qb,↓Qa,go_sem,(show ss.length ≤ 9223372036854775807 by omega),(show 2 * ss.length * 8 ≤ 281474976710656 by omega)];try ((refine Xy 6 rfl fun b6 c6 j6 q6 hc6 hd6=>?_);(refine Xy 7 rfl fun b7 c7 j7 q7 hc7 hd7=>?_);(refine Xy 9 rfl fun q cq jq hq hcq hdq=>?_);(dsimp only at q7 hq);(have n76:¬ b7 = b6:=zabi q7 (Ql ..));(have nq7:¬ q = b7:=zabi hq (Ql ..));(have nq6:¬ q = b6:=zabi hq (by rw [Qe (zS n76),Ql]));(clear q6 q7 hq);(refine Xb (fun H1=>H1 b6 = some (cat cI (zrP b.length (-1)) ++ zrP j6 D.any) ∧ H1 b7 = some (cat cB (Xw b.length ss 0) ++ zrP j7 D.any) ∧ H1 q = some (cat cI ss ++ zrP jq D.any)) ⟨by simp [upd,n76,zS n76,nq7,zS nq7,nq6,zS nq6],by simp [upd,zacs,n76,zS n76,nq7,zS nq7,nq6,zS nq6],by simp [upd,n76,zS n76,nq7,zS nq7,nq6,zS nq6]⟩ fun H1 ⟨w6,w7,wq⟩=>?_))
 | refine Qc (id:=8) Xq [] (by kernel_rfl) ?_;simp [-zg,-zd,↓Qb,↓Qa,go_sem]
 | refine Qc (id:=9) Xq [] (by kernel_rfl) ?_;simp [-zg,-zd,↓Qb,↓Qa,go_sem]
 | ((obtain ⟨p0,p1⟩:=hS.1 (nth ss z.1) (Xl c34));(have hml:=zabz b.length ss z.1);(have hst:=zact (n:=b.length) c34));refine Qc (id:=11) Xq [] (by kernel_rfl) ?_;simp [-zg,-zd,↓Qb,↓Qa,go_sem,c34,Qk c34,zsP c34,g3,hml,p0,p1,(show (nth ss z.1).toNat < b.length by omega),(show (nth ss z.1).toNat < b.length + j7 by omega),(show (nth ss z.1).toNat + 1 ≤ b.length + j7 by omega)]
 | ((refine Xb (fun H1=>H1 b6 = some (cat cI (zrP b.length (-1)) ++ zrP j6 D.any) ∧ H1 b7 = some (cat cB (Xw b.length ss (z.1 + 1)) ++ zrP j7 D.any) ∧ H1 q = some (cat cI ss ++ zrP jq D.any)) ⟨by simp [upd,n76,zS n76,g2],by simp [upd,hst],by simp [upd,nq7,zS nq7,g4]⟩ fun H9 ⟨t6,t7,tq⟩=>?_));refine Qc (id:=10) Xq [] (by kernel_rfl) ?_;simp [-zg,-zd,↓Qb,↓Qa,go_sem,wrapS (k:=z.1) (by omega)]
 | refine Qc (id:=12) Xq [] (by kernel_rfl) ?_;simp [-zg,-zd,↓Qb,↓Qa,go_sem];try ((obtain ⟨kx,H2⟩:=z);(dsimp only at *);(obtain rfl:kx = ss.length:=by omega);(have hmr:=zadk b.length ss ss.length (Nat.le_refl _));(rw [List.take_length] at hmr);(have hQ0:QV c b6 b7 (zrP j6 D.any) (zrP j7 D.any) ⟨0,bfs0 b.length ss,q,cq,jq,H2⟩:=⟨by simp [bfs0,viaP_roots,g2],by simp [bfs0,g3,hmr],by simp [bfs0,g4],nq6,nq7,by simpa [bfs0] using hcq,by simpa [bfs0] using hdq⟩))
 | refine Qc (id:=13) Xq [] (by kernel_rfl) ?_;simp [-zg,-zd,↓Qb,↓Qa,go_sem]
 | refine Qc (id:=15) Xq [] (by kernel_rfl) ?_;simp [-zg,-zd,↓Qb,↓Qa,go_sem];try ((have hu:=hB.rng x.k c46);(have hxu:=hx (nth x.s.2 x.k).toNat (by omega));(obtain ⟨u,huu⟩:∃ u,nth x.s.2 x.k = u:=⟨_,rfl⟩);(rw [huu] at hu hxu);(have hnu:Nd nx u:=⟨hu.1,by omega⟩);(have hz:nth (nxE b.length c 0) u.toNat = []:=(by rw [zagx,Qm (by simp;omega)];simp)))
 | refine Qc (id:=16) Xq [] (by kernel_rfl) ?_;simp [-zg,-zd,↓Qb,↓Qa,go_sem]
 | ((have m6:=e3.m6);(have m7:=e3.m7);(have mq:=e3.mq);(have n6:=e3.n6);(have n7:=e3.n7);(have r1:=e3.r1);(have r2:=e3.r2);(obtain ⟨⟨p0,p1⟩,v0,v1⟩:=hr y.k c53);(have hst:=hmn y.k c53 u hu.1 x.s);(have hf1:=hfe y.k c53 u hnu x.s hB.len);(obtain ⟨v,hv⟩:∃ v,(nth c y.k).2.2.2 = v:=⟨_,rfl⟩);(rw [hv] at v0 v1 hst hf1);(have hvn:v.toNat < b.length:=(by omega));(have hsm:=nth_smP (P:=y.s.1) (k:=v.toNat) (by omega)));refine zaac (id:=18) Xq mixed [(b7,cat cB (smP y.s.1) ++ zrP j7 D.any),(y.q,cat cI y.s.2 ++ zrP y.j D.any)] [67] [] (by kernel_rfl) (by kernel_rfl) (by simp [-zg,-zd,↓Qb,↓Qa,go_sem,c53,Qk c53,zsP c53,m7,mq,n7,zS n7,e5,e6,Qk e6,zsP e6,hv,v0,v1,hvn,e7,hsm,(show x.k < y.s.2.length + y.j by omega),(show x.k + 1 ≤ y.s.2.length + y.j by omega),(show v.toNat < b.length + j7 by omega),(show v.toNat + 1 ≤ b.length + j7 by omega)]) (by simp [-zg,-zd,↓Qb,↓Qa,go_sem,c53,Qk c53,zsP c53,m7,mq,n7,zS n7,e5,e6,Qk e6,zsP e6,hv,v0,v1,hvn,e7,hsm,(show x.k < y.s.2.length + y.j by omega),(show x.k + 1 ≤ y.s.2.length + y.j by omega),(show v.toNat < b.length + j7 by omega),(show v.toNat + 1 ≤ b.length + j7 by omega)]) ?_;simp [-zg,-zd,↓Qb,↓Qa,go_sem,c53,Qk c53,zsP c53,m7,mq,n7,zS n7,e5,e6,Qk e6,zsP e6,hv,v0,v1,hvn,e7,hsm,(show x.k < y.s.2.length + y.j by omega),(show x.k + 1 ≤ y.s.2.length + y.j by omega),(show v.toNat < b.length + j7 by omega),(show v.toNat + 1 ≤ b.length + j7 by omega)];try (refine ⟨fun s18a=>?_,fun s18a=>?_⟩ <;> (try simp [B_iff,B_not] at s18a) <;> try (refine ⟨fun s18b=>?_,fun s18b=>?_⟩ <;> (try simp [B_iff,B_not] at s18b)))
 | ((have hfu:(nth c y.k).1 = u:=(by assumption));(have hun:nth y.s.1 v.toNat = -2:=(by assumption));(have hfe1:=hf1 hfu (by rw [← e2];exact hun));(have hvs:=viaP_set (es:=c) (P:=y.s.1) (x:=v.toNat) (by omega) hu.1);(rw [Int.toNat_of_nonneg v0,hfe1] at hvs);(have hss:=smP_set y.s.1 v.toNat (v:=u) (by omega)));refine Qc (id:=19) Xq [] (by kernel_rfl) ?_;simp [-zg,-zd,↓Qb,↓Qa,go_sem,c53,Qk c53,zsP c53,m7,hv,v0,v1,hvn,e7,(show v.toNat < b.length + j7 by omega),(show v.toNat + 1 ≤ b.length + j7 by omega)]
 | refine Qc (id:=20) Xq [] (by kernel_rfl) ?_;simp [-zg,-zd,↓Qb,↓Qa,go_sem,c53,Qk c53,zsP c53,m6,n76,zS n76,hv,v0,v1,hvn,e7,Ja,(show v.toNat < b.length + j6 by omega),(show v.toNat + 1 ≤ b.length + j6 by omega)]
 | refine Qc (id:=21) Xq [] (by kernel_rfl) ?_;simp [-zg,-zd,↓Qb,↓Qa,go_sem,c53,Qk c53,zsP c53,mq,n6,n7,zS n6,zS n7,hv,Zv,(show y.s.2.length ≤ y.s.2.length + y.j by omega),r2,(show y.s.2.length + 1 ≤ 9223372036854775807 by omega),(show 2 * (y.s.2.length + 1) * 8 ≤ 281474976710656 by omega),Xi];try ((refine Xy 9 rfl fun q' cp' jj' hq' hc' hd'=>?_);(dsimp only at hq');(have k7:¬ q' = b7:=(by rintro rfl;simp [upd,n7,zS n7,n76,zS n76] at hq'));(have k6:¬ q' = b6:=(by rintro rfl;simp [upd,n6,zS n6,n76,zS n76] at hq'));(refine Xb (fun H2=>QV c b6 b7 (zrP j6 D.any) (zrP j7 D.any) ⟨y.k + 1,((y.s.1.set v.toNat u,y.s.2 ++ [v]):PQ),q',cp',jj',H2⟩) ⟨by simp [upd,n76,zS n76,k7,zS k7,k6,zS k6,n6,n7,zS n6,zS n7,hvs],by simp [upd,n76,zS n76,k7,zS k7,k6,zS k6,n6,n7,zS n6,zS n7,hss],by simp [upd,n76,zS n76,k7,zS k7,k6,zS k6,n6,n7,zS n6,zS n7],k6,k7,by simpa using hc',by simpa using hd'⟩ fun H2 hH2=>?_))
 | refine Qc (id:=17) Xq [] (by kernel_rfl) ?_;simp [-zg,-zd,↓Qb,↓Qa,go_sem,wrapS (k:=y.k) (by omega)]
 | refine Qc (id:=14) Xq [] (by kernel_rfl) ?_;simp [-zg,-zd,↓Qb,↓Qa,go_sem,wrapS (k:=x.k) (by omega)]
 | ((obtain ⟨kx,sx,qx,cx,jx,Hx⟩:=x);(try dsimp only at *);(have hE:sx = bfsE nx ss:=(by rw [g2,← hnl];rw [← hnl] at g2 hle;exact zafg (by rw [← g2];omega) (by omega)));(subst hE);(have hle3:=hB.len);(have m6:=g3.m6);(have mq:=g3.mq);(have n6:=g3.n6);(have r1:=g3.r1);(have r2:=g3.r2);(try dsimp only at *);(refine Jl 6 (b:=b6) (all:=cat cI (viaP c (bfsE nx ss).1) ++ zrP j6 D.any) rfl m6 (by omega) (by simp [Qu,Ja,hle3]) (by simp [Qu,Ja,hle3];omega) ?_);(refine Jl 9 (b:=qx) (all:=cat cI (bfsE nx ss).2 ++ zrP jx D.any) rfl (by dsimp only;rw [Qe n6];exact mq) (by omega) (by simp [Qu]) (by simp [Qu];omega) ?_));refine Qc (id:=22) Xq [] (by kernel_rfl) ?_;simp [-zg,-zd,↓Qb,↓Qa,go_sem,hle3,Ja,Xn (f:=cI) (viaP c (bfsE nx ss).1) (zrP j6 D.any) (n:=b.length) (by rw [Ja,hle3]),Xi]
 | refine Qd (c:=.tmp 22) ?_;simp [-zg,-zd,↓Qb,↓Qa,go_sem];try first | (refine ⟨?_,?_⟩ <;> refine zA ?_) | (refine ⟨fun c22=>?_,fun c22=>?_⟩ <;> (try simp [B_iff,B_not] at c22))
 | refine Qd (c:=.tmp 34) ?_;simp [-zg,-zd,↓Qb,↓Qa,go_sem];try first | (refine ⟨?_,?_⟩ <;> refine zA ?_) | (refine ⟨fun c34=>?_,fun c34=>?_⟩ <;> (try simp [B_iff,B_not] at c34))
 | refine Qd (c:=.tmp 46) ?_;simp [-zg,-zd,↓Qb,↓Qa,go_sem];try first | (refine ⟨?_,?_⟩ <;> refine zA ?_) | (refine ⟨fun c46=>?_,fun c46=>?_⟩ <;> (try simp [B_iff,B_not] at c46))
 | refine Qd (c:=.tmp 53) ?_;simp [-zg,-zd,↓Qb,↓Qa,go_sem];try first | (refine ⟨?_,?_⟩ <;> refine zA ?_) | (refine ⟨fun c53=>?_,fun c53=>?_⟩ <;> (try simp [B_iff,B_not] at c53))
 | refine Qd (c:=.tmp 78) ?_;simp [-zg,-zd,↓Qb,↓Qa,go_sem];try first | (refine ⟨?_,?_⟩ <;> refine zA ?_) | (refine ⟨fun c78=>?_,fun c78=>?_⟩ <;> (try simp [B_iff,B_not] at c78))
 | (refine Qf (id:=0) (Qv (ι:=Nat) (fun k:Nat=>⟨(upd (upd (upd (upd (upd (fun _=>.any) 1 (li cI ss)) 2 (.pd [li cI a,li cB b,li cT c])) 6 (.fr 1 k (cat cI (zrP k (-1))))) 7 (.fr 1 b.length (cat cB (zrP b.length false)))) 8 (.int .i64 k)),fun _=>none⟩) (fun k=>k ≤ b.length) (fun k=>b.length - k) (0) ?_ ?_ ?_);exact Nat.zero_le _;((repeat' (first | exact Qg (by assumption) | exact Qi | refine Qj ?_ ?_ | refine Qh ?_)) <;> simp [-zg,-zd,↓Qb,↓Qa,go_sem]);rintro k hk)
 | (refine ⟨k + 1,by omega,by first | omega | (simp;done) | (simp;omega),?_⟩;((repeat' (first | exact Qg (by assumption) | exact Qi | refine Qj ?_ ?_ | refine Qh ?_)) <;> simp [-zg,-zd,↓Qb,↓Qa,go_sem]))
 | (refine Qf (id:=2) (Qv (ι:=Nat × Hp) (fun z:Nat × Hp=>⟨(upd (upd (upd (upd (upd (upd (fun _=>.any) 1 (li cI ss)) 2 (.pd [li cI a,li cB b,li cT c])) 6 (.sl b6 1 0 b.length c6)) 7 (.sl b7 1 0 b.length c7)) 9 (.sl q 1 0 ss.length cq)) 10 (.int .i64 z.1)),z.2⟩) (fun z=>z.1 ≤ ss.length ∧ z.2 b6 = some (cat cI (zrP b.length (-1)) ++ zrP j6 D.any) ∧ z.2 b7 = some (cat cB (Xw b.length ss z.1) ++ zrP j7 D.any) ∧ z.2 q = some (cat cI ss ++ zrP jq D.any)) (fun z=>ss.length - z.1) ((0,H1)) ?_ ?_ ?_);exact ⟨Nat.zero_le _,w6,w7,wq⟩;((repeat' (first | exact Qg (by assumption) | exact Qi | refine Qj ?_ ?_ | refine Qh ?_)) <;> simp [-zg,-zd,↓Qb,↓Qa,go_sem]);rintro z ⟨g1,g2,g3,g4⟩)
 | (refine ⟨(z.1 + 1,H9),⟨by dsimp only;omega,t6,t7,tq⟩,by first | omega | (simp;done) | (simp;omega),?_⟩;((repeat' (first | exact Qg (by assumption) | exact Qi | refine Qj ?_ ?_ | refine Qh ?_)) <;> simp [-zg,-zd,↓Qb,↓Qa,go_sem]))
 | (refine Qf (id:=4) (Qv (ι:=SQ) (fun x:SQ=>⟨(upd (upd (upd (upd (upd (upd (fun _=>.any) 1 (li cI ss)) 2 (.pd [li cI a,li cB b,li cT c])) 6 (.sl b6 1 0 b.length c6)) 7 (.sl b7 1 0 b.length c7)) 9 (.sl x.q 1 0 x.s.2.length x.cp)) 11 (.int .i64 x.k)),x.H⟩) (fun x=>x.k ≤ x.s.2.length ∧ x.s = bfs nx x.k (bfs0 b.length ss) ∧ QV c b6 b7 (zrP j6 D.any) (zrP j7 D.any) x) (fun x=>b.length - x.k) (⟨0,bfs0 b.length ss,q,cq,jq,H2⟩) ?_ ?_ ?_);exact ⟨Nat.zero_le _,rfl,hQ0⟩;((repeat' (first | exact Qg (by assumption) | exact Qi | refine Qj ?_ ?_ | refine Qh ?_)) <;> simp [-zg,-zd,↓Qb,↓Qa,go_sem,bfs0]);rintro x ⟨g1,g2,g3⟩;have hB:=(bfs_ok hx (Bf.start hS') x.k).1;(rw [hnl,← g2] at hB);have hle:=hB.le)
 | (refine ⟨⟨x.k + 1,y.s,y.q,y.cp,y.j,y.H⟩,⟨by dsimp only;omega,by dsimp only;(have qe:y.k = c.length:=by omega);rw [qe,hnx] at e2;rw [e2,zadw (by rw [← g2];exact c46),← g2,huu],⟨e3.m6,e3.m7,e3.mq,e3.n6,e3.n7,e3.r1,e3.r2⟩⟩,by first | omega | (simp;done) | (simp;omega),?_⟩;((repeat' (first | exact Qg (by assumption) | exact Qi | refine Qj ?_ ?_ | refine Qh ?_)) <;> simp [-zg,-zd,↓Qb,↓Qa,go_sem,]))
 | (refine Qf (id:=6) (Qv (ι:=SQ) (fun y:SQ=>⟨(upd (upd (upd (upd (upd (upd (upd (fun _=>.any) 1 (li cI ss)) 2 (.pd [li cI a,li cB b,li cT c])) 6 (.sl b6 1 0 b.length c6)) 7 (.sl b7 1 0 b.length c7)) 9 (.sl y.q 1 0 y.s.2.length y.cp)) 11 (.int .i64 x.k)) 12 (.int .i64 y.k)),y.H⟩) (fun y=>y.k ≤ c.length ∧ y.s = meets (nth x.s.2 x.k) (nth (nxE b.length c y.k) (nth x.s.2 x.k).toNat) x.s ∧ QV c b6 b7 (zrP j6 D.any) (zrP j7 D.any) y) (fun y=>c.length - y.k) (⟨0,x.s,x.q,x.cp,x.j,x.H⟩) ?_ ?_ ?_);exact ⟨Nat.zero_le _,by dsimp only;rw [huu,hz];rfl,⟨g3.m6,g3.m7,g3.mq,g3.n6,g3.n7,g3.r1,g3.r2⟩⟩;((repeat' (first | exact Qg (by assumption) | exact Qi | refine Qj ?_ ?_ | refine Qh ?_)) <;> simp [-zg,-zd,↓Qb,↓Qa,go_sem]);rintro y ⟨e1,e2,e3⟩;(rw [huu] at e2);(obtain ⟨tk1,tk2⟩:=htk u.toNat y.k e1);(obtain ⟨hC,hL⟩:=zadj hB c46 (ns:=nth nx u.toNat) (by rw [← hnl];exact hxu) (nth (nxE b.length c y.k) u.toNat).length tk2);(rw [huu,← tk1,← e2] at hC hL);have hl2:=hL.le;have e5:=hL.nth c46;(rw [huu] at e5);have e6:x.k < y.s.2.length:=(by omega);have hle2:=hC.le;have e7:=hC.len)
 | (refine ⟨⟨y.k + 1,((y.s.1.set v.toNat u,y.s.2 ++ [v]):PQ),q',cp',jj',H2⟩,⟨by dsimp only;omega,by dsimp only;rw [huu,hmn y.k c53 u hu.1,if_pos hfu,← e2,hv,meet1,if_pos hun],hH2⟩,by first | omega | (simp;done) | (simp;omega),?_⟩;((repeat' (first | exact Qg (by assumption) | exact Qi | refine Qj ?_ ?_ | refine Qh ?_)) <;> simp [-zg,-zd,↓Qb,↓Qa,go_sem]))
 | (refine Qf ?_)
 | (refine Qo ?_;simp [-zg,-zd,↓Qb,↓Qa,go_sem])
 | (refine Qn ?_;simp [-zg,-zd,↓Qb,↓Qa,go_sem])
 | (refine Qr ?_;simp [-zg,-zd,↓Qb,↓Qa,go_sem,Try.results70])
 | (intro hx;refine zA ?_)
 | (refine ⟨?_,?_⟩ <;> refine zA ?_)
 | (intro hx;constructor <;> intro hs)
 | (constructor <;> intro hs)
 | (refine ⟨?_,fun hs=>?_⟩;refine zA ?_)
 | (refine ⟨fun hs=>?_,?_⟩;rotate_left;refine zA ?_;rotate_left)
 | (refine ⟨⟨y.k + 1,y.s,y.q,y.cp,y.j,y.H⟩,⟨by dsimp only;omega,by dsimp only;rw [huu,hst];first | (rw [if_neg (by assumption)];exact e2) | (rw [if_pos (by assumption),← e2,meet1,if_neg (by assumption)]),⟨e3.m6,e3.m7,e3.mq,e3.n6,e3.n7,e3.r1,e3.r2⟩⟩,by dsimp only;omega,?_⟩;((repeat' (first | exact Qg (by assumption) | exact Qi | refine Qj ?_ ?_ | refine Qh ?_)) <;> simp [-zg,-zd,go_sem]))))
@[go_sem] def zadm:Con:=.pure fun
  | [.st [.list n_a c_a,.list n_b c_b,.list n_c c_c],.list n_ss c_ss]=>((Is cI n_a c_a) ∧ (Is cB n_b c_b) ∧ (Is cT n_c c_c) ∧ (Is cI n_ss c_ss) ∧ (InRng (de cB c_b).length (de cT c_c)) ∧ ((de cB c_b).length ≤ 1048576) ∧ ((de cT c_c).length ≤ 1048576) ∧ (Starts (de cB c_b).length (de cI c_ss)) ∧ ((de cI c_ss).length ≤ (de cB c_b).length),.tup [fr 1 cI (viaP (de cT c_c) (bfsE (nxE (de cB c_b).length (de cT c_c) (de cT c_c).length) (de cI c_ss)).1),fr 1 cI (bfsE (nxE (de cB c_b).length (de cT c_c) (de cT c_c).length) (de cI c_ss)).2])
  | _=>(False,.any)
theorem zain:ConOk Try.prog 70 zadm:=by
  refine ⟨Qs Try.func70 (by decide) rfl,fun args h=>?_⟩
  revert h
  dsimp only
  split
  · intro h
    obtain ⟨⟨a,rfl,rfl⟩,⟨b,rfl,rfl⟩,⟨c,rfl,rfl⟩,⟨ss,rfl,rfl⟩,hr,hb,hc,hS,hsl⟩:=h
    try simp only [Qw] at *
    exact ⟨l7Tree_pure a b c ss hr hb hc hS hsl,by simp [go_sem]⟩
  · intro h
    exact h.elim
@[go_sem] def Γw2:FuncId → Con:=ext Γw1 70 zadm
theorem Zg:∀ g,ConOk Try.prog g (Γw2 g):=Qp Xq zain

end
end Go.Proofs.Ytkjimmkemnmajaa.Vm

