import Derived.Test.YtkjimmkemnmajaaN6
/-
  Marks in automata and rows of Bools. No conditions.
-/
namespace Go.Proofs.Ytkjimmkemnmajaa.Vm
open Go
open Nat renaming sub_pos_of_lt → zsP
open List renaming getD_eq_getElem?_getD → zg,drop_one → zd,replicate → zrP
open Ne renaming symm → zS
noncomputable section
set_option linter.unusedVariables false
set_option linter.unusedSimpArgs false
set_option maxRecDepth 200000

def bm (k:Int):Bool:=decide (k.tmod 3 = 0)
def Vj (k:Int) (n:Nat):List Bool:=(List.range n).map fun (i:Nat)=>bm (k + i)
@[go_sem] theorem zamg (k:Int) (n:Nat):(Vj k n).length = n:=by simp [Vj]
def mkB (k:Int) (xs:List Bool) (i:Nat):List Bool:=Vj k i ++ xs.drop i
theorem mkB_zero (k:Int) (xs:List Bool):mkB k xs 0 = xs:=by simp [mkB,Vj]
theorem mkB_all (k:Int) (xs:List Bool):mkB k xs xs.length = Vj k xs.length:=by simp [mkB]
theorem mkB_len {k:Int} {xs:List Bool} {i:Nat} (h:i < xs.length):(mkB k xs i).length = xs.length:=by simp [mkB,zamg];omega
theorem mkB_set {k:Int} {xs:List Bool} {i:Nat} (h:i < xs.length):(mkB k xs i).set i (decide ((k + (i:Int)).tmod 3 = 0)) = mkB k xs (i + 1):=by
  have m:Vj k (i + 1) = Vj k i ++ [bm (k + i)]:=by simp [Vj,List.range_succ]
  unfold mkB
  rw [List.drop_eq_getElem_cons h,zalo (by rw [zamg]),m]
  simp [bm]
theorem markB_spec (xs:List Bool) (k:Int) (b cp:Nat) (junk:List D) (H:Hp) (hH:H b = some (cat cB xs ++ junk)) (h0:0 ≤ k) (h1:k + xs.length ≤ 1099511627776) :
    Spec Try.prog 82 [.sl b 1 0 xs.length cp,.int .i64 k] H (.int .i64 (k + xs.length)) (upd H b (some (cat cB (Vj k xs.length) ++ junk))):=by
  refine Spec.of_walk Try.func82 rfl (by simp [Try.f82]) fun B=>?_
  (repeat' (first
 | refine Qt ?_
 | refine Qc (id:=0) Jq [] (by kernel_rfl) ?_;simp [-zg,-zd,↓Qb,↓Qa,go_sem]
 | refine Qc (id:=1) Jq [] (by kernel_rfl) ?_;simp [-zg,-zd,↓Qb,↓Qa,go_sem]
 | refine Qc (id:=2) Jq [] (by kernel_rfl) ?_;simp [-zg,-zd,↓Qb,↓Qa,go_sem]
 | refine Qc (id:=4) Jq [] (by kernel_rfl) ?_;simp [-zg,-zd,↓Qb,↓Qa,go_sem,c9,Qj c9,zsP c9,mkB_len c9,mkB_set c9,(show i + 1 ≤ xs.length + junk.length by omega),(show i < xs.length + junk.length by omega)]
 | refine Qc (id:=5) Jq [] (by kernel_rfl) ?_;simp [-zg,-zd,↓Qb,↓Qa,go_sem,Qv (x:=k + (i:Int) + 1) (by omega) (by omega)]
 | refine Qc (id:=3) Jq [] (by kernel_rfl) ?_;simp [-zg,-zd,↓Qb,↓Qa,go_sem,wrapS (k:=i) (by omega)]
 | refine Qc (id:=6) Jq [] (by kernel_rfl) ?_;simp [-zg,-zd,↓Qb,↓Qa,go_sem]
 | refine Qd (c:=.tmp 9) ?_;simp [-zg,-zd,↓Qb,↓Qa,go_sem];try first | (refine ⟨?_,?_⟩ <;> refine zA ?_) | (refine ⟨fun c9=>?_,fun c9=>?_⟩ <;> (try simp [B_iff,B_not] at c9))
 | (refine Qe (id:=0) (Qy (ι:=Nat) (fun i:Nat=>⟨(upd (upd (upd (fun _=>.any) 0 (.sl b 1 0 xs.length cp)) 1 (.int .i64 (k + i))) 5 (.int .i64 i)),upd H b (some (cat cB (mkB k xs i) ++ junk))⟩) (fun i=>i ≤ xs.length) (fun i=>xs.length - i) (0) ?_ ?_ ?_);exact Nat.zero_le _;((repeat' (first | exact Qg (by assumption) | exact Qi | refine Qf ?_ ?_ | refine Qh ?_)) <;> simp [-zg,-zd,↓Qb,↓Qa,go_sem,mkB_zero,Vz hH]);rintro i hi)
 | (refine ⟨i + 1,by omega,by first | omega | (simp;done) | (simp;omega),?_⟩;((repeat' (first | exact Qg (by assumption) | exact Qi | refine Qf ?_ ?_ | refine Qh ?_)) <;> simp [-zg,-zd,↓Qb,↓Qa,go_sem,(show k + ((i:Int) + 1) = k + (i:Int) + 1 by omega),(show k + ((i + 1:Nat):Int) = k + (i:Int) + 1 by omega)]))
 | (refine Qe ?_)
 | (refine Qs ?_;simp [-zg,-zd,↓Qb,↓Qa,go_sem])
 | (refine Qr ?_;simp [-zg,-zd,↓Qb,↓Qa,go_sem])
 | (refine Qu ?_;simp [-zg,-zd,↓Qb,↓Qa,go_sem,Try.results82])
 | (intro hx;refine zA ?_)
 | (refine ⟨?_,?_⟩ <;> refine zA ?_)
 | (intro hx;constructor <;> intro hs)
 | (constructor <;> intro hs)
 | (refine ⟨?_,fun hs=>?_⟩;refine zA ?_)
 | (refine ⟨fun hs=>?_,?_⟩;rotate_left;refine zA ?_;rotate_left)))
  all_goals (first
 | (obtain rfl:i = xs.length:=(by omega);rw [mkB_all];exact ⟨rfl,fun _ _ h=>h⟩)
 | skip)
theorem markBNil_spec (k:Int) (H:Hp):Spec Try.prog 82 [.nil,.int .i64 k] H (.int .i64 k) H:=by
  refine Spec.of_walk Try.func82 rfl (by simp [Try.f82]) fun B=>?_
  (repeat' (first
 | refine Qt ?_
 | refine Qc (id:=0) Jq [] (by kernel_rfl) ?_;simp [-zg,-zd,↓Qb,↓Qa,go_sem]
 | refine Qc (id:=1) Jq [] (by kernel_rfl) ?_;simp [-zg,-zd,↓Qb,↓Qa,go_sem]
 | refine Qc (id:=2) Jq [] (by kernel_rfl) ?_;simp [-zg,-zd,↓Qb,↓Qa,go_sem]
 | refine Qc (id:=4) Jq [] (by kernel_rfl) ?_;simp [-zg,-zd,↓Qb,↓Qa,go_sem]
 | refine Qc (id:=5) Jq [] (by kernel_rfl) ?_;simp [-zg,-zd,↓Qb,↓Qa,go_sem]
 | refine Qc (id:=3) Jq [] (by kernel_rfl) ?_;simp [-zg,-zd,↓Qb,↓Qa,go_sem]
 | refine Qc (id:=6) Jq [] (by kernel_rfl) ?_;simp [-zg,-zd,↓Qb,↓Qa,go_sem]
 | refine Qd (c:=.tmp 9) ?_;simp [-zg,-zd,↓Qb,↓Qa,go_sem];try first | (refine ⟨?_,?_⟩ <;> refine zA ?_) | (refine ⟨fun c9=>?_,fun c9=>?_⟩ <;> (try simp [B_iff,B_not] at c9))
 | (refine Qe (id:=0) (Qy (ι:=Unit) (fun i:Unit=>⟨(upd (upd (upd (fun _=>.any) 0 (.nil)) 1 (.int .i64 k)) 5 (.int .i64 0)),H⟩) (fun i=>True) (fun i=>0) (()) ?_ ?_ ?_);exact trivial;((repeat' (first | exact Qg (by assumption) | exact Qi | refine Qf ?_ ?_ | refine Qh ?_)) <;> simp [-zg,-zd,↓Qb,↓Qa,go_sem]);rintro i hi)
 | (refine ⟨(),trivial,by first | omega | (simp;done) | (simp;omega),?_⟩;((repeat' (first | exact Qg (by assumption) | exact Qi | refine Qf ?_ ?_ | refine Qh ?_)) <;> simp [-zg,-zd,↓Qb,↓Qa,go_sem]))
 | (refine Qe ?_)
 | (refine Qs ?_;simp [-zg,-zd,↓Qb,↓Qa,go_sem])
 | (refine Qr ?_;simp [-zg,-zd,↓Qb,↓Qa,go_sem])
 | (refine Qu ?_;simp [-zg,-zd,↓Qb,↓Qa,go_sem,Try.results82])
 | (intro hx;refine zA ?_)
 | (refine ⟨?_,?_⟩ <;> refine zA ?_)
 | (intro hx;constructor <;> intro hs)
 | (constructor <;> intro hs)
 | (refine ⟨?_,fun hs=>?_⟩;refine zA ?_)
 | (refine ⟨fun hs=>?_,?_⟩;rotate_left;refine zA ?_;rotate_left)
 | (exfalso;omega)))
@[go_sem] def markBC:Con:=.gen fun args H=>match args with
  | [.sl b 1 0 n _,.int .i64 k]=>match H b with
    | some all=>(n ≤ all.length ∧ Is cB n (all.take n) ∧ 0 ≤ k ∧ k + n ≤ 1099511627776,.int .i64 (k + n),upd H b (some (cat cB (Vj k n) ++ all.drop n)))
    | none=>(False,.any,H)
  | [.nil,.int .i64 k]=>(True,.int .i64 k,H)
  | _=>(False,.any,H)
theorem markBC_ok:ConOk Try.prog 82 markBC:=by
  refine ⟨Qp Try.func82 (by decide) rfl,fun args H h=>?_⟩
  revert h
  dsimp only
  split
  · rename_i b n cp k
    split
    · rename_i all hH
      rintro ⟨g1,⟨xs,hn,he⟩,g2,g3⟩
      subst hn
      have:all = cat cB xs ++ all.drop xs.length:=by rw [← he,List.take_append_drop]
      rw [this] at hH
      have:=markB_spec xs k b cp _ H hH g2 g3
      exact this
    · intro h;exact h.elim
  · intro _
    exact markBNil_spec _ H
  · intro h
    exact h.elim
@[go_sem] def Γn7:FuncId → Con:=ext Γn6 82 markBC
theorem Γn7_ok:∀ g,ConOk Try.prog g (Γn7 g):=Qo Jq markBC_ok

def heldB (k:Int) (xs:List Bool):Int:=if xs = Vj k xs.length then k + xs.length else -1
@[go_sem] theorem heldB_marks (k:Int) (n:Nat):heldB k (Vj k n) = k + n:=by simp [heldB,zamg]
@[go_sem] theorem heldB_nil (k:Int):heldB k [] = k:=by simp [heldB,Vj]
@[go_sem] def Γn8:FuncId → Con:=Γn7
theorem Va:∀ g,ConOk Try.prog g (Γn8 g):=Γn7_ok

structure MT (b:Nat) (all:List D) (H H1:Hp):Prop where
  here:∃ cs,H1 b = some cs ∧ cs.length = all.length
  rest:∀ z cs,¬ z = b → H z = some cs → H1 z = some cs
theorem MT.set {b:Nat} {all:List D} {H H1 H2:Hp} (h:MT b all H H1) {cs:List D} {i:Nat} {d:D} (h2:H2 b = some (cs.set i d)) (hl:cs.length = all.length) (h3:∀ z,¬ z = b → H2 z = H1 z):MT b all H H2 :=
  ⟨⟨_,h2,by rw [List.length_set,hl]⟩,fun z cs hz k=>by rw [h3 z hz];exact h.rest z cs hz k⟩
theorem markT_spec (n:Nat) (k:Int) (b cp:Nat) (all:List D) (H:Hp) (hH:H b = some all) (hn:n * 4 ≤ all.length) (hn2:n ≤ 1048576) (h0:0 ≤ k) (h1:k + 4 * n ≤ 1099511627776) :
    Spec Try.prog 83 [.sl b 4 0 n cp,.int .i64 k] H (.int .i64 (k + 4 * n)) (upd H b none):=by
  refine Spec.of_walk Try.func83 rfl (by simp [Try.f83]) fun B=>?_
  (repeat' (first
 | refine Qt ?_
 | refine Qc (id:=0) Va [] (by kernel_rfl) ?_;simp [-zg,-zd,↓Qb,↓Qa,go_sem]
 | refine Qc (id:=1) Va [] (by kernel_rfl) ?_;simp [-zg,-zd,↓Qb,↓Qa,go_sem]
 | refine Qc (id:=2) Va [] (by kernel_rfl) ?_;simp [-zg,-zd,↓Qb,↓Qa,go_sem]
 | ((obtain ⟨⟨cs,w1,w2⟩,w3⟩:=g2));refine Qc (id:=4) Va [] (by kernel_rfl) ?_;simp [-zg,-zd,↓Qb,↓Qa,go_sem,w1,w2,c9,(show q.1 * 4 + 4 ≤ all.length by omega),(show q.1 * 4 < all.length by omega),(show q.1 * 4 + 1 ≤ all.length by omega)];try ((refine Qx (fun H1=>MT b all H H1) (MT.set (cs:=cs) ⟨⟨cs,w1,w2⟩,w3⟩ (by simp [upd,Xg];rfl) (by assumption) (by intro z hz;simp [upd,hz])) fun H1 t1=>?_))
 | refine Qc (id:=5) Va [] (by kernel_rfl) ?_;simp [-zg,-zd,↓Qb,↓Qa,go_sem,Qv (x:=k + 4 * (q.1:Int) + 1) (by omega) (by omega)]
 | ((obtain ⟨⟨cs1,w11,w12⟩,w13⟩:=t1));refine Qc (id:=6) Va [] (by kernel_rfl) ?_;simp [-zg,-zd,↓Qb,↓Qa,go_sem,w11,w12,c9,(show q.1 * 4 + 4 ≤ all.length by omega),(show q.1 * 4 + 1 < all.length by omega),(show q.1 * 4 + 1 + 1 ≤ all.length by omega)];try ((refine Qx (fun H1=>MT b all H H1) (MT.set (cs:=cs1) ⟨⟨cs1,w11,w12⟩,w13⟩ (by simp [upd,Xg];rfl) (by assumption) (by intro z hz;simp [upd,hz])) fun H2 t2=>?_))
 | refine Qc (id:=7) Va [] (by kernel_rfl) ?_;simp [-zg,-zd,↓Qb,↓Qa,go_sem,Qv (x:=k + 4 * (q.1:Int) + 1 + 1) (by omega) (by omega)]
 | ((obtain ⟨⟨cs2,w21,w22⟩,w23⟩:=t2));refine Qc (id:=8) Va [] (by kernel_rfl) ?_;simp [-zg,-zd,↓Qb,↓Qa,go_sem,w21,w22,c9,(show q.1 * 4 + 4 ≤ all.length by omega),(show q.1 * 4 + 2 < all.length by omega),(show q.1 * 4 + 2 + 1 ≤ all.length by omega)];try ((refine Qx (fun H1=>MT b all H H1) (MT.set (cs:=cs2) ⟨⟨cs2,w21,w22⟩,w23⟩ (by simp [upd,Xg];rfl) (by assumption) (by intro z hz;simp [upd,hz])) fun H3 t3=>?_))
 | refine Qc (id:=9) Va [] (by kernel_rfl) ?_;simp [-zg,-zd,↓Qb,↓Qa,go_sem,Qv (x:=k + 4 * (q.1:Int) + 1 + 1 + 1) (by omega) (by omega)]
 | ((obtain ⟨⟨cs3,w31,w32⟩,w33⟩:=t3));refine Qc (id:=10) Va [] (by kernel_rfl) ?_;simp [-zg,-zd,↓Qb,↓Qa,go_sem,w31,w32,c9,(show q.1 * 4 + 4 ≤ all.length by omega),(show q.1 * 4 + 3 < all.length by omega),(show q.1 * 4 + 3 + 1 ≤ all.length by omega)];try ((refine Qx (fun H1=>MT b all H H1) (MT.set (cs:=cs3) ⟨⟨cs3,w31,w32⟩,w33⟩ (by simp [upd,Xg];rfl) (by assumption) (by intro z hz;simp [upd,hz])) fun H9 t4=>?_))
 | refine Qc (id:=11) Va [] (by kernel_rfl) ?_;simp [-zg,-zd,↓Qb,↓Qa,go_sem,Qv (x:=k + 4 * (q.1:Int) + 1 + 1 + 1 + 1) (by omega) (by omega)]
 | refine Qc (id:=3) Va [] (by kernel_rfl) ?_;simp [-zg,-zd,↓Qb,↓Qa,go_sem,wrapS (k:=q.1) (by omega)]
 | refine Qc (id:=12) Va [] (by kernel_rfl) ?_;simp [-zg,-zd,↓Qb,↓Qa,go_sem]
 | refine Qd (c:=.tmp 9) ?_;simp [-zg,-zd,↓Qb,↓Qa,go_sem];try first | (refine ⟨?_,?_⟩ <;> refine zA ?_) | (refine ⟨fun c9=>?_,fun c9=>?_⟩ <;> (try simp [B_iff,B_not] at c9))
 | (refine Qe (id:=0) (Qy (ι:=Nat × Hp) (fun q:Nat × Hp=>⟨(upd (upd (upd (fun _=>.any) 0 (.sl b 4 0 n cp)) 1 (.int .i64 (k + 4 * q.1))) 5 (.int .i64 q.1)),q.2⟩) (fun q=>q.1 ≤ n ∧ MT b all H q.2) (fun q=>n - q.1) ((0,H)) ?_ ?_ ?_);exact ⟨Nat.zero_le _,⟨⟨all,hH,rfl⟩,fun z cs hz h=>h⟩⟩;((repeat' (first | exact Qg (by assumption) | exact Qi | refine Qf ?_ ?_ | refine Qh ?_)) <;> simp [-zg,-zd,↓Qb,↓Qa,go_sem]);rintro q ⟨g1,g2⟩)
 | (refine ⟨(q.1 + 1,H9),⟨by dsimp only;omega,t4⟩,by first | omega | (simp;done) | (simp;omega),?_⟩;((repeat' (first | exact Qg (by assumption) | exact Qi | refine Qf ?_ ?_ | refine Qh ?_)) <;> simp [-zg,-zd,↓Qb,↓Qa,go_sem,(show k + 4 * ((q.1:Int) + 1) = k + 4 * (q.1:Int) + 1 + 1 + 1 + 1 by omega),(show k + 4 * ((q.1 + 1:Nat):Int) = k + 4 * (q.1:Int) + 1 + 1 + 1 + 1 by omega)]))
 | (refine Qe ?_)
 | (refine Qs ?_;simp [-zg,-zd,↓Qb,↓Qa,go_sem])
 | (refine Qr ?_;simp [-zg,-zd,↓Qb,↓Qa,go_sem])
 | (refine Qu ?_;simp [-zg,-zd,↓Qb,↓Qa,go_sem,Try.results83])
 | (intro hx;refine zA ?_)
 | (refine ⟨?_,?_⟩ <;> refine zA ?_)
 | (intro hx;constructor <;> intro hs)
 | (constructor <;> intro hs)
 | (refine ⟨?_,fun hs=>?_⟩;refine zA ?_)
 | (refine ⟨fun hs=>?_,?_⟩;rotate_left;refine zA ?_;rotate_left)))
  all_goals (first
 | (exact ⟨by omega,fun z cs hz h=>g2.rest z cs hz h⟩)
 | (have e:q.1 = n:=(by omega);rw [e];refine ⟨rfl,fun z cs h=>?_⟩;by_cases ez:z = b;(subst ez;simp [upd] at h);(rw [Qq ez] at h;exact g2.rest z cs ez h))
 | (have e:q.1 = n:=(by omega);rw [e];refine ⟨rfl,fun z cs h=>?_⟩;by_cases ez:z = b;(subst ez;simp at h);(simp [ez] at h;exact g2.rest z cs ez h))
 | skip)
@[go_sem] def markTC:Con:=.gen fun args H=>match args with
  | [.sl b 4 0 n _,.int .i64 k]=>match H b with
    | some all=>(n * 4 ≤ all.length ∧ n ≤ 1048576 ∧ 0 ≤ k ∧ k + 4 * n ≤ 1099511627776,.int .i64 (k + 4 * n),upd H b none)
    | none=>(False,.any,H)
  | _=>(False,.any,H)
theorem markTC_ok:ConOk Try.prog 83 markTC:=by
  refine ⟨Qp Try.func83 (by decide) rfl,fun args H h=>?_⟩
  revert h
  dsimp only
  split
  · rename_i b n cp k
    split
    · rename_i all hH
      rintro ⟨g1,g2,g3,g4⟩
      exact markT_spec n k b cp all H hH g1 g2 g3 g4
    · intro h;exact h.elim
  · intro h
    exact h.elim
@[go_sem] def Γn9:FuncId → Con:=ext Γn8 83 markTC
theorem zapa:∀ g,ConOk Try.prog g (Γn9 g):=Qo Va markTC_ok

set_option maxHeartbeats 2000000 in
theorem markA_spec (a:List Int) (b:List Bool) (n:Nat) (k:Int) (b1 b2 b3 c1 c2 c3:Nat) (j1 j2 all:List D) (H:Hp) (h1:H b1 = some (cat cI a ++ j1)) (h2:H b2 = some (cat cB b ++ j2)) (h3:H b3 = some all) (n12:¬ b1 = b2) (n13:¬ b1 = b3) (n23:¬ b2 = b3) (hn:n * 4 ≤ all.length) (hn2:n ≤ 1048576) (h0:0 ≤ k) (hk:k + a.length + b.length + 4 * n ≤ 1099511627776) :
    Spec Try.prog 21 [.st [.sl b1 1 0 a.length c1,.sl b2 1 0 b.length c2,.sl b3 4 0 n c3],.int .i64 k] H (.int .i64 (k + a.length + b.length + 4 * n)) (upd (upd (upd H b1 none) b2 none) b3 none):=by
  refine Spec.of_walk Try.func21 rfl (by simp [Try.f21]) fun B=>?_
  (repeat' (first
 | refine Qt ?_
 | refine Qc (id:=0) zapa [] (by kernel_rfl) ?_;simp [-zg,-zd,↓Qb,↓Qa,go_sem];try (refine Zi 2 rfl fun b0 hb0=>?_;have m1:¬ b1 = b0:=(by rintro rfl;dsimp only at hb0;rw [h1] at hb0;cases hb0);have m2:¬ b2 = b0:=(by rintro rfl;dsimp only at hb0;rw [h2] at hb0;cases hb0);have m3:¬ b3 = b0:=(by rintro rfl;dsimp only at hb0;rw [h3] at hb0;cases hb0))
 | refine Qc (id:=1) zapa [] (by kernel_rfl) ?_;simp [-zg,-zd,↓Qb,↓Qa,go_sem,m1,h1,h0,(show k + (a.length:Int) ≤ 1099511627776 by omega)]
 | refine Qc (id:=2) zapa [] (by kernel_rfl) ?_;simp [-zg,-zd,↓Qb,↓Qa,go_sem,m1,m2,zS m1,zS m2,n12,zS n12,h2,(show 0 ≤ k + (a.length:Int) by omega),(show k + (a.length:Int) + (b.length:Int) ≤ 1099511627776 by omega)]
 | refine Qc (id:=3) zapa [] (by kernel_rfl) ?_;simp [-zg,-zd,↓Qb,↓Qa,go_sem,m1,m2,m3,zS m1,zS m2,zS m3,n12,zS n12,n13,zS n13,n23,zS n23,h3,hn,hn2,(show 0 ≤ k + (a.length:Int) + (b.length:Int) by omega),hk]
 | refine Qc (id:=4) zapa [] (by kernel_rfl) ?_;simp [-zg,-zd,↓Qb,↓Qa,go_sem]
 | (refine Qe ?_)
 | (refine Qs ?_;simp [-zg,-zd,↓Qb,↓Qa,go_sem])
 | (refine Qr ?_;simp [-zg,-zd,↓Qb,↓Qa,go_sem])
 | (refine Qu ?_;simp [-zg,-zd,↓Qb,↓Qa,go_sem,Try.results21])
 | (intro hx;refine zA ?_)
 | (refine ⟨?_,?_⟩ <;> refine zA ?_)
 | (intro hx;constructor <;> intro hs)
 | (constructor <;> intro hs)
 | (refine ⟨?_,fun hs=>?_⟩;refine zA ?_)
 | (refine ⟨fun hs=>?_,?_⟩;rotate_left;refine zA ?_;rotate_left)))
  all_goals (first
 | (intro b' cs' h;dsimp only at hb0;by_cases e3:b' = b3 <;> by_cases e2:b' = b2 <;> by_cases e1:b' = b1 <;> by_cases e0:b' = b0 <;> simp_all)
 | skip)
@[go_sem] def markAC:Con:=.gen fun args H=>match args with
  | [.st [.sl b1 1 0 n _,.sl b2 1 0 m _,.sl b3 4 0 o _],.int .i64 k]=>match H b1,H b2,H b3 with
    | some a1,some a2,some a3=>(¬ b1 = b2 ∧ ¬ b1 = b3 ∧ ¬ b2 = b3 ∧ n ≤ a1.length ∧ m ≤ a2.length ∧ Is cI n (a1.take n) ∧ Is cB m (a2.take m) ∧ o * 4 ≤ a3.length ∧ o ≤ 1048576 ∧ 0 ≤ k ∧ k + n + m + 4 * o ≤ 1099511627776,
        .int .i64 (k + n + m + 4 * o),upd (upd (upd H b1 none) b2 none) b3 none)
    | _,_,_=>(False,.any,H)
  | _=>(False,.any,H)
theorem markAC_ok:ConOk Try.prog 21 markAC:=by
  refine ⟨Qp Try.func21 (by decide) rfl,fun args H h=>?_⟩
  revert h
  dsimp only
  split
  · rename_i b1 n c1 b2 m c2 b3 o c3 k
    split
    · rename_i a1 a2 a3 hH1 hH2 hH3
      rintro ⟨g1,g2,g3,g4,g5,⟨xs,hn,he⟩,⟨ys,hm,hf⟩,g6,g7,g8,g9⟩
      subst hn hm
      have e1:a1 = cat cI xs ++ a1.drop xs.length:=by rw [← he,List.take_append_drop]
      have e2:a2 = cat cB ys ++ a2.drop ys.length:=by rw [← hf,List.take_append_drop]
      rw [e1] at hH1
      rw [e2] at hH2
      exact markA_spec xs ys o k b1 b2 b3 c1 c2 c3 _ _ _ H hH1 hH2 hH3 g1 g2 g3 g6 g7 g8 g9
    · intro h;exact h.elim
  · intro h
    exact h.elim
@[go_sem] def Γn10:FuncId → Con:=ext Γn9 21 markAC
theorem Jp:∀ g,ConOk Try.prog g (Γn10 g):=Qo zapa markAC_ok

def gd (nx:List (List Int)) (acc:List Bool) (s:Int) (i:Nat):Prop:=RchS nx [s] (i:Int) ∧ Cyc nx (i:Int) ∧ nth acc i = true
theorem gd_iff {nx:List (List Int)} {acc:List Bool} {s:Int} {i:Nat} (h:i < nx.length):gd nx acc s i ↔ nth (rchL nx [s]) i = true ∧ nth (cycL nx) i = true ∧ nth acc i = true:=by
  rw [nth_rchL h,nth_cycL h,B_iff,B_iff];rfl
theorem gd_liv {nx:List (List Int)} {acc:List Bool} {s:Int}:(∃ i,i < nx.length ∧ gd nx acc s i) ↔ Liv nx acc [s]:=by
  constructor
  · rintro ⟨i,h,h1,h2,h3⟩
    exact ⟨(i:Int),⟨by omega,by omega⟩,h1,h2,by simpa using h3⟩
  · rintro ⟨x,h,h1,h2,h3⟩
    have e:((x.toNat:Nat):Int) = x:=Int.toNat_of_nonneg h.1
    exact ⟨x.toNat,by have:=h.1;have:=h.2;omega,by rw [e];exact h1,by rw [e];exact h2,h3⟩
theorem nth_livL {nx:List (List Int)} {acc:List Bool} {i:Nat} (h:i < nx.length):nth (livL nx acc) i = Vm.B (Liv nx acc [(i:Int)]):=by
  rw [Ql (by rw [zaip];exact h)];simp [livL]
theorem prtB_set0 {xs:List Bool} {k:Nat} (h:k < xs.length):(prtB xs k).set k false = prtB xs k:=by
  obtain ⟨m,e⟩:∃ m,xs.length - k = m + 1:=⟨xs.length - k - 1,by omega⟩
  rw [prtB,e,List.replicate_succ,zalo (by simp;omega)]
structure LV (b5 j5:Nat) (nx:List (List Int)) (acc:List Bool) (k j:Nat) (H:Hp):Prop where
  w:∃ v,H b5 = some (cat cB ((prtB (livL nx acc) k).set k v) ++ zrP j5 .any) ∧ (v = true ↔ ∃ i,i < j ∧ gd nx acc (k:Int) i)
theorem LV.next {b5 j5:Nat} {nx:List (List Int)} {acc:List Bool} {k j:Nat} {H2:Hp} {v v':Bool} (h:v = true ↔ ∃ i,i < j ∧ gd nx acc (k:Int) i) (h2:H2 b5 = some (cat cB (((prtB (livL nx acc) k).set k v).set k v') ++ zrP j5 .any)) (hv:v' = true ↔ v = true ∨ gd nx acc (k:Int) j):LV b5 j5 nx acc k (j + 1) H2:=by
  refine ⟨v',by rw [h2,List.set_set],?_⟩
  rw [hv,h]
  constructor
  · rintro (⟨i,h1,h2⟩ | q)
    · exact ⟨i,by omega,h2⟩
    · exact ⟨j,by omega,q⟩
  · rintro ⟨i,h1,h2⟩
    by_cases e:i = j
    · subst e;exact .inr h2
    · exact .inl ⟨i,by omega,h2⟩
set_option maxHeartbeats 4000000 in

theorem live_pure (a:List Int) (b:List Bool) (c:List Tr4) (hr:InRng b.length c) (hb:b.length ≤ 1048576) (hc:c.length ≤ 1048576):Pure Try.prog 125 [.st [li cI a,li cB b,li cT c]] (fr 1 cB (livL (nxE b.length c c.length) b)):=by
  refine Pure.of_walk Try.func125 rfl (by simp [Try.f125]) (by simp [-zd,go_sem]) fun B hK=>?_
  (repeat' (first
 | refine Qt ?_
 | refine Qc (id:=0) Jp [] (by kernel_rfl) ?_;simp [-zg,-zd,↓Qb,↓Qa,go_sem];try (refine Xa hK 1 ?_;simp [go_sem])
 | refine Qc (id:=1) Jp [] (by kernel_rfl) ?_;simp [-zg,-zd,↓Qb,↓Qa,go_sem,hr,hb,hc];try ((refine Xa hK 3 ?_);(simp [go_sem]);(have hx:=Zh hr);(have hs:=nxE_nextS hr hc);(have hnl:=Xp b.length c c.length (Nat.le_refl _));(obtain ⟨nx,hnx⟩:∃ nx,nxE b.length c c.length = nx:=⟨_,rfl⟩);(rw [hnx] at hx hs hnl ⊢);(have hcl:=zanj nx);(have hll:=zaip nx b))
 | refine Qc (id:=2) Jp [] (by kernel_rfl) ?_;simp [-zg,-zd,↓Qb,↓Qa,go_sem,hx,hs,hnl,hb];try ((refine Xa hK 4 ?_);(simp [go_sem]))
 | refine Qc (id:=3) Jp [] (by kernel_rfl) ?_;simp [-zg,-zd,↓Qb,↓Qa,go_sem,hnl,Yk,(by omega:(b.length:Int) ≤ 281474976710656),(by omega:(b.length:Int) ≤ 9223372036854775807)];try ((refine Xk 5 rfl fun b5 c5 j5 q5 hc5 hj5=>?_);(clear q5);(refine Qx (fun H1=>H1 b5 = some (cat cB (prtB (livL nx b) 0) ++ zrP j5 D.any)) (by simp [upd,prtB_zero,hll,hnl]) fun H1 w5=>?_))
 | refine Qc (id:=4) Jp [] (by kernel_rfl) ?_;simp [-zg,-zd,↓Qb,↓Qa,go_sem,hnl]
 | refine Qc (id:=5) Jp [] (by kernel_rfl) ?_;simp [-zg,-zd,↓Qb,↓Qa,go_sem]
 | refine Qc (id:=6) Jp [] (by kernel_rfl) ?_;simp [-zg,-zd,↓Qb,↓Qa,go_sem]
 | ((have hnd:Nd nx (q.1:Int):=⟨by omega,by omega⟩);(have hone:∀ x,x ∈ [(q.1:Int)] → Nd nx x:=(by intro x h;simp at h;subst h;exact hnd));(have hrl:=zage nx [(q.1:Int)]));refine Qc (id:=7) Jp [] (by kernel_rfl) ?_;simp [-zg,-zd,↓Qb,↓Qa,go_sem,hx,hs,hnl,hb,hone,(show Is cI 1 [D.int .i64 (q.1:Int)] ↔ True by rw [Uo,is_cat];simp),(show de cI [D.int .i64 (q.1:Int)] = [(q.1:Int)] by rw [Uo,Qm]),hnd.1,hnd.2,(show Nd nx (q.1:Int) = True from eq_true hnd),hrl];try ((refine Xa hK 24 ?_);(simp [go_sem,hrl]);(have hpl:=prtB_len (xs:=livL nx b) (k:=q.1) (by omega));(have hw0:LV b5 j5 nx b q.1 0 q.2:=⟨⟨false,by rw [g2,prtB_set0 (by omega)],by simp⟩⟩))
 | refine Qc (id:=8) Jp [] (by kernel_rfl) ?_;simp [-zg,-zd,↓Qb,↓Qa,go_sem]
 | ((have hyn:y.1 < nx.length:=(by omega));(have hgi:=gd_iff (acc:=b) (s:=(q.1:Int)) hyn);(have hsl:((prtB (livL nx b) q.1).set q.1 v).length = nx.length:=(by rw [List.length_set,hpl,hll]));(have hsv:nth ((prtB (livL nx b) q.1).set q.1 v) q.1 = v:=Zt (by omega) v);(obtain ⟨B5,hB5⟩:∃ B5,(prtB (livL nx b) q.1).set q.1 v = B5:=⟨_,rfl⟩);(rw [hB5] at hsl hsv f2));refine Qc (id:=9) Jp [] (by kernel_rfl) ?_;simp [-zg,-zd,↓Qb,↓Qa,go_sem,(show ¬ rchL nx [(q.1:Int)] = [] by intro e;rw [e] at hrl;simp at hrl;omega),hrl,hnl,c27,zsP c27,(show y.1 < nx.length by omega)]
 | refine Qc (id:=10) Jp [37,39,45] (by kernel_rfl) ?_;simp [-zg,-zd,↓Qb,↓Qa,go_sem,f2,hsl,hsv,hnl,hcl,c27,zsP c27,(show q.1 < b.length by omega),(show 0 < b.length - q.1 by omega),(show q.1 < b.length + j5 by omega),(show q.1 + 1 ≤ b.length + j5 by omega),(show ¬ b = [] by intro e;subst e;simp at c27),(show ¬ cycL nx = [] by intro e;rw [e] at hcl;simp at hcl;omega)];try (refine ⟨fun s10a=>?_,fun s10a=>?_⟩ <;> (try simp [B_iff,B_not] at s10a) <;> try (refine ⟨fun s10b=>?_,fun s10b=>?_⟩ <;> (try simp [B_iff,B_not] at s10b) <;> try (refine ⟨fun s10c=>?_,fun s10c=>?_⟩ <;> (try simp [B_iff,B_not] at s10c) <;> try (refine ⟨fun s10d=>?_,fun s10d=>?_⟩ <;> (try simp [B_iff,B_not] at s10d)))))
 | ((refine Qx (fun H1=>LV b5 j5 nx b q.1 (y.1 + 1) H1) (LV.next (v:=v) (v':=v || (nth (rchL nx [(q.1:Int)]) y.1 && (nth (cycL nx) y.1 && nth b y.1))) f3 (by rw [hB5];simp_all [upd]) (by rw [hgi];simp [Bool.or_eq_true,Bool.and_eq_true])) fun H8 t8=>?_));refine Qc (id:=11) Jp [] (by kernel_rfl) ?_;simp [-zg,-zd,↓Qb,↓Qa,go_sem,wrapS (k:=y.1) (by omega)]
 | ((have e9:y.1 = nx.length:=(by omega));(rw [e9,gd_liv] at f3);(have hv:nth (livL nx b) q.1 = v:=(by rw [nth_livL (by omega),Bool.eq_iff_iff,B_iff];exact f3.symm));(have hst:=prtB_set (xs:=livL nx b) (k:=q.1) (by omega) hv);(rw [hst] at f2);(refine Qx (fun H1=>H1 b5 = some (cat cB (prtB (livL nx b) (q.1 + 1)) ++ zrP j5 D.any)) f2 fun H9 t5=>?_));refine Qc (id:=12) Jp [] (by kernel_rfl) ?_;simp [-zg,-zd,↓Qb,↓Qa,go_sem,wrapS (k:=q.1) (by omega)]
 | ((obtain ⟨kx,Hx⟩:=q);(dsimp only at *);(obtain rfl:kx = b.length:=by omega);(have hpa:prtB (livL nx b) b.length = livL nx b:=(by have:=prtB_all (livL nx b);rwa [hll,hnl] at this));(rw [hpa] at g2);(refine Je 5 (b:=b5) (all:=cat cB (livL nx b) ++ zrP j5 D.any) rfl g2 (by omega) (by simp [Qz,hll,hnl]) (by simp [Qz,hll,hnl];omega) ?_));refine Qc (id:=13) Jp [] (by kernel_rfl) ?_;simp [-zg,-zd,↓Qb,↓Qa,go_sem,hll,hnl,Jt (f:=cB) (livL nx b) (zrP j5 D.any) (n:=b.length) (by rw [hll,hnl])]
 | refine Qd (c:=.tmp 19) ?_;simp [-zg,-zd,↓Qb,↓Qa,go_sem];try first | (refine ⟨?_,?_⟩ <;> refine zA ?_) | (refine ⟨fun c19=>?_,fun c19=>?_⟩ <;> (try simp [B_iff,B_not] at c19))
 | refine Qd (c:=.tmp 27) ?_;simp [-zg,-zd,↓Qb,↓Qa,go_sem];try first | (refine ⟨?_,?_⟩ <;> refine zA ?_) | (refine ⟨fun c27=>?_,fun c27=>?_⟩ <;> (try simp [B_iff,B_not] at c27))
 | (refine Qe (id:=0) (Qy (ι:=Nat × Hp) (fun q:Nat × Hp=>⟨(upd (upd (upd (upd (upd (upd (upd (fun _=>.any) 1 (.pd [li cI a,li cB b,li cT c])) 3 (li cL nx)) 4 (li cB (cycL nx))) 5 (.sl b5 1 0 b.length c5)) 16 (li cL nx)) 17 (.int .i64 b.length)) 18 (.int .i64 q.1)),q.2⟩) (fun q=>q.1 ≤ b.length ∧ q.2 b5 = some (cat cB (prtB (livL nx b) q.1) ++ zrP j5 D.any)) (fun q=>b.length - q.1) ((0,H1)) ?_ ?_ ?_);exact ⟨Nat.zero_le _,w5⟩;((repeat' (first | exact Qg (by assumption) | exact Qi | refine Qf ?_ ?_ | refine Qh ?_)) <;> simp [-zg,-zd,↓Qb,↓Qa,go_sem,li,hnl,hcl]);rintro q ⟨g1,g2⟩)
 | (refine ⟨(q.1 + 1,H9),⟨by dsimp only;omega,t5⟩,by first | omega | (simp;done) | (simp;omega),?_⟩;((repeat' (first | exact Qg (by assumption) | exact Qi | refine Qf ?_ ?_ | refine Qh ?_)) <;> simp [-zg,-zd,↓Qb,↓Qa,go_sem,li,hnl,hcl]))
 | (refine Qe (id:=2) (Qy (ι:=Nat × Hp) (fun y:Nat × Hp=>⟨(upd (upd (upd (upd (upd (upd (upd (upd (upd (upd (upd (fun _=>.any) 1 (.pd [li cI a,li cB b,li cT c])) 3 (li cL nx)) 4 (li cB (cycL nx))) 5 (.sl b5 1 0 b.length c5)) 6 (.int .i64 q.1)) 16 (li cL nx)) 17 (.int .i64 b.length)) 18 (.int .i64 q.1)) 24 (li cB (rchL nx [(q.1:Int)]))) 25 (.int .i64 b.length)) 26 (.int .i64 y.1)),y.2⟩) (fun y=>y.1 ≤ b.length ∧ LV b5 j5 nx b q.1 y.1 y.2) (fun y=>b.length - y.1) ((0,q.2)) ?_ ?_ ?_);exact ⟨Nat.zero_le _,hw0⟩;((repeat' (first | exact Qg (by assumption) | exact Qi | refine Qf ?_ ?_ | refine Qh ?_)) <;> simp [-zg,-zd,↓Qb,↓Qa,go_sem,li,hnl,hcl,hrl]);rintro y ⟨f1,⟨v,f2,f3⟩⟩)
 | (refine ⟨(y.1 + 1,H8),⟨by dsimp only;omega,t8⟩,by first | omega | (simp;done) | (simp;omega),?_⟩;((repeat' (first | exact Qg (by assumption) | exact Qi | refine Qf ?_ ?_ | refine Qh ?_)) <;> simp [-zg,-zd,↓Qb,↓Qa,go_sem,li,hnl,hcl,hrl]))
 | (refine Qe ?_)
 | (refine Qs ?_;simp [-zg,-zd,↓Qb,↓Qa,go_sem])
 | (refine Qr ?_;simp [-zg,-zd,↓Qb,↓Qa,go_sem])
 | (refine Qu ?_;simp [-zg,-zd,↓Qb,↓Qa,go_sem,Try.results125])
 | (intro hx;refine zA ?_)
 | (refine ⟨?_,?_⟩ <;> refine zA ?_)
 | (intro hx;constructor <;> intro hs)
 | (constructor <;> intro hs)
 | (refine ⟨?_,fun hs=>?_⟩;refine zA ?_)
 | (refine ⟨fun hs=>?_,?_⟩;rotate_left;refine zA ?_;rotate_left)))
@[go_sem] def zami:Con:=.pure fun
  | [.st [.list n_a c_a,.list n_b c_b,.list n_c c_c]]=>((Is cI n_a c_a) ∧ (Is cB n_b c_b) ∧ (Is cT n_c c_c) ∧ (InRng (de cB c_b).length (de cT c_c)) ∧ ((de cB c_b).length ≤ 1048576) ∧ ((de cT c_c).length ≤ 1048576),fr 1 cB (livL (nxE (de cB c_b).length (de cT c_c) (de cT c_c).length) (de cB c_b)))
  | _=>(False,.any)
theorem live_pureC_ok:ConOk Try.prog 125 zami:=by
  refine ⟨Qp Try.func125 (by decide) rfl,fun args h=>?_⟩
  revert h
  dsimp only
  split
  · intro h
    obtain ⟨⟨a,rfl,rfl⟩,⟨b,rfl,rfl⟩,⟨c,rfl,rfl⟩,hr,hb,hc⟩:=h
    try simp only [Qm] at *
    exact ⟨live_pure a b c hr hb hc,by simp [go_sem]⟩
  · intro h
    exact h.elim
@[go_sem] def Γn11:FuncId → Con:=ext Γn10 125 zami
theorem zala:∀ g,ConOk Try.prog g (Γn11 g):=Qo Jp live_pureC_ok


theorem AutOk.rng {a:List Int} {n:Nat} {c:List Tr4} (h:AutOk a n c):InRng n c:=fun i hi=>by
  obtain ⟨g1,g2,g3,g4,_⟩:=h.2.2.2.2 i hi
  exact ⟨⟨g1,g2⟩,g3,g4⟩
theorem AutOk.sizes {a:List Int} {n:Nat} {c:List Tr4} (h:AutOk a n c):1 ≤ n ∧ n ≤ 64 ∧ a.length ≤ n ∧ c.length ≤ 2048:=⟨h.1,h.2.1,sorted_len h.2.2.1,h.2.2.2.1⟩
def lsL (a:List Int) (b:List Bool) (c:List Tr4):List Bool:=if B (AutOk a b.length c) = true then livL (nxE b.length c c.length) b else []
theorem zamh {a:List Int} {b:List Bool} {c:List Tr4} (h:B (AutOk a b.length c) = true):lsL a b c = livL (nxE b.length c c.length) b:=by rw [lsL,if_pos h]
theorem lsL_no {a:List Int} {b:List Bool} {c:List Tr4} (h:B (AutOk a b.length c) = false):lsL a b c = []:=by rw [lsL,if_neg (by rw [h];simp)]
theorem livL_same {n:Nat} {c:List Tr4} (hr:InRng n c) (acc:List Bool):livL (nxD n c c.length) acc = livL (nxE n c c.length) acc:=by
  have hs:=nx_sameN hr
  unfold livL
  rw [← hs.1]
  apply List.map_congr_left
  intro i hi
  rw [List.mem_range] at hi
  rw [Bool.eq_iff_iff,B_iff,B_iff]
  exact (hs.liv (Zh hr) (by intro s q;simp at q;subst q;exact ⟨by omega,by omega⟩)).symm
theorem lsL_ne {a:List Int} {b:List Bool} {c:List Tr4} (h:AutOk a b.length c):¬ lsL a b c = []:=by
  intro e
  have e2:=congrArg List.length e
  rw [zamh (B_yes h),zaip,Xp _ _ _ (Nat.le_refl _),List.length_nil] at e2
  have:=h.1
  omega

theorem implLs_pure (a:List Int) (b:List Bool) (c:List Tr4) (hS:Xy c):Pure Try.prog 43 [.st [li cI a,li cB b,li cT c]] (if lsL a b c = [] then .nil else fr 1 cB (lsL a b c)):=by
  refine Pure.of_walk Try.func43 rfl (by simp [Try.f43]) (by simp [-zd,go_sem]) fun B hK=>?_
  cases hg:Vm.B (AutOk a b.length c)
  all_goals (repeat' (first
 | refine Qt ?_
 | refine Qc (id:=0) zala [] (by kernel_rfl) ?_;simp [-zg,-zd,↓Qb,↓Qa,go_sem];try (refine Xa hK 1 ?_;simp [go_sem])
 | refine Qc (id:=1) zala [] (by kernel_rfl) ?_;simp [-zg,-zd,↓Qb,↓Qa,go_sem,hg,hS]
 | refine Qc (id:=2) zala [] (by kernel_rfl) ?_;simp [-zg,-zd,↓Qb,↓Qa,go_sem,lsL_no hg]
 | (have hG:AutOk a b.length c:=(by rw [B_iff] at hg;exact hg);obtain ⟨n1,n2,n3,n4⟩:=hG.sizes;(have hle:¬ livL (nxE b.length c c.length) b = []:=(by rw [← zamh hg];exact lsL_ne hG)));refine Qc (id:=3) zala [] (by kernel_rfl) ?_;simp [-zg,-zd,↓Qb,↓Qa,go_sem,hG.rng,(show b.length ≤ 1048576 by omega),(show c.length ≤ 1048576 by omega),zamh hg,hle]
 | refine Qd (c:=.tmp 5) ?_;simp [-zg,-zd,↓Qb,↓Qa,go_sem];try first | (refine ⟨?_,?_⟩ <;> refine zA ?_) | (refine ⟨fun c5=>?_,fun c5=>?_⟩ <;> (try simp [B_iff,B_not] at c5))
 | (refine Qe ?_)
 | (refine Qs ?_;simp [-zg,-zd,↓Qb,↓Qa,go_sem])
 | (refine Qr ?_;simp [-zg,-zd,↓Qb,↓Qa,go_sem])
 | (refine Qu ?_;simp [-zg,-zd,↓Qb,↓Qa,go_sem,Try.results43])
 | (intro hx;refine zA ?_)
 | (refine ⟨?_,?_⟩ <;> refine zA ?_)
 | (intro hx;constructor <;> intro hs)
 | (constructor <;> intro hs)
 | (refine ⟨?_,fun hs=>?_⟩;refine zA ?_)
 | (refine ⟨fun hs=>?_,?_⟩;rotate_left;refine zA ?_;rotate_left)))
  all_goals (first
 | (rw [lsL_no hg];simp;done)
 | skip)
@[go_sem] def zagp:Con:=.pure fun
  | [.st [.list n_a c_a,.list n_b c_b,.list n_c c_c]]=>((Is cI n_a c_a) ∧ (Is cB n_b c_b) ∧ (Is cT n_c c_c) ∧ (Xy (de cT c_c)),if lsL (de cI c_a) (de cB c_b) (de cT c_c) = [] then .nil else fr 1 cB (lsL (de cI c_a) (de cB c_b) (de cT c_c)))
  | _=>(False,.any)
theorem zaop:ConOk Try.prog 43 zagp:=by
  refine ⟨Qp Try.func43 (by decide) rfl,fun args h=>?_⟩
  revert h
  dsimp only
  split
  · intro h
    obtain ⟨⟨a,rfl,rfl⟩,⟨b,rfl,rfl⟩,⟨c,rfl,rfl⟩,hS⟩:=h
    try simp only [Qm] at *
    exact ⟨implLs_pure a b c hS,by simp [go_sem]⟩
  · intro h
    exact h.elim
@[go_sem] def Γn12:FuncId → Con:=ext Γn11 43 zagp
theorem Ja:∀ g,ConOk Try.prog g (Γn12 g):=Qo zala zaop

set_option maxHeartbeats 4000000 in

theorem specLs_pure (a:List Int) (b:List Bool) (c:List Tr4) (hS:Xy c):Pure Try.prog 44 [.st [li cI a,li cB b,li cT c]] (fr 1 cB (lsL a b c)):=by
  refine Pure.of_walk Try.func44 rfl (by simp [Try.f44]) (by simp [-zd,go_sem]) fun B hK=>?_
  cases hg:Vm.B (AutOk a b.length c)
  all_goals (repeat' (first
 | refine Qt ?_
 | refine Qc (id:=0) Ja [] (by kernel_rfl) ?_;simp [-zg,-zd,↓Qb,↓Qa,go_sem];try (refine Xa hK 1 ?_;simp [go_sem])
 | refine Qc (id:=1) Ja [] (by kernel_rfl) ?_;simp [-zg,-zd,↓Qb,↓Qa,go_sem]
 | refine Qc (id:=2) Ja [] (by kernel_rfl) ?_;simp [-zg,-zd,↓Qb,↓Qa,go_sem,hg,hS]
 | refine Qc (id:=3) Ja [] (by kernel_rfl) ?_;simp [-zg,-zd,↓Qb,↓Qa,go_sem,lsL_no hg]
 | (have hG:AutOk a b.length c:=(by rw [B_iff] at hg;exact hg);obtain ⟨n1,n2,n3,n4⟩:=hG.sizes;(have hr:=hG.rng));refine Qc (id:=4) Ja [] (by kernel_rfl) ?_;simp [-zg,-zd,↓Qb,↓Qa,go_sem,hr,(show b.length ≤ 1048576 by omega),(show c.length ≤ 1048576 by omega)];try ((refine Xa hK 4 ?_);(simp [go_sem]);(have hx:=nxD_ok hr);(have hs:=nxD_nextS hr (by omega));(have hnl:=Yj b.length c c.length (Nat.le_refl _));(have hlv:livL (nxD b.length c c.length) b = lsL a b c:=(by rw [livL_same hr,zamh hg]));(obtain ⟨nx,hnx⟩:∃ nx,nxD b.length c c.length = nx:=⟨_,rfl⟩);(rw [hnx] at hx hs hnl hlv ⊢);(rw [← hlv]);(have hll:=zaip nx b))
 | refine Qc (id:=5) Ja [] (by kernel_rfl) ?_;simp [-zg,-zd,↓Qb,↓Qa,go_sem]
 | refine Qc (id:=6) Ja [] (by kernel_rfl) ?_;simp [-zg,-zd,↓Qb,↓Qa,go_sem]
 | ((have hnd:Nd nx (i:Int):=⟨by omega,by omega⟩);(have hst:Starts nx.length [(i:Int)]:=Starts.one hnd.1 hnd.2);(have hB:=Zq hx hst);(have hin:=hB.le));refine Qc (id:=8) Ja [] (by kernel_rfl) ?_;simp [-zg,-zd,↓Qb,↓Qa,go_sem,hx,hs,hnl,(show b.length ≤ 1048576 by omega),hst,(show Starts b.length [(i:Int)] from by rw [← hnl];exact hst),(show 1 ≤ b.length by omega),(show Is cI 1 [D.int .i64 (i:Int)] ↔ True by rw [Uo,is_cat];simp),(show de cI [D.int .i64 (i:Int)] = [(i:Int)] by rw [Uo,Qm])];try ((refine Xa hK 6 ?_);(simp [go_sem]);(have hmem:=fun y=>zanr hx hst (y:=y));(have hrg:=hB.rng);(obtain ⟨ns,hns⟩:∃ ns,(bfsE nx [(i:Int)]).2 = ns:=⟨_,rfl⟩);(rw [hns] at hin hrg ⊢);(simp only [hns] at hmem))
 | refine Qc (id:=9) Ja [] (by kernel_rfl) ?_;simp [-zg,-zd,↓Qb,↓Qa,go_sem]
 | refine Qc (id:=10) Ja [] (by kernel_rfl) ?_;simp [-zg,-zd,↓Qb,↓Qa,go_sem]
 | refine Qc (id:=11) Ja [31] (by kernel_rfl) ?_;simp [-zg,-zd,↓Qb,↓Qa,go_sem];try (refine ⟨fun s11a=>?_,fun s11a=>?_⟩ <;> (try simp [B_iff,B_not] at s11a) <;> try (refine ⟨fun s11b=>?_,fun s11b=>?_⟩ <;> (try simp [B_iff,B_not] at s11b)))
 | ((have hyl:y.1 < ns.length:=(by omega));(obtain ⟨u0,u1⟩:=hrg y.1 hyl);(obtain ⟨u,hu⟩:∃ u,nth ns y.1 = u:=⟨_,rfl⟩);(rw [hu] at u0 u1);(have hub:u.toNat < b.length:=(by omega));(have hyf:y.2 = false:=(by simp_all));(rw [hyf] at f2);(have f3:¬ ∃ j,j < y.1 ∧ Cyc nx (nth ns j) ∧ nth b (nth ns j).toNat = true:=(fun h=>by have:=f2.2 h;cases this));(have hnew:(∃ j,j < y.1 + 1 ∧ Cyc nx (nth ns j) ∧ nth b (nth ns j).toNat = true) ↔ Cyc nx u ∧ nth b u.toNat = true:=⟨fun ⟨j,h1,h2⟩=>(by by_cases e:j = y.1;(subst e;rw [hu] at h2;exact h2);exact absurd ⟨j,by omega,h2⟩ f3),fun h=>⟨y.1,by omega,by rw [hu];exact h⟩⟩));refine Xu (id:=13) Ja mixed [45] [] (by kernel_rfl) (by kernel_rfl) (by simp [-zg,-zd,↓Qb,↓Qa,go_sem,hyl,Qj hyl,zsP hyl,hu,u0,u1,hub,Qj hub,zsP hub,hx,hs,hnl,(show u < (b.length:Int) by omega),(show b.length ≤ 1048576 by omega)]) ?_;simp [-zg,-zd,↓Qb,↓Qa,go_sem,hyl,Qj hyl,zsP hyl,hu,u0,u1,hub,Qj hub,zsP hub,hx,hs,hnl,(show u < (b.length:Int) by omega),(show b.length ≤ 1048576 by omega)];try (refine ⟨fun s13a=>?_,fun s13a=>?_⟩ <;> (try simp [B_iff,B_not] at s13a) <;> try (refine ⟨fun s13b=>?_,fun s13b=>?_⟩ <;> (try simp [B_iff,B_not] at s13b)))
 | ((obtain ⟨v',hve,hv'⟩:∃ v',v' = (nth b u.toNat && Vm.B (Cyc nx u)) ∧ (v' = true ↔ ∃ j,j < y.1 + 1 ∧ Cyc nx (nth ns j) ∧ nth b (nth ns j).toNat = true):=⟨_,rfl,by rw [hnew,Bool.and_eq_true,B_iff];exact and_comm⟩);(simp only [s13a,Bool.true_and,Bool.false_and] at hve));refine Qc (id:=12) Ja [] (by kernel_rfl) ?_;simp [-zg,-zd,↓Qb,↓Qa,go_sem,wrapS (k:=y.1) (by omega)]
 | ((have hfin:y.2 = true ↔ Liv nx b [(i:Int)]:=(by rw [f2];constructor;(rintro ⟨j,j1,j2,j3⟩;(have hr2:=hrg j (by omega));exact ⟨nth ns j,⟨hr2.1,hr2.2⟩,(hmem _).1 (Xe (by omega)),j2,j3⟩);(rintro ⟨x,x1,x2,x3,x4⟩;by_cases hl2:y.2 = true;(exact f2.1 hl2);(have hl3:y.1 = ns.length:=(by first | omega | (exfalso;simp_all;done)));(obtain ⟨j,j1,j2⟩:=Js ((hmem x).2 x2));exact ⟨j,by omega,by rw [j2];exact x3,by rw [j2];exact x4⟩)));(have hv:nth (livL nx b) i = y.2:=(by rw [nth_livL (by omega),Bool.eq_iff_iff,B_iff];exact hfin.symm));(have htk:cat cB ((livL nx b).take i) ++ [.bool y.2] = cat cB ((livL nx b).take (i + 1)):=(by rw [List.take_succ_eq_append_getElem (by omega),Jk,Zz,← Ql,hv];rfl)));refine Qc (id:=14) Ja [] (by kernel_rfl) ?_;simp [-zg,-zd,↓Qb,↓Qa,go_sem,htk,(show i ≤ 9223372036854775806 by omega),(show 2 * (i + 1) * 1 ≤ 281474976710656 by omega),(show 2 * (i + 1) ≤ 281474976710656 by omega),(show i + 1 ≤ 9223372036854775807 by omega)]
 | refine Qc (id:=7) Ja [] (by kernel_rfl) ?_;simp [-zg,-zd,↓Qb,↓Qa,go_sem,wrapS (k:=i) (by omega)]
 | ((obtain rfl:i = b.length:=by omega));refine Qc (id:=15) Ja [] (by kernel_rfl) ?_;simp [-zg,-zd,↓Qb,↓Qa,go_sem,hll,hnl,(show (livL nx b).take b.length = livL nx b from List.take_of_length_le (by omega))]
 | refine Qd (c:=.tmp 12) ?_;simp [-zg,-zd,↓Qb,↓Qa,go_sem];try first | (refine ⟨?_,?_⟩ <;> refine zA ?_) | (refine ⟨fun c12=>?_,fun c12=>?_⟩ <;> (try simp [B_iff,B_not] at c12))
 | refine Qd (c:=.tmp 20) ?_;simp [-zg,-zd,↓Qb,↓Qa,go_sem];try first | (refine ⟨?_,?_⟩ <;> refine zA ?_) | (refine ⟨fun c20=>?_,fun c20=>?_⟩ <;> (try simp [B_iff,B_not] at c20))
 | refine Qd (c:=.tmp 34) ?_;simp [-zg,-zd,↓Qb,↓Qa,go_sem];try first | (refine ⟨?_,?_⟩ <;> refine zA ?_) | (refine ⟨fun c34=>?_,fun c34=>?_⟩ <;> (try simp [B_iff,B_not] at c34))
 | (refine Qe (id:=0) (Qy (ι:=Nat) (fun i:Nat=>⟨(upd (upd (upd (upd (fun _=>.any) 1 (.pd [li cI a,li cB b,li cT c])) 3 (.fr 1 i (cat cB ((livL nx b).take i)))) 4 (li cL nx)) 5 (.int .i64 i)),fun _=>none⟩) (fun i=>i ≤ b.length) (fun i=>b.length - i) (0) ?_ ?_ ?_);exact Nat.zero_le _;((repeat' (first | exact Qg (by assumption) | exact Qi | refine Qf ?_ ?_ | refine Qh ?_)) <;> simp [-zg,-zd,↓Qb,↓Qa,go_sem,List.take_zero,Xs,li,hnl]);rintro i hi)
 | (refine ⟨i + 1,by omega,by first | omega | (simp;done) | (simp;omega),?_⟩;((repeat' (first | exact Qg (by assumption) | exact Qi | refine Qf ?_ ?_ | refine Qh ?_)) <;> simp [-zg,-zd,↓Qb,↓Qa,go_sem,li,hnl]))
 | (refine Qe (id:=2) (Qy (ι:=Nat × Bool) (fun y:Nat × Bool=>⟨(upd (upd (upd (upd (upd (upd (upd (fun _=>.any) 1 (.pd [li cI a,li cB b,li cT c])) 3 (.fr 1 i (cat cB ((livL nx b).take i)))) 4 (li cL nx)) 5 (.int .i64 i)) 6 (li cI ns)) 7 (.bool y.2)) 8 (.int .i64 y.1)),fun _=>none⟩) (fun y=>y.1 ≤ ns.length ∧ (y.2 = true ↔ ∃ j,j < y.1 ∧ Cyc nx (nth ns j) ∧ nth b (nth ns j).toNat = true)) (fun y=>ns.length - y.1) ((0,false)) ?_ ?_ ?_);exact ⟨Nat.zero_le _,by simp⟩;((repeat' (first | exact Qg (by assumption) | exact Qi | refine Qf ?_ ?_ | refine Qh ?_)) <;> simp [-zg,-zd,↓Qb,↓Qa,go_sem,li,hnl]);rintro y ⟨f1,f2⟩)
 | (refine ⟨(y.1 + 1,v'),⟨by dsimp only;omega,hv'⟩,by first | omega | (simp;done) | (simp;omega),?_⟩;((repeat' (first | exact Qg (by assumption) | exact Qi | refine Qf ?_ ?_ | refine Qh ?_)) <;> simp [-zg,-zd,↓Qb,↓Qa,go_sem,li,hnl,hve]))
 | (refine Qe ?_)
 | (refine Qs ?_;simp [-zg,-zd,↓Qb,↓Qa,go_sem])
 | (refine Qr ?_;simp [-zg,-zd,↓Qb,↓Qa,go_sem])
 | (refine Qu ?_;simp [-zg,-zd,↓Qb,↓Qa,go_sem,Try.results44])
 | (intro hx;refine zA ?_)
 | (refine ⟨?_,?_⟩ <;> refine zA ?_)
 | (intro hx;constructor <;> intro hs)
 | (constructor <;> intro hs)
 | (refine ⟨?_,fun hs=>?_⟩;refine zA ?_)
 | (refine ⟨fun hs=>?_,?_⟩;rotate_left;refine zA ?_;rotate_left)))
@[go_sem] def zagb:Con:=.pure fun
  | [.st [.list n_a c_a,.list n_b c_b,.list n_c c_c]]=>((Is cI n_a c_a) ∧ (Is cB n_b c_b) ∧ (Is cT n_c c_c) ∧ (Xy (de cT c_c)),fr 1 cB (lsL (de cI c_a) (de cB c_b) (de cT c_c)))
  | _=>(False,.any)
theorem zaoc:ConOk Try.prog 44 zagb:=by
  refine ⟨Qp Try.func44 (by decide) rfl,fun args h=>?_⟩
  revert h
  dsimp only
  split
  · intro h
    obtain ⟨⟨a,rfl,rfl⟩,⟨b,rfl,rfl⟩,⟨c,rfl,rfl⟩,hS⟩:=h
    try simp only [Qm] at *
    exact ⟨specLs_pure a b c hS,by simp [go_sem]⟩
  · intro h
    exact h.elim
@[go_sem] def Γn13:FuncId → Con:=ext Γn12 44 zagb
theorem Wc:∀ g,ConOk Try.prog g (Γn13 g):=Qo Ja zaoc

end
end Go.Proofs.Ytkjimmkemnmajaa.Vm

