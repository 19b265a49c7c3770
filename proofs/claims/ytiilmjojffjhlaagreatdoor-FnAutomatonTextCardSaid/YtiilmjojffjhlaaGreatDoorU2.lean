import Derived.Test.YtiilmjojffjhlaaGreatDoorN6
/-
  Marks in automata and rows of Bools. No conditions.
-/
namespace Go.Proofs.YtiilmjojffjhlaaGreatDoor.Vm
open Go
open List renaming getD_eq_getElem?_getD → zg,drop_one → zd
open Ne renaming symm → zS
noncomputable section
set_option linter.unusedVariables false
set_option linter.unusedSimpArgs false
set_option maxRecDepth 200000

def bm (k:Int):Bool:=decide (k.tmod 3 = 0)
def Zn (k:Int) (n:Nat):List Bool:=(List.range n).map fun (i:Nat)=>bm (k + i)
@[go_sem] theorem zakz (k:Int) (n:Nat):(Zn k n).length = n:=by simp [Zn]
def mkB (k:Int) (xs:List Bool) (i:Nat):List Bool:=Zn k i ++ xs.drop i
theorem mkB_zero (k:Int) (xs:List Bool):mkB k xs 0 = xs:=by simp [mkB,Zn]
theorem mkB_all (k:Int) (xs:List Bool):mkB k xs xs.length = Zn k xs.length:=by simp [mkB]
theorem mkB_len {k:Int} {xs:List Bool} {i:Nat} (h:i < xs.length):(mkB k xs i).length = xs.length:=by simp [mkB,zakz];omega
theorem mkB_set {k:Int} {xs:List Bool} {i:Nat} (h:i < xs.length):(mkB k xs i).set i (decide ((k + (i:Int)).tmod 3 = 0)) = mkB k xs (i + 1):=by
  have m:Zn k (i + 1) = Zn k i ++ [bm (k + i)]:=by simp [Zn,List.range_succ]
  unfold mkB
  rw [List.drop_eq_getElem_cons h,set_mid (by rw [zakz]),m]
  simp [bm]
theorem markB_spec (xs:List Bool) (k:Int) (b cp:Nat) (junk:List D) (H:Hp) (hH:H b = some (cat cB xs ++ junk)) (h0:0 ≤ k) (h1:k + xs.length ≤ 1099511627776) :
    Spec Tryz.prog 37 [.sl b 1 0 xs.length cp,.int .i64 k] H (.int .i64 (k + xs.length)) (upd H b (some (cat cB (Zn k xs.length) ++ junk))):=by
  refine Spec.of_walk Tryz.func37 rfl (by simp [Tryz.f37]) fun B=>?_
  (repeat' (first
 | refine Qs ?_
 | refine Qc (id:=0) Zk [] (by kernel_rfl) ?_;simp [-zg,-zd,↓Qb,↓Qa,go_sem]
 | refine Qc (id:=1) Zk [] (by kernel_rfl) ?_;simp [-zg,-zd,↓Qb,↓Qa,go_sem]
 | refine Qc (id:=2) Zk [] (by kernel_rfl) ?_;simp [-zg,-zd,↓Qb,↓Qa,go_sem]
 | refine Qc (id:=4) Zk [] (by kernel_rfl) ?_;simp [-zg,-zd,↓Qb,↓Qa,go_sem,c9,Qi c9,Nat.sub_pos_of_lt c9,mkB_len c9,mkB_set c9,(show i + 1 ≤ xs.length + junk.length by omega),(show i < xs.length + junk.length by omega)]
 | refine Qc (id:=5) Zk [] (by kernel_rfl) ?_;simp [-zg,-zd,↓Qb,↓Qa,go_sem,wrap_in (x:=k + (i:Int) + 1) (by omega) (by omega)]
 | refine Qc (id:=3) Zk [] (by kernel_rfl) ?_;simp [-zg,-zd,↓Qb,↓Qa,go_sem,wrapS (k:=i) (by omega)]
 | refine Qc (id:=6) Zk [] (by kernel_rfl) ?_;simp [-zg,-zd,↓Qb,↓Qa,go_sem]
 | refine Qe (c:=.tmp 9) ?_;simp [-zg,-zd,↓Qb,↓Qa,go_sem];try first | (refine ⟨?_,?_⟩ <;> refine zA ?_) | (refine ⟨fun c9=>?_,fun c9=>?_⟩ <;> (try simp [B_iff,B_not] at c9))
 | (refine Qf (id:=0) (Qz (ι:=Nat) (fun i:Nat=>⟨(upd (upd (upd (fun _=>.any) 0 (.sl b 1 0 xs.length cp)) 1 (.int .i64 (k + i))) 5 (.int .i64 i)),upd H b (some (cat cB (mkB k xs i) ++ junk))⟩) (fun i=>i ≤ xs.length) (fun i=>xs.length - i) (0) ?_ ?_ ?_);exact Nat.zero_le _;((repeat' (first | exact Qk (by assumption) | exact Qm | refine Qj ?_ ?_ | refine Ql ?_)) <;> simp [-zg,-zd,↓Qb,↓Qa,go_sem,mkB_zero,Vf hH]);rintro i hi)
 | (refine ⟨i + 1,by omega,by first | omega | (simp;done) | (simp;omega),?_⟩;((repeat' (first | exact Qk (by assumption) | exact Qm | refine Qj ?_ ?_ | refine Ql ?_)) <;> simp [-zg,-zd,↓Qb,↓Qa,go_sem,(show k + ((i:Int) + 1) = k + (i:Int) + 1 by omega),(show k + ((i + 1:Nat):Int) = k + (i:Int) + 1 by omega)]))
 | (refine Qf ?_)
 | (refine Qr ?_;simp [-zg,-zd,↓Qb,↓Qa,go_sem])
 | (refine Qq ?_;simp [-zg,-zd,↓Qb,↓Qa,go_sem])
 | (refine Qt ?_;simp [-zg,-zd,↓Qb,↓Qa,go_sem,Tryz.results37])
 | (intro hx;refine zA ?_)
 | (refine ⟨?_,?_⟩ <;> refine zA ?_)
 | (intro hx;constructor <;> intro hs)
 | (constructor <;> intro hs)
 | (refine ⟨?_,fun hs=>?_⟩;refine zA ?_)
 | (refine ⟨fun hs=>?_,?_⟩;rotate_left;refine zA ?_;rotate_left)))
  all_goals (first
 | (obtain rfl:i = xs.length:=(by omega);rw [mkB_all];exact ⟨rfl,fun _ _ h=>h⟩)
 | skip)
theorem markBNil_spec (k:Int) (H:Hp):Spec Tryz.prog 37 [.nil,.int .i64 k] H (.int .i64 k) H:=by
  refine Spec.of_walk Tryz.func37 rfl (by simp [Tryz.f37]) fun B=>?_
  (repeat' (first
 | refine Qs ?_
 | refine Qc (id:=0) Zk [] (by kernel_rfl) ?_;simp [-zg,-zd,↓Qb,↓Qa,go_sem]
 | refine Qc (id:=1) Zk [] (by kernel_rfl) ?_;simp [-zg,-zd,↓Qb,↓Qa,go_sem]
 | refine Qc (id:=2) Zk [] (by kernel_rfl) ?_;simp [-zg,-zd,↓Qb,↓Qa,go_sem]
 | refine Qc (id:=4) Zk [] (by kernel_rfl) ?_;simp [-zg,-zd,↓Qb,↓Qa,go_sem]
 | refine Qc (id:=5) Zk [] (by kernel_rfl) ?_;simp [-zg,-zd,↓Qb,↓Qa,go_sem]
 | refine Qc (id:=3) Zk [] (by kernel_rfl) ?_;simp [-zg,-zd,↓Qb,↓Qa,go_sem]
 | refine Qc (id:=6) Zk [] (by kernel_rfl) ?_;simp [-zg,-zd,↓Qb,↓Qa,go_sem]
 | refine Qe (c:=.tmp 9) ?_;simp [-zg,-zd,↓Qb,↓Qa,go_sem];try first | (refine ⟨?_,?_⟩ <;> refine zA ?_) | (refine ⟨fun c9=>?_,fun c9=>?_⟩ <;> (try simp [B_iff,B_not] at c9))
 | (refine Qf (id:=0) (Qz (ι:=Unit) (fun i:Unit=>⟨(upd (upd (upd (fun _=>.any) 0 (.nil)) 1 (.int .i64 k)) 5 (.int .i64 0)),H⟩) (fun i=>True) (fun i=>0) (()) ?_ ?_ ?_);exact trivial;((repeat' (first | exact Qk (by assumption) | exact Qm | refine Qj ?_ ?_ | refine Ql ?_)) <;> simp [-zg,-zd,↓Qb,↓Qa,go_sem]);rintro i hi)
 | (refine ⟨(),trivial,by first | omega | (simp;done) | (simp;omega),?_⟩;((repeat' (first | exact Qk (by assumption) | exact Qm | refine Qj ?_ ?_ | refine Ql ?_)) <;> simp [-zg,-zd,↓Qb,↓Qa,go_sem]))
 | (refine Qf ?_)
 | (refine Qr ?_;simp [-zg,-zd,↓Qb,↓Qa,go_sem])
 | (refine Qq ?_;simp [-zg,-zd,↓Qb,↓Qa,go_sem])
 | (refine Qt ?_;simp [-zg,-zd,↓Qb,↓Qa,go_sem,Tryz.results37])
 | (intro hx;refine zA ?_)
 | (refine ⟨?_,?_⟩ <;> refine zA ?_)
 | (intro hx;constructor <;> intro hs)
 | (constructor <;> intro hs)
 | (refine ⟨?_,fun hs=>?_⟩;refine zA ?_)
 | (refine ⟨fun hs=>?_,?_⟩;rotate_left;refine zA ?_;rotate_left)
 | (exfalso;omega)))
@[go_sem] def markBC:Con:=.gen fun args H=>match args with
  | [.sl b 1 0 n _,.int .i64 k]=>match H b with
    | some all=>(n ≤ all.length ∧ Is cB n (all.take n) ∧ 0 ≤ k ∧ k + n ≤ 1099511627776,.int .i64 (k + n),upd H b (some (cat cB (Zn k n) ++ all.drop n)))
    | none=>(False,.any,H)
  | [.nil,.int .i64 k]=>(True,.int .i64 k,H)
  | _=>(False,.any,H)
theorem markBC_ok:ConOk Tryz.prog 37 markBC:=by
  refine ⟨Qo Tryz.func37 (by decide) rfl,fun args H h=>?_⟩
  revert h
  dsimp only
  split
  · rename_i b n cp k
    split
    · rename_i all hH
      rintro ⟨g1,⟨xs,hn,he⟩,g2,g3⟩
      subst hn
      have:all = cat cB xs ++ all.drop xs.length:=by rw [← he,List.take_append_drop]
      rw [this] at hH
      have:=markB_spec xs k b cp _ H hH g2 g3
      exact this
    · intro h;exact h.elim
  · intro _
    exact markBNil_spec _ H
  · intro h
    exact h.elim
@[go_sem] def Γn7:FuncId → Con:=ext Γn6 37 markBC
theorem Γn7_ok:∀ g,ConOk Tryz.prog g (Γn7 g):=Qn Zk markBC_ok

def heldB (k:Int) (xs:List Bool):Int:=if xs = Zn k xs.length then k + xs.length else -1
@[go_sem] theorem heldB_marks (k:Int) (n:Nat):heldB k (Zn k n) = k + n:=by simp [heldB,zakz]
@[go_sem] theorem heldB_nil (k:Int):heldB k [] = k:=by simp [heldB,Zn]
@[go_sem] def Γn8:FuncId → Con:=Γn7
theorem Zq:∀ g,ConOk Tryz.prog g (Γn8 g):=Γn7_ok

structure MT (b:Nat) (all:List D) (H H1:Hp):Prop where
  here:∃ cs,H1 b = some cs ∧ cs.length = all.length
  rest:∀ z cs,¬ z = b → H z = some cs → H1 z = some cs
theorem MT.set {b:Nat} {all:List D} {H H1 H2:Hp} (h:MT b all H H1) {cs:List D} {i:Nat} {d:D} (h2:H2 b = some (cs.set i d)) (hl:cs.length = all.length) (h3:∀ z,¬ z = b → H2 z = H1 z):MT b all H H2 :=
  ⟨⟨_,h2,by rw [List.length_set,hl]⟩,fun z cs hz k=>by rw [h3 z hz];exact h.rest z cs hz k⟩
theorem markT_spec (n:Nat) (k:Int) (b cp:Nat) (all:List D) (H:Hp) (hH:H b = some all) (hn:n * 4 ≤ all.length) (hn2:n ≤ 1048576) (h0:0 ≤ k) (h1:k + 4 * n ≤ 1099511627776) :
    Spec Tryz.prog 38 [.sl b 4 0 n cp,.int .i64 k] H (.int .i64 (k + 4 * n)) (upd H b none):=by
  refine Spec.of_walk Tryz.func38 rfl (by simp [Tryz.f38]) fun B=>?_
  (repeat' (first
 | refine Qs ?_
 | refine Qc (id:=0) Zq [] (by kernel_rfl) ?_;simp [-zg,-zd,↓Qb,↓Qa,go_sem]
 | refine Qc (id:=1) Zq [] (by kernel_rfl) ?_;simp [-zg,-zd,↓Qb,↓Qa,go_sem]
 | refine Qc (id:=2) Zq [] (by kernel_rfl) ?_;simp [-zg,-zd,↓Qb,↓Qa,go_sem]
 | ((obtain ⟨⟨cs,w1,w2⟩,w3⟩:=g2));refine Qc (id:=4) Zq [] (by kernel_rfl) ?_;simp [-zg,-zd,↓Qb,↓Qa,go_sem,w1,w2,c9,(show q.1 * 4 + 4 ≤ all.length by omega),(show q.1 * 4 < all.length by omega),(show q.1 * 4 + 1 ≤ all.length by omega)];try ((refine Qx (fun H1=>MT b all H H1) (MT.set (cs:=cs) ⟨⟨cs,w1,w2⟩,w3⟩ (by simp [upd,Ut];rfl) (by assumption) (by intro z hz;simp [upd,hz])) fun H1 t1=>?_))
 | refine Qc (id:=5) Zq [] (by kernel_rfl) ?_;simp [-zg,-zd,↓Qb,↓Qa,go_sem,wrap_in (x:=k + 4 * (q.1:Int) + 1) (by omega) (by omega)]
 | ((obtain ⟨⟨cs1,w11,w12⟩,w13⟩:=t1));refine Qc (id:=6) Zq [] (by kernel_rfl) ?_;simp [-zg,-zd,↓Qb,↓Qa,go_sem,w11,w12,c9,(show q.1 * 4 + 4 ≤ all.length by omega),(show q.1 * 4 + 1 < all.length by omega),(show q.1 * 4 + 1 + 1 ≤ all.length by omega)];try ((refine Qx (fun H1=>MT b all H H1) (MT.set (cs:=cs1) ⟨⟨cs1,w11,w12⟩,w13⟩ (by simp [upd,Ut];rfl) (by assumption) (by intro z hz;simp [upd,hz])) fun H2 t2=>?_))
 | refine Qc (id:=7) Zq [] (by kernel_rfl) ?_;simp [-zg,-zd,↓Qb,↓Qa,go_sem,wrap_in (x:=k + 4 * (q.1:Int) + 1 + 1) (by omega) (by omega)]
 | ((obtain ⟨⟨cs2,w21,w22⟩,w23⟩:=t2));refine Qc (id:=8) Zq [] (by kernel_rfl) ?_;simp [-zg,-zd,↓Qb,↓Qa,go_sem,w21,w22,c9,(show q.1 * 4 + 4 ≤ all.length by omega),(show q.1 * 4 + 2 < all.length by omega),(show q.1 * 4 + 2 + 1 ≤ all.length by omega)];try ((refine Qx (fun H1=>MT b all H H1) (MT.set (cs:=cs2) ⟨⟨cs2,w21,w22⟩,w23⟩ (by simp [upd,Ut];rfl) (by assumption) (by intro z hz;simp [upd,hz])) fun H3 t3=>?_))
 | refine Qc (id:=9) Zq [] (by kernel_rfl) ?_;simp [-zg,-zd,↓Qb,↓Qa,go_sem,wrap_in (x:=k + 4 * (q.1:Int) + 1 + 1 + 1) (by omega) (by omega)]
 | ((obtain ⟨⟨cs3,w31,w32⟩,w33⟩:=t3));refine Qc (id:=10) Zq [] (by kernel_rfl) ?_;simp [-zg,-zd,↓Qb,↓Qa,go_sem,w31,w32,c9,(show q.1 * 4 + 4 ≤ all.length by omega),(show q.1 * 4 + 3 < all.length by omega),(show q.1 * 4 + 3 + 1 ≤ all.length by omega)];try ((refine Qx (fun H1=>MT b all H H1) (MT.set (cs:=cs3) ⟨⟨cs3,w31,w32⟩,w33⟩ (by simp [upd,Ut];rfl) (by assumption) (by intro z hz;simp [upd,hz])) fun H9 t4=>?_))
 | refine Qc (id:=11) Zq [] (by kernel_rfl) ?_;simp [-zg,-zd,↓Qb,↓Qa,go_sem,wrap_in (x:=k + 4 * (q.1:Int) + 1 + 1 + 1 + 1) (by omega) (by omega)]
 | refine Qc (id:=3) Zq [] (by kernel_rfl) ?_;simp [-zg,-zd,↓Qb,↓Qa,go_sem,wrapS (k:=q.1) (by omega)]
 | refine Qc (id:=12) Zq [] (by kernel_rfl) ?_;simp [-zg,-zd,↓Qb,↓Qa,go_sem]
 | refine Qe (c:=.tmp 9) ?_;simp [-zg,-zd,↓Qb,↓Qa,go_sem];try first | (refine ⟨?_,?_⟩ <;> refine zA ?_) | (refine ⟨fun c9=>?_,fun c9=>?_⟩ <;> (try simp [B_iff,B_not] at c9))
 | (refine Qf (id:=0) (Qz (ι:=Nat × Hp) (fun q:Nat × Hp=>⟨(upd (upd (upd (fun _=>.any) 0 (.sl b 4 0 n cp)) 1 (.int .i64 (k + 4 * q.1))) 5 (.int .i64 q.1)),q.2⟩) (fun q=>q.1 ≤ n ∧ MT b all H q.2) (fun q=>n - q.1) ((0,H)) ?_ ?_ ?_);exact ⟨Nat.zero_le _,⟨⟨all,hH,rfl⟩,fun z cs hz h=>h⟩⟩;((repeat' (first | exact Qk (by assumption) | exact Qm | refine Qj ?_ ?_ | refine Ql ?_)) <;> simp [-zg,-zd,↓Qb,↓Qa,go_sem]);rintro q ⟨g1,g2⟩)
 | (refine ⟨(q.1 + 1,H9),⟨by dsimp only;omega,t4⟩,by first | omega | (simp;done) | (simp;omega),?_⟩;((repeat' (first | exact Qk (by assumption) | exact Qm | refine Qj ?_ ?_ | refine Ql ?_)) <;> simp [-zg,-zd,↓Qb,↓Qa,go_sem,(show k + 4 * ((q.1:Int) + 1) = k + 4 * (q.1:Int) + 1 + 1 + 1 + 1 by omega),(show k + 4 * ((q.1 + 1:Nat):Int) = k + 4 * (q.1:Int) + 1 + 1 + 1 + 1 by omega)]))
 | (refine Qf ?_)
 | (refine Qr ?_;simp [-zg,-zd,↓Qb,↓Qa,go_sem])
 | (refine Qq ?_;simp [-zg,-zd,↓Qb,↓Qa,go_sem])
 | (refine Qt ?_;simp [-zg,-zd,↓Qb,↓Qa,go_sem,Tryz.results38])
 | (intro hx;refine zA ?_)
 | (refine ⟨?_,?_⟩ <;> refine zA ?_)
 | (intro hx;constructor <;> intro hs)
 | (constructor <;> intro hs)
 | (refine ⟨?_,fun hs=>?_⟩;refine zA ?_)
 | (refine ⟨fun hs=>?_,?_⟩;rotate_left;refine zA ?_;rotate_left)))
  all_goals (first
 | (exact ⟨by omega,fun z cs hz h=>g2.rest z cs hz h⟩)
 | (have e:q.1 = n:=(by omega);rw [e];refine ⟨rfl,fun z cs h=>?_⟩;by_cases ez:z = b;(subst ez;simp [upd] at h);(rw [Qd ez] at h;exact g2.rest z cs ez h))
 | (have e:q.1 = n:=(by omega);rw [e];refine ⟨rfl,fun z cs h=>?_⟩;by_cases ez:z = b;(subst ez;simp at h);(simp [ez] at h;exact g2.rest z cs ez h))
 | skip)
@[go_sem] def markTC:Con:=.gen fun args H=>match args with
  | [.sl b 4 0 n _,.int .i64 k]=>match H b with
    | some all=>(n * 4 ≤ all.length ∧ n ≤ 1048576 ∧ 0 ≤ k ∧ k + 4 * n ≤ 1099511627776,.int .i64 (k + 4 * n),upd H b none)
    | none=>(False,.any,H)
  | _=>(False,.any,H)
theorem markTC_ok:ConOk Tryz.prog 38 markTC:=by
  refine ⟨Qo Tryz.func38 (by decide) rfl,fun args H h=>?_⟩
  revert h
  dsimp only
  split
  · rename_i b n cp k
    split
    · rename_i all hH
      rintro ⟨g1,g2,g3,g4⟩
      exact markT_spec n k b cp all H hH g1 g2 g3 g4
    · intro h;exact h.elim
  · intro h
    exact h.elim
@[go_sem] def Γn9:FuncId → Con:=ext Γn8 38 markTC
theorem zanf:∀ g,ConOk Tryz.prog g (Γn9 g):=Qn Zq markTC_ok

set_option maxHeartbeats 2000000 in
theorem markA_spec (a:List Int) (b:List Bool) (n:Nat) (k:Int) (b1 b2 b3 c1 c2 c3:Nat) (j1 j2 all:List D) (H:Hp) (h1:H b1 = some (cat cI a ++ j1)) (h2:H b2 = some (cat cB b ++ j2)) (h3:H b3 = some all) (n12:¬ b1 = b2) (n13:¬ b1 = b3) (n23:¬ b2 = b3) (hn:n * 4 ≤ all.length) (hn2:n ≤ 1048576) (h0:0 ≤ k) (hk:k + a.length + b.length + 4 * n ≤ 1099511627776) :
    Spec Tryz.prog 9 [.st [.sl b1 1 0 a.length c1,.sl b2 1 0 b.length c2,.sl b3 4 0 n c3],.int .i64 k] H (.int .i64 (k + a.length + b.length + 4 * n)) (upd (upd (upd H b1 none) b2 none) b3 none):=by
  refine Spec.of_walk Tryz.func9 rfl (by simp [Tryz.f9]) fun B=>?_
  (repeat' (first
 | refine Qs ?_
 | refine Qc (id:=0) zanf [] (by kernel_rfl) ?_;simp [-zg,-zd,↓Qb,↓Qa,go_sem];try (refine Jd 2 rfl fun b0 hb0=>?_;have m1:¬ b1 = b0:=(by rintro rfl;dsimp only at hb0;rw [h1] at hb0;cases hb0);have m2:¬ b2 = b0:=(by rintro rfl;dsimp only at hb0;rw [h2] at hb0;cases hb0);have m3:¬ b3 = b0:=(by rintro rfl;dsimp only at hb0;rw [h3] at hb0;cases hb0))
 | refine Qc (id:=1) zanf [] (by kernel_rfl) ?_;simp [-zg,-zd,↓Qb,↓Qa,go_sem,m1,h1,h0,(show k + (a.length:Int) ≤ 1099511627776 by omega)]
 | refine Qc (id:=2) zanf [] (by kernel_rfl) ?_;simp [-zg,-zd,↓Qb,↓Qa,go_sem,m1,m2,zS m1,zS m2,n12,zS n12,h2,(show 0 ≤ k + (a.length:Int) by omega),(show k + (a.length:Int) + (b.length:Int) ≤ 1099511627776 by omega)]
 | refine Qc (id:=3) zanf [] (by kernel_rfl) ?_;simp [-zg,-zd,↓Qb,↓Qa,go_sem,m1,m2,m3,zS m1,zS m2,zS m3,n12,zS n12,n13,zS n13,n23,zS n23,h3,hn,hn2,(show 0 ≤ k + (a.length:Int) + (b.length:Int) by omega),hk]
 | refine Qc (id:=4) zanf [] (by kernel_rfl) ?_;simp [-zg,-zd,↓Qb,↓Qa,go_sem]
 | (refine Qf ?_)
 | (refine Qr ?_;simp [-zg,-zd,↓Qb,↓Qa,go_sem])
 | (refine Qq ?_;simp [-zg,-zd,↓Qb,↓Qa,go_sem])
 | (refine Qt ?_;simp [-zg,-zd,↓Qb,↓Qa,go_sem,Tryz.results9])
 | (intro hx;refine zA ?_)
 | (refine ⟨?_,?_⟩ <;> refine zA ?_)
 | (intro hx;constructor <;> intro hs)
 | (constructor <;> intro hs)
 | (refine ⟨?_,fun hs=>?_⟩;refine zA ?_)
 | (refine ⟨fun hs=>?_,?_⟩;rotate_left;refine zA ?_;rotate_left)))
  all_goals (first
 | (intro b' cs' h;dsimp only at hb0;by_cases e3:b' = b3 <;> by_cases e2:b' = b2 <;> by_cases e1:b' = b1 <;> by_cases e0:b' = b0 <;> simp_all)
 | skip)
@[go_sem] def markAC:Con:=.gen fun args H=>match args with
  | [.st [.sl b1 1 0 n _,.sl b2 1 0 m _,.sl b3 4 0 o _],.int .i64 k]=>match H b1,H b2,H b3 with
    | some a1,some a2,some a3=>(¬ b1 = b2 ∧ ¬ b1 = b3 ∧ ¬ b2 = b3 ∧ n ≤ a1.length ∧ m ≤ a2.length ∧ Is cI n (a1.take n) ∧ Is cB m (a2.take m) ∧ o * 4 ≤ a3.length ∧ o ≤ 1048576 ∧ 0 ≤ k ∧ k + n + m + 4 * o ≤ 1099511627776,
        .int .i64 (k + n + m + 4 * o),upd (upd (upd H b1 none) b2 none) b3 none)
    | _,_,_=>(False,.any,H)
  | _=>(False,.any,H)
theorem markAC_ok:ConOk Tryz.prog 9 markAC:=by
  refine ⟨Qo Tryz.func9 (by decide) rfl,fun args H h=>?_⟩
  revert h
  dsimp only
  split
  · rename_i b1 n c1 b2 m c2 b3 o c3 k
    split
    · rename_i a1 a2 a3 hH1 hH2 hH3
      rintro ⟨g1,g2,g3,g4,g5,⟨xs,hn,he⟩,⟨ys,hm,hf⟩,g6,g7,g8,g9⟩
      subst hn hm
      have e1:a1 = cat cI xs ++ a1.drop xs.length:=by rw [← he,List.take_append_drop]
      have e2:a2 = cat cB ys ++ a2.drop ys.length:=by rw [← hf,List.take_append_drop]
      rw [e1] at hH1
      rw [e2] at hH2
      exact markA_spec xs ys o k b1 b2 b3 c1 c2 c3 _ _ _ H hH1 hH2 hH3 g1 g2 g3 g6 g7 g8 g9
    · intro h;exact h.elim
  · intro h
    exact h.elim
@[go_sem] def Γn10:FuncId → Con:=ext Γn9 9 markAC
theorem Γn10_ok:∀ g,ConOk Tryz.prog g (Γn10 g):=Qn zanf markAC_ok

def gd (nx:List (List Int)) (acc:List Bool) (s:Int) (i:Nat):Prop:=RchS nx [s] (i:Int) ∧ Cyc nx (i:Int) ∧ nth acc i = true
structure LV (b5 j5:Nat) (nx:List (List Int)) (acc:List Bool) (k j:Nat) (H:Hp):Prop where
  w:∃ v,H b5 = some (cat cB ((prtB (livL nx acc) k).set k v) ++ List.replicate j5 .any) ∧ (v = true ↔ ∃ i,i < j ∧ gd nx acc (k:Int) i)
theorem LV.next {b5 j5:Nat} {nx:List (List Int)} {acc:List Bool} {k j:Nat} {H2:Hp} {v v':Bool} (h:v = true ↔ ∃ i,i < j ∧ gd nx acc (k:Int) i) (h2:H2 b5 = some (cat cB (((prtB (livL nx acc) k).set k v).set k v') ++ List.replicate j5 .any)) (hv:v' = true ↔ v = true ∨ gd nx acc (k:Int) j):LV b5 j5 nx acc k (j + 1) H2:=by
  refine ⟨v',by rw [h2,List.set_set],?_⟩
  rw [hv,h]
  constructor
  · rintro (⟨i,h1,h2⟩ | q)
    · exact ⟨i,by omega,h2⟩
    · exact ⟨j,by omega,q⟩
  · rintro ⟨i,h1,h2⟩
    by_cases e:i = j
    · subst e;exact .inr h2
    · exact .inl ⟨i,by omega,h2⟩
@[go_sem] def Γn11:FuncId → Con:=Γn10
theorem Γn11_ok:∀ g,ConOk Tryz.prog g (Γn11 g):=Γn10_ok

theorem AutOk.rng {a:List Int} {n:Nat} {c:List Tr4} (h:AutOk a n c):InRng n c:=fun i hi=>by
  obtain ⟨g1,g2,g3,g4,_⟩:=h.2.2.2.2 i hi
  exact ⟨⟨g1,g2⟩,g3,g4⟩
theorem AutOk.sizes {a:List Int} {n:Nat} {c:List Tr4} (h:AutOk a n c):1 ≤ n ∧ n ≤ 64 ∧ a.length ≤ n ∧ c.length ≤ 2048:=⟨h.1,h.2.1,sorted_len h.2.2.1,h.2.2.2.1⟩
@[go_sem] def Γn12:FuncId → Con:=Γn11
theorem Γn12_ok:∀ g,ConOk Tryz.prog g (Γn12 g):=Γn11_ok

@[go_sem] def Γn13:FuncId → Con:=Γn12
theorem Γn13_ok:∀ g,ConOk Tryz.prog g (Γn13 g):=Γn12_ok

@[go_sem] def Γu0:FuncId → Con:=Γn13
theorem Γu0_ok:∀ g,ConOk Tryz.prog g (Γu0 g):=Γn13_ok

theorem clipB_spec (xs:List Bool) (H:Hp):Spec Tryz.prog 89 [fr 1 cB xs] H (fr 1 cB xs) H:=by
  refine Spec.of_walk Tryz.func89 rfl (by simp [Tryz.f89]) fun B=>?_
  refine Vl 0 rfl fun b cp j hb hcp hj=>?_
  (repeat' (first
 | refine Qs ?_
 | refine Qc (id:=0) Γu0_ok [] (by kernel_rfl) ?_;simp [-zg,-zd,↓Qb,↓Qa,go_sem]
 | refine Qc (id:=1) Γu0_ok [] (by kernel_rfl) ?_;simp [-zg,-zd,↓Qb,↓Qa,go_sem,hcp,Vr];try (refine zaiw 2 (b:=b) (all:=cat cB xs ++ List.replicate j .any) rfl (by simp [go_sem]) (by omega) (by simp [Qv]) (by simp [Qv]) ?_)
 | (refine Qf ?_)
 | (refine Qr ?_;simp [-zg,-zd,↓Qb,↓Qa,go_sem])
 | (refine Qq ?_;simp [-zg,-zd,↓Qb,↓Qa,go_sem])
 | (refine Qt ?_;simp [-zg,-zd,↓Qb,↓Qa,go_sem,Tryz.results89])
 | (intro hx;refine zA ?_)
 | (refine ⟨?_,?_⟩ <;> refine zA ?_)
 | (intro hx;constructor <;> intro hs)
 | (constructor <;> intro hs)
 | (refine ⟨?_,fun hs=>?_⟩;refine zA ?_)
 | (refine ⟨fun hs=>?_,?_⟩;rotate_left;refine zA ?_;rotate_left)))
  all_goals (intro b' cs' h;refine ⟨?_,h⟩;rintro rfl;dsimp only at hb;rw [h] at hb;cases hb)
@[go_sem] def clipBC:Con:=.gen fun args H=>match args with
  | [.fr 1 n cs]=>(Is cB n cs,fr 1 cB (de cB cs),H)
  | _=>(False,.any,H)
theorem clipBC_ok:ConOk Tryz.prog 89 clipBC:=by
  refine ⟨Qo Tryz.func89 (by decide) rfl,fun args H h=>?_⟩
  revert h
  dsimp only
  split
  · rintro ⟨xs,rfl,rfl⟩
    rw [Qp]
    exact clipB_spec xs H
  · intro h
    exact h.elim
@[go_sem] def Γu1:FuncId → Con:=ext Γu0 89 clipBC
theorem Γu1_ok:∀ g,ConOk Tryz.prog g (Γu1 g):=Qn Γu0_ok clipBC_ok

theorem CloneB_pure (xs:List Bool) (h0:xs.length ≤ 1048576):Pure Tryz.prog 90 [li cB xs] (fr 1 cB xs):=by
  refine Pure.of_walk Tryz.func90 rfl (by simp [Tryz.f90]) (by simp [-zd,go_sem]) fun B hK=>?_
  by_cases hn:xs = []
  all_goals (repeat' (first
 | refine Qs ?_
 | refine Qc (id:=0) Γu1_ok [] (by kernel_rfl) ?_;simp [-zg,-zd,↓Qb,↓Qa,go_sem,hn]
 | refine Qc (id:=1) Γu1_ok [] (by kernel_rfl) ?_;simp [-zg,-zd,↓Qb,↓Qa,go_sem,hn]
 | refine Qc (id:=2) Γu1_ok [] (by kernel_rfl) ?_;simp [-zg,-zd,↓Qb,↓Qa,go_sem,hn];try (try (refine zamh 2 1 rfl ?_))
 | refine Qc (id:=3) Γu1_ok [] (by kernel_rfl) ?_;simp [-zg,-zd,↓Qb,↓Qa,go_sem,(by omega:xs.length ≤ 9223372036854775807),(by omega:2 * xs.length * 1 ≤ 281474976710656),(by omega:2 * xs.length ≤ 281474976710656),hn]
 | refine Qe (c:=.tmp 4) ?_;simp [-zg,-zd,↓Qb,↓Qa,go_sem,hn];try first | (refine ⟨?_,?_⟩ <;> refine zA ?_) | (refine ⟨fun c4=>?_,fun c4=>?_⟩ <;> (try simp [B_iff,B_not] at c4))
 | (refine Qf ?_)
 | (refine Qr ?_;simp [-zg,-zd,↓Qb,↓Qa,go_sem])
 | (refine Qq ?_;simp [-zg,-zd,↓Qb,↓Qa,go_sem])
 | (refine Qt ?_;simp [-zg,-zd,↓Qb,↓Qa,go_sem,Tryz.results90,hn])
 | (intro hx;refine zA ?_)
 | (refine ⟨?_,?_⟩ <;> refine zA ?_)
 | (intro hx;constructor <;> intro hs)
 | (constructor <;> intro hs)
 | (refine ⟨?_,fun hs=>?_⟩;refine zA ?_)
 | (refine ⟨fun hs=>?_,?_⟩;rotate_left;refine zA ?_;rotate_left)))
@[go_sem] def zagw:Con:=.pure fun
  | [.list n_xs c_xs]=>((Is cB n_xs c_xs) ∧ ((de cB c_xs).length ≤ 1048576),fr 1 cB (de cB c_xs))
  | _=>(False,.any)
theorem zanb:ConOk Tryz.prog 90 zagw:=by
  refine ⟨Qo Tryz.func90 (by decide) rfl,fun args h=>?_⟩
  revert h
  dsimp only
  split
  · intro h
    obtain ⟨⟨xs,rfl,rfl⟩,h0⟩:=h
    try simp only [Qp] at *
    exact ⟨CloneB_pure xs h0,by simp [go_sem]⟩
  · intro h
    exact h.elim
@[go_sem] def Γu2:FuncId → Con:=ext Γu1 90 zagw
theorem Γu2_ok:∀ g,ConOk Tryz.prog g (Γu2 g):=Qn Γu1_ok zanb

theorem cloneB_pure (xs:List Bool) (h0:xs.length ≤ 1048576):Pure Tryz.prog 67 [li cB xs] (fr 1 cB xs):=by
  refine Pure.of_walk Tryz.func67 rfl (by simp [Tryz.f67]) (by simp [-zd,go_sem]) fun B hK=>?_
  (repeat' (first
 | refine Qs ?_
 | refine Qc (id:=0) Γu2_ok [] (by kernel_rfl) ?_;simp [-zg,-zd,↓Qb,↓Qa,go_sem]
 | refine Qc (id:=1) Γu2_ok [] (by kernel_rfl) ?_;simp [-zg,-zd,↓Qb,↓Qa,go_sem,h0]
 | (refine Qf ?_)
 | (refine Qr ?_;simp [-zg,-zd,↓Qb,↓Qa,go_sem])
 | (refine Qq ?_;simp [-zg,-zd,↓Qb,↓Qa,go_sem])
 | (refine Qt ?_;simp [-zg,-zd,↓Qb,↓Qa,go_sem,Tryz.results67])
 | (intro hx;refine zA ?_)
 | (refine ⟨?_,?_⟩ <;> refine zA ?_)
 | (intro hx;constructor <;> intro hs)
 | (constructor <;> intro hs)
 | (refine ⟨?_,fun hs=>?_⟩;refine zA ?_)
 | (refine ⟨fun hs=>?_,?_⟩;rotate_left;refine zA ?_;rotate_left)))
@[go_sem] def zagq:Con:=.pure fun
  | [.list n_xs c_xs]=>((Is cB n_xs c_xs) ∧ ((de cB c_xs).length ≤ 1048576),fr 1 cB (de cB c_xs))
  | _=>(False,.any)
theorem zamv:ConOk Tryz.prog 67 zagq:=by
  refine ⟨Qo Tryz.func67 (by decide) rfl,fun args h=>?_⟩
  revert h
  dsimp only
  split
  · intro h
    obtain ⟨⟨xs,rfl,rfl⟩,h0⟩:=h
    try simp only [Qp] at *
    exact ⟨cloneB_pure xs h0,by simp [go_sem]⟩
  · intro h
    exact h.elim
@[go_sem] def Γu3:FuncId → Con:=ext Γu2 67 zagq
theorem Γu3_ok:∀ g,ConOk Tryz.prog g (Γu3 g):=Qn Γu2_ok zamv

theorem clipT_spec (xs:List Tr4) (H:Hp):Spec Tryz.prog 91 [fr 4 cT xs] H (fr 4 cT xs) H:=by
  refine Spec.of_walk Tryz.func91 rfl (by simp [Tryz.f91]) fun B=>?_
  refine Vl 0 rfl fun b cp j hb hcp hj=>?_
  (repeat' (first
 | refine Qs ?_
 | refine Qc (id:=0) Γu3_ok [] (by kernel_rfl) ?_;simp [-zg,-zd,↓Qb,↓Qa,go_sem]
 | refine Qc (id:=1) Γu3_ok [] (by kernel_rfl) ?_;simp [-zg,-zd,↓Qb,↓Qa,go_sem,hcp,Vr];try (refine zaiw 2 (b:=b) (all:=cat cT xs ++ List.replicate j .any) rfl (by simp [go_sem]) (by omega) (by simp [Qv]) (by simp [Qv]) ?_)
 | (refine Qf ?_)
 | (refine Qr ?_;simp [-zg,-zd,↓Qb,↓Qa,go_sem])
 | (refine Qq ?_;simp [-zg,-zd,↓Qb,↓Qa,go_sem])
 | (refine Qt ?_;simp [-zg,-zd,↓Qb,↓Qa,go_sem,Tryz.results91])
 | (intro hx;refine zA ?_)
 | (refine ⟨?_,?_⟩ <;> refine zA ?_)
 | (intro hx;constructor <;> intro hs)
 | (constructor <;> intro hs)
 | (refine ⟨?_,fun hs=>?_⟩;refine zA ?_)
 | (refine ⟨fun hs=>?_,?_⟩;rotate_left;refine zA ?_;rotate_left)))
  all_goals (intro b' cs' h;refine ⟨?_,h⟩;rintro rfl;dsimp only at hb;rw [h] at hb;cases hb)
@[go_sem] def clipTC:Con:=.gen fun args H=>match args with
  | [.fr 4 n cs]=>(Is cT n cs,fr 4 cT (de cT cs),H)
  | _=>(False,.any,H)
theorem clipTC_ok:ConOk Tryz.prog 91 clipTC:=by
  refine ⟨Qo Tryz.func91 (by decide) rfl,fun args H h=>?_⟩
  revert h
  dsimp only
  split
  · rintro ⟨xs,rfl,rfl⟩
    rw [Qp]
    exact clipT_spec xs H
  · intro h
    exact h.elim
@[go_sem] def Γu4:FuncId → Con:=ext Γu3 91 clipTC
theorem Γu4_ok:∀ g,ConOk Tryz.prog g (Γu4 g):=Qn Γu3_ok clipTC_ok

theorem CloneT_pure (xs:List Tr4) (h0:xs.length ≤ 1048576):Pure Tryz.prog 92 [li cT xs] (fr 4 cT xs):=by
  refine Pure.of_walk Tryz.func92 rfl (by simp [Tryz.f92]) (by simp [-zd,go_sem]) fun B hK=>?_
  by_cases hn:xs = []
  all_goals (repeat' (first
 | refine Qs ?_
 | refine Qc (id:=0) Γu4_ok [] (by kernel_rfl) ?_;simp [-zg,-zd,↓Qb,↓Qa,go_sem,hn]
 | refine Qc (id:=1) Γu4_ok [] (by kernel_rfl) ?_;simp [-zg,-zd,↓Qb,↓Qa,go_sem,hn]
 | refine Qc (id:=2) Γu4_ok [] (by kernel_rfl) ?_;simp [-zg,-zd,↓Qb,↓Qa,go_sem,hn];try (try (refine zamh 2 4 rfl ?_))
 | refine Qc (id:=3) Γu4_ok [] (by kernel_rfl) ?_;simp [-zg,-zd,↓Qb,↓Qa,go_sem,(by omega:xs.length ≤ 9223372036854775807),(by omega:2 * xs.length * 32 ≤ 281474976710656),(by omega:2 * xs.length ≤ 281474976710656),hn]
 | refine Qe (c:=.tmp 4) ?_;simp [-zg,-zd,↓Qb,↓Qa,go_sem,hn];try first | (refine ⟨?_,?_⟩ <;> refine zA ?_) | (refine ⟨fun c4=>?_,fun c4=>?_⟩ <;> (try simp [B_iff,B_not] at c4))
 | (refine Qf ?_)
 | (refine Qr ?_;simp [-zg,-zd,↓Qb,↓Qa,go_sem])
 | (refine Qq ?_;simp [-zg,-zd,↓Qb,↓Qa,go_sem])
 | (refine Qt ?_;simp [-zg,-zd,↓Qb,↓Qa,go_sem,Tryz.results92,hn])
 | (intro hx;refine zA ?_)
 | (refine ⟨?_,?_⟩ <;> refine zA ?_)
 | (intro hx;constructor <;> intro hs)
 | (constructor <;> intro hs)
 | (refine ⟨?_,fun hs=>?_⟩;refine zA ?_)
 | (refine ⟨fun hs=>?_,?_⟩;rotate_left;refine zA ?_;rotate_left)))
@[go_sem] def zagv:Con:=.pure fun
  | [.list n_xs c_xs]=>((Is cT n_xs c_xs) ∧ ((de cT c_xs).length ≤ 1048576),fr 4 cT (de cT c_xs))
  | _=>(False,.any)
theorem zana:ConOk Tryz.prog 92 zagv:=by
  refine ⟨Qo Tryz.func92 (by decide) rfl,fun args h=>?_⟩
  revert h
  dsimp only
  split
  · intro h
    obtain ⟨⟨xs,rfl,rfl⟩,h0⟩:=h
    try simp only [Qp] at *
    exact ⟨CloneT_pure xs h0,by simp [go_sem]⟩
  · intro h
    exact h.elim
@[go_sem] def Γu5:FuncId → Con:=ext Γu4 92 zagv
theorem Γu5_ok:∀ g,ConOk Tryz.prog g (Γu5 g):=Qn Γu4_ok zana

theorem cloneT_pure (xs:List Tr4) (h0:xs.length ≤ 1048576):Pure Tryz.prog 68 [li cT xs] (fr 4 cT xs):=by
  refine Pure.of_walk Tryz.func68 rfl (by simp [Tryz.f68]) (by simp [-zd,go_sem]) fun B hK=>?_
  (repeat' (first
 | refine Qs ?_
 | refine Qc (id:=0) Γu5_ok [] (by kernel_rfl) ?_;simp [-zg,-zd,↓Qb,↓Qa,go_sem]
 | refine Qc (id:=1) Γu5_ok [] (by kernel_rfl) ?_;simp [-zg,-zd,↓Qb,↓Qa,go_sem,h0]
 | (refine Qf ?_)
 | (refine Qr ?_;simp [-zg,-zd,↓Qb,↓Qa,go_sem])
 | (refine Qq ?_;simp [-zg,-zd,↓Qb,↓Qa,go_sem])
 | (refine Qt ?_;simp [-zg,-zd,↓Qb,↓Qa,go_sem,Tryz.results68])
 | (intro hx;refine zA ?_)
 | (refine ⟨?_,?_⟩ <;> refine zA ?_)
 | (intro hx;constructor <;> intro hs)
 | (constructor <;> intro hs)
 | (refine ⟨?_,fun hs=>?_⟩;refine zA ?_)
 | (refine ⟨fun hs=>?_,?_⟩;rotate_left;refine zA ?_;rotate_left)))
@[go_sem] def zagp:Con:=.pure fun
  | [.list n_xs c_xs]=>((Is cT n_xs c_xs) ∧ ((de cT c_xs).length ≤ 1048576),fr 4 cT (de cT c_xs))
  | _=>(False,.any)
theorem zamu:ConOk Tryz.prog 68 zagp:=by
  refine ⟨Qo Tryz.func68 (by decide) rfl,fun args h=>?_⟩
  revert h
  dsimp only
  split
  · intro h
    obtain ⟨⟨xs,rfl,rfl⟩,h0⟩:=h
    try simp only [Qp] at *
    exact ⟨cloneT_pure xs h0,by simp [go_sem]⟩
  · intro h
    exact h.elim
@[go_sem] def Γu6:FuncId → Con:=ext Γu5 68 zagp
theorem Γu6_ok:∀ g,ConOk Tryz.prog g (Γu6 g):=Qn Γu5_ok zamu

theorem copyOf_pure (a:List Int) (b:List Bool) (c:List Tr4) (h0:a.length ≤ 1048576) (h1:b.length ≤ 1048576) (h2:c.length ≤ 1048576):Pure Tryz.prog 32 [.st [li cI a,li cB b,li cT c]] (.st [fr 1 cI a,fr 1 cB b,fr 4 cT c]):=by
  refine Pure.of_walk Tryz.func32 rfl (by simp [Tryz.f32]) (by simp [-zd,go_sem]) fun B hK=>?_
  (repeat' (first
 | refine Qs ?_
 | refine Qc (id:=0) Γu6_ok [] (by kernel_rfl) ?_;simp [-zg,-zd,↓Qb,↓Qa,go_sem,h0,h1,h2];try (refine Xg hK 1 ?_;simp [go_sem])
 | refine Xx (id:=1) Γu6_ok mixed [] [1] (by kernel_rfl) (by kernel_rfl) (by simp [-zg,-zd,↓Qb,↓Qa,go_sem,h0,h1,h2]) ?_;simp [-zg,-zd,↓Qb,↓Qa,go_sem,h0,h1,h2]
 | (refine Qf ?_)
 | (refine Qr ?_;simp [-zg,-zd,↓Qb,↓Qa,go_sem])
 | (refine Qq ?_;simp [-zg,-zd,↓Qb,↓Qa,go_sem])
 | (refine Qt ?_;simp [-zg,-zd,↓Qb,↓Qa,go_sem,Tryz.results32,h0,h1,h2])
 | (intro hx;refine zA ?_)
 | (refine ⟨?_,?_⟩ <;> refine zA ?_)
 | (intro hx;constructor <;> intro hs)
 | (constructor <;> intro hs)
 | (refine ⟨?_,fun hs=>?_⟩;refine zA ?_)
 | (refine ⟨fun hs=>?_,?_⟩;rotate_left;refine zA ?_;rotate_left)))
@[go_sem] def zago:Con:=.pure fun
  | [.st [.list n_a c_a,.list n_b c_b,.list n_c c_c]]=>((Is cI n_a c_a) ∧ (Is cB n_b c_b) ∧ (Is cT n_c c_c) ∧ ((de cI c_a).length ≤ 1048576) ∧ ((de cB c_b).length ≤ 1048576) ∧ ((de cT c_c).length ≤ 1048576),.st [fr 1 cI (de cI c_a),fr 1 cB (de cB c_b),fr 4 cT (de cT c_c)])
  | _=>(False,.any)
theorem zamt:ConOk Tryz.prog 32 zago:=by
  refine ⟨Qo Tryz.func32 (by decide) rfl,fun args h=>?_⟩
  revert h
  dsimp only
  split
  · intro h
    obtain ⟨⟨a,rfl,rfl⟩,⟨b,rfl,rfl⟩,⟨c,rfl,rfl⟩,h0,h1,h2⟩:=h
    try simp only [Qp] at *
    exact ⟨copyOf_pure a b c h0 h1 h2,by simp [go_sem]⟩
  · intro h
    exact h.elim
@[go_sem] def Γu7:FuncId → Con:=ext Γu6 32 zago
theorem Zp:∀ g,ConOk Tryz.prog g (Γu7 g):=Qn Γu6_ok zamt


def tm (k:Int) (i:Nat):Tr4:=(k + 4 * i,k + 4 * i + 1,k + 4 * i + 1 + 1,k + 4 * i + 1 + 1 + 1)
def Zm (k:Int) (n:Nat):List Tr4:=(List.range n).map fun (i:Nat)=>tm k i
@[go_sem] theorem zakx (k:Int) (n:Nat):(Zm k n).length = n:=by simp [Zm]
def mkT (k:Int) (xs:List Tr4) (i:Nat):List Tr4:=Zm k i ++ xs.drop i
theorem mkT_zero (k:Int) (xs:List Tr4):mkT k xs 0 = xs:=by simp [mkT,Zm]
theorem mkT_all (k:Int) (xs:List Tr4):mkT k xs xs.length = Zm k xs.length:=by simp [mkT]
theorem mkT_len {k:Int} {xs:List Tr4} {i:Nat} (h:i ≤ xs.length):(mkT k xs i).length = xs.length:=by simp [mkT,zakx];omega
theorem mkT_set {k:Int} {xs:List Tr4} {i:Nat} (h:i < xs.length):(mkT k xs i).set i (tm k i) = mkT k xs (i + 1):=by
  have m:Zm k (i + 1) = Zm k i ++ [tm k i]:=by simp [Zm,List.range_succ]
  unfold mkT
  rw [List.drop_eq_getElem_cons h,set_mid (by rw [zakx]),m]
  simp
theorem cat_set4:∀ {xs:List Tr4} {i:Nat} {ys:List D} {x:Tr4},i < xs.length → ((((cat cT xs ++ ys).set (i * 4) (.int .i64 x.1)).set (i * 4 + 1) (.int .i64 x.2.1)).set (i * 4 + 2) (.int .i64 x.2.2.1)).set (i * 4 + 3) (.int .i64 x.2.2.2) = cat cT (xs.set i x) ++ ys
  | [],i,ys,x,h=>by simp at h
  | z :: xs,0,ys,x,h=>by
    rw [Xk,List.set_cons_zero,Xk];rfl
  | z :: xs,i + 1,ys,x,h=>by
    rw [Xk,List.set_cons_succ,Xk,List.append_assoc,List.append_assoc]
    have:=cat_set4 (xs:=xs) (i:=i) (ys:=ys) (x:=x) (by simpa using h)
    have e:(i + 1) * 4 = i * 4 + 1 + 1 + 1 + 1:=by omega
    rw [e]
    simp only [cT,List.cons_append,List.nil_append,List.set_cons_succ]
    rw [this]
structure ME (b:Nat) (cs:List D) (H H1:Hp):Prop where
  here:H1 b = some cs
  rest:∀ z,¬ z = b → H1 z = H z
theorem ME.set {b:Nat} {cs cs':List D} {H H1 H2:Hp} (h:ME b cs H H1) (h2:H2 b = some cs') (h3:∀ z,¬ z = b → H2 z = H1 z):ME b cs' H H2:=⟨h2,fun z hz=>by rw [h3 z hz];exact h.rest z hz⟩
set_option maxHeartbeats 1000000 in
theorem markTx_spec (xs:List Tr4) (k:Int) (b cp:Nat) (junk:List D) (H:Hp) (hH:H b = some (cat cT xs ++ junk)) (h0:0 ≤ k) (h1:k + 4 * xs.length ≤ 1099511627776) :
    Spec Tryz.prog 38 [.sl b 4 0 xs.length cp,.int .i64 k] H (.int .i64 (k + 4 * xs.length)) (upd H b (some (cat cT (Zm k xs.length) ++ junk))):=by
  refine Spec.of_walk Tryz.func38 rfl (by simp [Tryz.f38]) fun B=>?_
  (repeat' (first
 | refine Qs ?_
 | refine Qc (id:=0) Zp [] (by kernel_rfl) ?_;simp [-zg,-zd,↓Qb,↓Qa,go_sem]
 | refine Qc (id:=1) Zp [] (by kernel_rfl) ?_;simp [-zg,-zd,↓Qb,↓Qa,go_sem]
 | refine Qc (id:=2) Zp [] (by kernel_rfl) ?_;simp [-zg,-zd,↓Qb,↓Qa,go_sem]
 | ((have w1:=g2.here);(have hml:=mkT_len (k:=k) (xs:=xs) (i:=q.1) (by omega));(have hst:=cat_set4 (xs:=mkT k xs q.1) (i:=q.1) (ys:=junk) (x:=tm k q.1) (by omega));(rw [mkT_set (by omega)] at hst);(simp only [tm] at hst);(have hcl:(cat cT (mkT k xs q.1) ++ junk).length = xs.length * 4 + junk.length:=(by rw [List.length_append,Qv,hml]));(obtain ⟨c0,hc0⟩:∃ c0,cat cT (mkT k xs q.1) ++ junk = c0:=⟨_,rfl⟩);(rw [hc0] at w1 hst hcl g2));refine Qc (id:=4) Zp [] (by kernel_rfl) ?_;simp [-zg,-zd,↓Qb,↓Qa,go_sem,w1,hcl,c9,(show q.1 * 4 + 4 ≤ xs.length * 4 + junk.length by omega),(show q.1 * 4 < xs.length * 4 + junk.length by omega),(show q.1 * 4 + 1 ≤ xs.length * 4 + junk.length by omega)];try ((obtain ⟨c1,hc1⟩:∃ c1,c0.set (q.1 * 4) (.int .i64 (k + 4 * (q.1:Int))) = c1:=⟨_,rfl⟩);(have hl1:c1.length = xs.length * 4 + junk.length:=(by rw [← hc1,List.length_set];exact hcl));(rw [hc1] at hst);(refine Qx (fun H1=>ME b c1 H H1) (ME.set g2 (by simp [upd,Ut,hc1]) (by intro z hz;simp [upd,hz])) fun H1 t1=>?_);(have w2:=t1.here))
 | refine Qc (id:=5) Zp [] (by kernel_rfl) ?_;simp [-zg,-zd,↓Qb,↓Qa,go_sem,wrap_in (x:=k + 4 * (q.1:Int) + 1) (by omega) (by omega)]
 | refine Qc (id:=6) Zp [] (by kernel_rfl) ?_;simp [-zg,-zd,↓Qb,↓Qa,go_sem,w2,hl1,c9,(show q.1 * 4 + 4 ≤ xs.length * 4 + junk.length by omega),(show q.1 * 4 + 1 < xs.length * 4 + junk.length by omega),(show q.1 * 4 + 1 + 1 ≤ xs.length * 4 + junk.length by omega)];try ((obtain ⟨c2,hc2⟩:∃ c2,c1.set (q.1 * 4 + 1) (.int .i64 (k + 4 * (q.1:Int) + 1)) = c2:=⟨_,rfl⟩);(have hl2:c2.length = xs.length * 4 + junk.length:=(by rw [← hc2,List.length_set];exact hl1));(rw [hc2] at hst);(refine Qx (fun H1=>ME b c2 H H1) (ME.set t1 (by simp [upd,Ut,hc2]) (by intro z hz;simp [upd,hz])) fun H2 t2=>?_);(have w3:=t2.here))
 | refine Qc (id:=7) Zp [] (by kernel_rfl) ?_;simp [-zg,-zd,↓Qb,↓Qa,go_sem,wrap_in (x:=k + 4 * (q.1:Int) + 1 + 1) (by omega) (by omega)]
 | refine Qc (id:=8) Zp [] (by kernel_rfl) ?_;simp [-zg,-zd,↓Qb,↓Qa,go_sem,w3,hl2,c9,(show q.1 * 4 + 4 ≤ xs.length * 4 + junk.length by omega),(show q.1 * 4 + 2 < xs.length * 4 + junk.length by omega),(show q.1 * 4 + 2 + 1 ≤ xs.length * 4 + junk.length by omega)];try ((obtain ⟨c3,hc3⟩:∃ c3,c2.set (q.1 * 4 + 2) (.int .i64 (k + 4 * (q.1:Int) + 1 + 1)) = c3:=⟨_,rfl⟩);(have hl3:c3.length = xs.length * 4 + junk.length:=(by rw [← hc3,List.length_set];exact hl2));(rw [hc3] at hst);(refine Qx (fun H1=>ME b c3 H H1) (ME.set t2 (by simp [upd,Ut,hc3]) (by intro z hz;simp [upd,hz])) fun H3 t3=>?_);(have w4:=t3.here))
 | refine Qc (id:=9) Zp [] (by kernel_rfl) ?_;simp [-zg,-zd,↓Qb,↓Qa,go_sem,wrap_in (x:=k + 4 * (q.1:Int) + 1 + 1 + 1) (by omega) (by omega)]
 | refine Qc (id:=10) Zp [] (by kernel_rfl) ?_;simp [-zg,-zd,↓Qb,↓Qa,go_sem,w4,hl3,c9,(show q.1 * 4 + 4 ≤ xs.length * 4 + junk.length by omega),(show q.1 * 4 + 3 < xs.length * 4 + junk.length by omega),(show q.1 * 4 + 3 + 1 ≤ xs.length * 4 + junk.length by omega)];try ((refine Qx (fun H1=>ME b (cat cT (mkT k xs (q.1 + 1)) ++ junk) H H1) (ME.set t3 (by simp [upd,Ut,hst]) (by intro z hz;simp [upd,hz])) fun H9 t5=>?_))
 | refine Qc (id:=11) Zp [] (by kernel_rfl) ?_;simp [-zg,-zd,↓Qb,↓Qa,go_sem,wrap_in (x:=k + 4 * (q.1:Int) + 1 + 1 + 1 + 1) (by omega) (by omega)]
 | refine Qc (id:=3) Zp [] (by kernel_rfl) ?_;simp [-zg,-zd,↓Qb,↓Qa,go_sem,wrapS (k:=q.1) (by omega)]
 | refine Qc (id:=12) Zp [] (by kernel_rfl) ?_;simp [-zg,-zd,↓Qb,↓Qa,go_sem]
 | refine Qe (c:=.tmp 9) ?_;simp [-zg,-zd,↓Qb,↓Qa,go_sem];try first | (refine ⟨?_,?_⟩ <;> refine zA ?_) | (refine ⟨fun c9=>?_,fun c9=>?_⟩ <;> (try simp [B_iff,B_not] at c9))
 | (refine Qf (id:=0) (Qz (ι:=Nat × Hp) (fun q:Nat × Hp=>⟨(upd (upd (upd (fun _=>.any) 0 (.sl b 4 0 xs.length cp)) 1 (.int .i64 (k + 4 * q.1))) 5 (.int .i64 q.1)),q.2⟩) (fun q=>q.1 ≤ xs.length ∧ ME b (cat cT (mkT k xs q.1) ++ junk) H q.2) (fun q=>xs.length - q.1) ((0,H)) ?_ ?_ ?_);exact ⟨Nat.zero_le _,⟨by rw [mkT_zero];exact hH,fun z hz=>rfl⟩⟩;((repeat' (first | exact Qk (by assumption) | exact Qm | refine Qj ?_ ?_ | refine Ql ?_)) <;> simp [-zg,-zd,↓Qb,↓Qa,go_sem]);rintro q ⟨g1,g2⟩)
 | (refine ⟨(q.1 + 1,H9),⟨by dsimp only;omega,t5⟩,by first | omega | (simp;done) | (simp;omega),?_⟩;((repeat' (first | exact Qk (by assumption) | exact Qm | refine Qj ?_ ?_ | refine Ql ?_)) <;> simp [-zg,-zd,↓Qb,↓Qa,go_sem,(show k + 4 * ((q.1:Int) + 1) = k + 4 * (q.1:Int) + 1 + 1 + 1 + 1 by omega),(show k + 4 * ((q.1 + 1:Nat):Int) = k + 4 * (q.1:Int) + 1 + 1 + 1 + 1 by omega)]))
 | (refine Qf ?_)
 | (refine Qr ?_;simp [-zg,-zd,↓Qb,↓Qa,go_sem])
 | (refine Qq ?_;simp [-zg,-zd,↓Qb,↓Qa,go_sem])
 | (refine Qt ?_;simp [-zg,-zd,↓Qb,↓Qa,go_sem,Tryz.results38])
 | (intro hx;refine zA ?_)
 | (refine ⟨?_,?_⟩ <;> refine zA ?_)
 | (intro hx;constructor <;> intro hs)
 | (constructor <;> intro hs)
 | (refine ⟨?_,fun hs=>?_⟩;refine zA ?_)
 | (refine ⟨fun hs=>?_,?_⟩;rotate_left;refine zA ?_;rotate_left)))
  all_goals (first
 | (have e:q.1 = xs.length:=(by omega);(have h8:=g2.here);(rw [e,mkT_all] at h8);refine ⟨by omega,fun z cs h=>?_⟩;by_cases ez:z = b;(subst ez;simp [upd] at h;rw [h8,h]);(simp [upd,ez] at h;rw [g2.rest z ez];exact h))
 | (have e:q.1 = xs.length:=(by omega);(have h8:=g2.here);(rw [e,mkT_all] at h8);refine ⟨by rw [e],fun z cs h=>?_⟩;by_cases ez:z = b;(subst ez;simp [upd] at h;rw [h8,h]);(simp [upd,ez] at h;rw [g2.rest z ez];exact h))
 | skip)
@[go_sem] def markTxC:Con:=.gen fun args H=>match args with
  | [.sl b 4 0 n _,.int .i64 k]=>match H b with
    | some all=>(n * 4 ≤ all.length ∧ Is cT n (all.take (n * 4)) ∧ 0 ≤ k ∧ k + 4 * n ≤ 1099511627776,.int .i64 (k + 4 * n),upd H b (some (cat cT (Zm k n) ++ all.drop (n * 4))))
    | none=>(False,.any,H)
  | _=>(False,.any,H)
theorem markTxC_ok:ConOk Tryz.prog 38 markTxC:=by
  refine ⟨Qo Tryz.func38 (by decide) rfl,fun args H h=>?_⟩
  revert h
  dsimp only
  split
  · rename_i b n cp k
    split
    · rename_i all hH
      rintro ⟨g1,⟨xs,hn,he⟩,g2,g3⟩
      subst hn
      have:all = cat cT xs ++ all.drop (xs.length * 4):=by rw [← he,List.take_append_drop]
      rw [this] at hH
      exact markTx_spec xs k b cp _ H hH g2 g3
    · intro h;exact h.elim
  · intro h
    exact h.elim
@[go_sem] def Γu8:FuncId → Con:=ext Γu7 38 markTxC
theorem zane:∀ g,ConOk Tryz.prog g (Γu8 g):=Qn Zp markTxC_ok
@[go_sem] theorem cat_drop_app_cT (xs:List Tr4) (ys:List D):(cat cT xs ++ ys).drop (xs.length * 4) = ys:=zaly xs ys
@[go_sem] theorem zamw (xs:List Tr4) (ys:List D):(cat cT xs ++ ys).take (xs.length * 4) = cat cT xs:=Vr xs ys

set_option maxHeartbeats 2000000 in
theorem markAx_spec (a:List Int) (b:List Bool) (c:List Tr4) (k:Int) (b1 b2 b3 c1 c2 c3:Nat) (j1 j2 j3:List D) (H:Hp) (h1:H b1 = some (cat cI a ++ j1)) (h2:H b2 = some (cat cB b ++ j2)) (h3:H b3 = some (cat cT c ++ j3)) (n12:¬ b1 = b2) (n13:¬ b1 = b3) (n23:¬ b2 = b3) (h0:0 ≤ k) (hk:k + a.length + b.length + 4 * c.length ≤ 1099511627776) :
    Spec Tryz.prog 9 [.st [.sl b1 1 0 a.length c1,.sl b2 1 0 b.length c2,.sl b3 4 0 c.length c3],.int .i64 k] H (.int .i64 (k + a.length + b.length + 4 * c.length))
      (upd (upd (upd H b1 (some (cat cI (marks k a.length) ++ j1))) b2 (some (cat cB (Zn (k + a.length) b.length) ++ j2))) b3 (some (cat cT (Zm (k + a.length + b.length) c.length) ++ j3))):=by
  refine Spec.of_walk Tryz.func9 rfl (by simp [Tryz.f9]) fun B=>?_
  (repeat' (first
 | refine Qs ?_
 | refine Qc (id:=0) zane [] (by kernel_rfl) ?_;simp [-zg,-zd,↓Qb,↓Qa,go_sem];try (refine Jd 2 rfl fun b0 hb0=>?_;have m1:¬ b1 = b0:=(by rintro rfl;dsimp only at hb0;rw [h1] at hb0;cases hb0);have m2:¬ b2 = b0:=(by rintro rfl;dsimp only at hb0;rw [h2] at hb0;cases hb0);have m3:¬ b3 = b0:=(by rintro rfl;dsimp only at hb0;rw [h3] at hb0;cases hb0))
 | refine Qc (id:=1) zane [] (by kernel_rfl) ?_;simp [-zg,-zd,↓Qb,↓Qa,go_sem,m1,h1,h0,(show k + (a.length:Int) ≤ 1099511627776 by omega),(show a.length ≤ a.length + j1.length by omega)]
 | refine Qc (id:=2) zane [] (by kernel_rfl) ?_;simp [-zg,-zd,↓Qb,↓Qa,go_sem,m1,m2,zS m1,zS m2,n12,zS n12,h2,(show 0 ≤ k + (a.length:Int) by omega),(show k + (a.length:Int) + (b.length:Int) ≤ 1099511627776 by omega),(show b.length ≤ b.length + j2.length by omega)]
 | refine Qc (id:=3) zane [] (by kernel_rfl) ?_;simp [-zg,-zd,↓Qb,↓Qa,go_sem,m1,m2,m3,zS m1,zS m2,zS m3,n12,zS n12,n13,zS n13,n23,zS n23,h3,(show 0 ≤ k + (a.length:Int) + (b.length:Int) by omega),hk,(show c.length * 4 ≤ c.length * 4 + j3.length by omega)]
 | refine Qc (id:=4) zane [] (by kernel_rfl) ?_;simp [-zg,-zd,↓Qb,↓Qa,go_sem]
 | (refine Qf ?_)
 | (refine Qr ?_;simp [-zg,-zd,↓Qb,↓Qa,go_sem])
 | (refine Qq ?_;simp [-zg,-zd,↓Qb,↓Qa,go_sem])
 | (refine Qt ?_;simp [-zg,-zd,↓Qb,↓Qa,go_sem,Tryz.results9])
 | (intro hx;refine zA ?_)
 | (refine ⟨?_,?_⟩ <;> refine zA ?_)
 | (intro hx;constructor <;> intro hs)
 | (constructor <;> intro hs)
 | (refine ⟨?_,fun hs=>?_⟩;refine zA ?_)
 | (refine ⟨fun hs=>?_,?_⟩;rotate_left;refine zA ?_;rotate_left)))
  all_goals (first
 | (intro b' cs' h;dsimp only at hb0;by_cases e3:b' = b3 <;> by_cases e2:b' = b2 <;> by_cases e1:b' = b1 <;> by_cases e0:b' = b0 <;> simp_all)
 | skip)
@[go_sem] def markAxC:Con:=.gen fun args H=>match args with
  | [.st [.sl b1 1 0 n _,.sl b2 1 0 m _,.sl b3 4 0 o _],.int .i64 k]=>match H b1,H b2,H b3 with
    | some a1,some a2,some a3=>(¬ b1 = b2 ∧ ¬ b1 = b3 ∧ ¬ b2 = b3 ∧ n ≤ a1.length ∧ m ≤ a2.length ∧ o * 4 ≤ a3.length ∧ Is cI n (a1.take n) ∧ Is cB m (a2.take m) ∧ Is cT o (a3.take (o * 4)) ∧ 0 ≤ k ∧ k + n + m + 4 * o ≤ 1099511627776,
        .int .i64 (k + n + m + 4 * o),upd (upd (upd H b1 (some (cat cI (marks k n) ++ a1.drop n))) b2 (some (cat cB (Zn (k + n) m) ++ a2.drop m))) b3 (some (cat cT (Zm (k + n + m) o) ++ a3.drop (o * 4))))
    | _,_,_=>(False,.any,H)
  | _=>(False,.any,H)
theorem markAxC_ok:ConOk Tryz.prog 9 markAxC:=by
  refine ⟨Qo Tryz.func9 (by decide) rfl,fun args H h=>?_⟩
  revert h
  dsimp only
  split
  · rename_i b1 n c1 b2 m c2 b3 o c3 k
    split
    · rename_i a1 a2 a3 hH1 hH2 hH3
      rintro ⟨g1,g2,g3,g4,g5,g6,⟨xs,hn,he⟩,⟨ys,hm,hf⟩,⟨zs,ho,hg⟩,g8,g9⟩
      subst hn hm ho
      have e1:a1 = cat cI xs ++ a1.drop xs.length:=by rw [← he,List.take_append_drop]
      have e2:a2 = cat cB ys ++ a2.drop ys.length:=by rw [← hf,List.take_append_drop]
      have e3:a3 = cat cT zs ++ a3.drop (zs.length * 4):=by rw [← hg,List.take_append_drop]
      rw [e1] at hH1
      rw [e2] at hH2
      rw [e3] at hH3
      exact markAx_spec xs ys zs k b1 b2 b3 c1 c2 c3 _ _ _ H hH1 hH2 hH3 g1 g2 g3 g8 g9
    · intro h;exact h.elim
  · intro h
    exact h.elim
@[go_sem] def Γu9:FuncId → Con:=ext Γu8 9 markAxC
theorem Γu9_ok:∀ g,ConOk Tryz.prog g (Γu9 g):=Qn zane markAxC_ok

def heldTr (k:Int) (xs:List Tr4):Int:=if xs = Zm k xs.length then k + 4 * xs.length else -1
@[go_sem] theorem heldTr_marks (k:Int) (n:Nat):heldTr k (Zm k n) = k + 4 * n:=by simp [heldTr,zakx]
@[go_sem] theorem heldTr_nil (k:Int):heldTr k [] = k:=by simp [heldTr,Zm]
@[go_sem] def Γu10:FuncId → Con:=Γu9
theorem Γu10_ok:∀ g,ConOk Tryz.prog g (Γu10 g):=Γu9_ok
@[go_sem] def Γu11:FuncId → Con:=Γu10
theorem Γu11_ok:∀ g,ConOk Tryz.prog g (Γu11 g):=Γu10_ok
end
end Go.Proofs.YtiilmjojffjhlaaGreatDoor.Vm

